/- Texts of ours, one behind the other: a walk that the kernel reckons, and contracts of functions. No condition. -/
import Derived.Test.YthkofaanekmpmaaGreatZ9
namespace Sx
set_option linter.unusedVariables false
set_option linter.unusedSimpArgs false
set_option maxRecDepth 100000
open Go Cv Go.Proofs
open Go Cv Go.Proofs
open Classical
structure Sd where
 levels:List Lv
 imp:Lv
 has:Bool
@[reducible] def Vw:=List (Sd×Sd)
def zC (b:Sd×Sd):List D:=[.ro 3 (b.1.levels.map lvE),.v (.int .i64 b.1.imp.price),.v (.int .i64 b.1.imp.qty),.v (.int .i64 b.1.imp.count),.v (.bool b.1.has),
 .ro 3 (b.2.levels.map lvE),.v (.int .i64 b.2.imp.price),.v (.int .i64 b.2.imp.qty),.v (.int .i64 b.2.imp.count),.v (.bool b.2.has)]
def sdV (s:Sd):V:= .agg [roV 3 (s.levels.map lvE),zA s.imp.price,zA s.imp.qty,zA s.imp.count,z7 s.has]
def vwV (v:Vw):V:= .agg [roV 10 (v.map zC)]
def xA (side x y:Int):Bool:=if side=1 then decide (y<x)else decide (x<y)
structure I3 where
 side:Int
 x:Int
 y:Int
def betterC:Con:=con1 I3 (fun i=>[zA i.side,zA i.x,zA i.y]) (fun _=>[]) (fun _=>True) (fun i=>z7 (xA i.side i.x i.y)) (fun _=>[])
def yFe (side:Int) (l:List Lv) (i:Nat):Prop:=∀a,l[i]?=some a→1≤a.qty∧1≤a.count∧∀j b,i=j+1→l[j]?=some b→xA side b.price a.price=true
def zSd (side:Int) (s:Sd):Prop:=(∀i,yFe side s.levels i)∧s.levels.length≤255∧(s.has=true→1≤s.imp.qty∧1≤s.imp.count)∧(s.has=false→s.imp=⟨0,0,0⟩)
def zTc (v:Vw):Prop:=(∀b∈v,zSd 1 b.1∧zSd 2 b.2)∧v.length≤255
@[reducible] def kE (v:Vw):Prop:=v.length≤1099511627776∧∀b∈v,b.1.levels.length≤1099511627776∧b.2.levels.length≤1099511627776
open Go Cv Go.Proofs
def yJt (i:I3):Prop:=
 cnd (i.side==1) (∃(o:Unit),xA i.side i.x i.y=decide (i.x>i.y)∧True) (∃(o:Unit),xA i.side i.x i.y=decide (i.x<i.y)∧True)
open Go Cv Go.Proofs
open Classical
theorem getD {α:Type} {l:List α} {i:Nat} (h:i<l.length):∃x,l[i]? =some x:=⟨_,yYe h⟩
theorem zQp:betterC.ok Tryz.prog 58:=okw (V:=yJt) mixed gok0 0 (fun _=>[]) (fun _=>[]) [] Tryz.func58 fun(i:I3) _=>by
 refine Cv.cnd.mk (fun e=>⟨(),?_,trivial⟩) (fun e=>⟨(),?_,trivial⟩)
 ·have e:i.side=1:=by simpa using e
  simp[xA,e]
 ·have e:i.side≠1:=by simpa using e
  simp[xA,e]
open Go Cv Go.Proofs
open Classical
open Go Cv Go.Proofs
open Classical
open Go Cv Go.Proofs
open Go Cv Go.Proofs
open Classical
open Go Cv Go.Proofs
open Classical
open Go Cv Go.Proofs
open Go Cv Go.Proofs
open Classical
open Go Cv Go.Proofs
open Go Cv Go.Proofs
open Go Cv Go.Proofs
open Go Cv Go.Proofs
open Go Cv Go.Proofs
structure MsgM where
 seq:Int
 inst:Int
 side:Int
 price:Int
 qty:Int
 count:Int
 implied:Bool
 deriving DecidableEq
def MsgM.raw (m:MsgM):Prop:=i64r m.seq∧i64r m.price∧i64r m.qty∧i64r m.count
open Go Cv Go.Proofs
deriving instance DecidableEq for Lv
def rA (s:Int) (L:List Lv):Prop:=L.Pairwise fun a b=>btr s a.price b.price=true
def lkL (L:List Lv) (p:Int):Option Lv:=L.find? fun l=>decide (l.price=p)
def bY (s:Int):List Lv→Lv→List Lv
 |[],m=>if 0<m.qty then[m]else[]
 |x::L,m=>if x.price=m.price then(if m.qty=0 then L else m::L)else if btr s m.price x.price=true then(if 0<m.qty then m::x::L else x::L)else x::bY s L m
def wY (s:Int):Nat→List Lv→List Lv→List Lv
 |0,_,_=>[]
 |k+1,[],[]=>[]
 |k+1,x::X,[]=>⟨x.price,0,0⟩::wY s k X []
 |k+1,[],y::Y=>y::wY s k [] Y
 |k+1,x::X,y::Y=>if btr s x.price y.price=true then⟨x.price,0,0⟩::wY s k X (y::Y)else if btr s y.price x.price=true then y::wY s k (x::X) Y else(if x=y then[]else[y])++wY s k X Y
theorem zMo {s x y z:Int} (h:btr s x y=true) (h2:btr s y z=true):btr s x z=true:=by
 rw[btr]at h h2 ⊢
 split
 ·rename_i e;rw[yWt e]at h h2;have:=yYh h;have:=yYh h2;exact yXi (by omega)
 ·rename_i e;rw[yWs e]at h h2;have:=yYh h;have:=yYh h2;exact yXi (by omega)
theorem zTk {s x y:Int} (h:btr s x y=true):x≠y:=by
 rintro rfl
 rw[btr]at h
 split at h<;>simp at h
theorem z5h {s x y:Int} (h:btr s x y=false) (hne:x≠y):btr s y x=true:=by
 rw[btr]at h ⊢
 split
 ·rename_i e;rw[yWt e]at h;have:=y0f h;exact yXi (by omega)
 ·rename_i e;rw[yWs e]at h;have:=y0f h;exact yXi (by omega)
theorem z5p {s p:Int} {L:List Lv} (h:∀l∈L,btr s p l.price=true):lkL L p=none:=by
 rw[lkL,List.find?_eq_none]
 intro l hl
 have:=zTk (h l hl)
 simp;omega
theorem aJ (x:Lv) (L:List Lv) (p:Int):lkL (x::L) p=if x.price=p then some x else lkL L p:=by
 rw[lkL,y2s,lkL]
 by_cases h:x.price=p<;>simp[h]
theorem z3o {s:Int} {m:Lv}:∀{L:List Lv} {l:Lv},l∈bY s L m→l=m∨l∈L
 |[],l,h=>by
  rw[bY]at h
  split at h
  ·exact .inl (yYl.1 h)
  ·cases h
 |x::L,l,h=>by
  rw[bY]at h
  split at h
  ·split at h
   ·exact .inr (yWz _ h)
   ·rcases yXl.1 h with h|h
    ·exact .inl h
    ·exact .inr (yWz _ h)
  split at h
  ·split at h
   ·rcases yXl.1 h with h|h
    ·exact .inl h
    ·exact .inr h
   ·exact .inr h
  ·rcases yXl.1 h with h|h
   ·exact .inr (h▸yWy)
   ·rcases z3o h with h|h
    ·exact .inl h
    ·exact .inr (yWz _ h)
theorem z2g {s:Int} {m:Lv}:∀{L:List Lv},rA s L→rA s (bY s L m)
 |[],_=>by
  rw[bY];split
  ·exact List.pairwise_singleton _ _
  ·exact List.Pairwise.nil
 |x::L,h=>by
  have h':=h
  rw[rA,yYy]at h
  rw[bY]
  split
  ·rename_i e
   split
   ·exact h.2
   ·exact yYy.2 ⟨fun l hl=>by rw[← e];exact h.1 l hl,h.2⟩
  rename_i hne
  split
  ·rename_i hb
   split
   ·refine yYy.2 ⟨fun l hl=> ?_,h'⟩
    rcases yXl.1 hl with rfl|hl
    ·exact hb
    ·exact zMo hb (h.1 l hl)
   ·exact h'
  ·rename_i hb
   refine yYy.2 ⟨fun l hl=> ?_,z2g h.2⟩
   rcases z3o hl with rfl|hl
   ·exact z5h (by simpa using hb) (fun e=>hne e.symm)
   ·exact h.1 l hl
theorem yAd {s:Int} {m:Lv} (hm:0≤m.qty):∀{L:List Lv},rA s L→∀p,lkL (bY s L m) p=if p=m.price then(if m.qty=0 then none else some m)else lkL L p
 |[],_,p=>by
  rw[bY]
  by_cases h0:m.qty=0
  ·rw[yWs (by omega),yWt h0];split<;>rfl
  ·rw[yWt (by omega),yWs h0,aJ]
   by_cases e:m.price=p
   ·rw[yWt e,yWt e.symm]
   ·rw[yWs e,yWs (fun h=>e h.symm)]
 |x::L,h,p=>by
  have h':=h
  rw[rA,yYy]at h
  rw[bY]
  by_cases hx:x.price=m.price
  ·rw[yWt hx]
   have hn:lkL L m.price=none:=z5p (s:=s) fun l hl=>by rw[← hx];exact h.1 l hl
   by_cases h0:m.qty=0
   ·rw[yWt h0,yWt h0,aJ]
    by_cases e:p=m.price
    ·rw[yWt e,e,hn]
    ·rw[yWs e,yWs (by omega)]
   ·rw[yWs h0,yWs h0,aJ,aJ]
    by_cases e:p=m.price
    ·rw[yWt e,yWt e.symm]
    ·rw[yWs e,yWs (fun h=>e h.symm),yWs (by omega)]
  rw[yWs hx]
  by_cases hb:btr s m.price x.price=true
  ·rw[yWt hb]
   have hn:lkL (x::L) m.price=none:=z5p (s:=s) fun l hl=>by
    rcases yXl.1 hl with rfl|hl
    ·exact hb
    ·exact zMo hb (h.1 l hl)
   by_cases h0:m.qty=0
   ·rw[yWs (by omega),yWt h0]
    by_cases e:p=m.price
    ·rw[yWt e,e,hn]
    ·rw[yWs e]
   ·rw[yWt (by omega),yWs h0,aJ]
    by_cases e:p=m.price
    ·rw[yWt e,yWt e.symm]
    ·rw[yWs e,yWs (fun h=>e h.symm)]
  ·rw[yWs hb,aJ,aJ,yAd hm h.2 p]
   by_cases e:x.price=p
   ·rw[yWt e,yWt e,yWs (by omega)]
   ·rw[yWs e,yWs e]
open Go Cv Go.Proofs
def yRo (L:List Lv):Prop:=∀l∈L,1≤l.qty
theorem zQl {s:Int}:∀(k:Nat) (A:List Lv),wY s k A A=[]
 |0,_=>rfl
 |k+1,[]=>rfl
 |k+1,x::A=>by
  rw[wY]
  have:btr s x.price x.price=false:=by rw[btr];split<;>simp
  rw[yWs (by rw[this];decide),yWs (by rw[this];decide),yWt rfl,zQl k A];rfl
open Go Cv Go.Proofs
def kJ (s:Int) (L:List Lv) (m:Lv):List Lv:=match L.findIdx? fun y=>decide (y.price=m.price)with
 |some n=>if m.qty=0 then L.eraseIdx n else L.set n m
 |none=>if 0<m.qty then L.take ((L.findIdx? fun y=>btr s m.price y.price).getD L.length)++m::L.drop ((L.findIdx? fun y=>btr s m.price y.price).getD L.length)else L
theorem zQb {s:Int} {m:Lv} (hq:0≤m.qty):∀{L:List Lv},rA s L→kJ s L m=bY s L m
 |[],_=>by
  rw[kJ,bY,List.findIdx?_nil]
  dsimp only
  split<;>rfl
 |x::L,h=>by
  rw[rA,yYy]at h
  have ih:=zQb hq h.2
  rw[bY]
  by_cases hx:x.price=m.price
  ·rw[yWt hx,kJ,y0y,yWt (by simp[hx])]
   dsimp only
   split<;>rfl
  rw[yWs hx]
  by_cases hb:btr s m.price x.price=true
  ·have hn:(x::L).findIdx? (fun y=>decide (y.price=m.price))=none:=by
    rw[y0v]
    intro l hl
    rcases yXl.1 hl with rfl|hl
    ·exact yXf hx
    ·have:=zTk (zMo hb (h.1 l hl))
     exact yXf fun e=>this e.symm
   rw[yWt hb,kJ,hn]
   dsimp only
   rw[y0y,yWt hb]
   rfl
  ·have e1:(x::L).findIdx? (fun y=>decide (y.price=m.price))=(L.findIdx? fun y=>decide (y.price=m.price)).map (·+1):=by
    rw[y0y,yWs (by simp[hx])]
   have e2:(x::L).findIdx? (fun y=>btr s m.price y.price)=(L.findIdx? fun y=>btr s m.price y.price).map (·+1):=by
    rw[y0y,yWs hb]
   rw[yWs hb,← ih,kJ,kJ,e1,e2]
   cases L.findIdx? (fun y=>decide (y.price=m.price))with
   |some n=>
    dsimp only[Option.map]
    split<;>rfl
   |none=>
    dsimp only[Option.map]
    split
    ·cases L.findIdx? (fun y=>btr s m.price y.price)<;>rfl
    ·rfl
theorem zYf {s:Int} {m:Lv}:∀(L:List Lv),(bY s L m).filter (fun l=> !decide (l.price=m.price))=L.filter (fun l=> !decide (l.price=m.price))
 |[]=>by rw[bY];split<;>simp
 |x::L=>by
  rw[bY]
  by_cases hx:x.price=m.price
  ·rw[yWt hx];split<;>simp[hx]
  rw[yWs hx]
  split
  ·split<;>simp[hx]
  ·have:=zYf (s:=s) (m:=m) L
   simp[hx,this]
open Go Cv Go.Proofs
open Go Cv Go.Proofs
open Classical
def Lv.fit (x:Lv):Prop:=i64r x.price∧i64r x.qty∧i64r x.count
def Sd.fit (s:Sd):Prop:=(∀x∈s.levels,x.fit)∧s.imp.fit
def yRu (v:Vw):Prop:=∀b∈v,b.1.fit∧b.2.fit
open Go Cv Go.Proofs
structure VM where
 inst:Nat
 side:Int
 l:Lv
 imp:Bool
def lv0:Lv:=⟨0,0,0⟩
def yCv (a b:Sd):Bool:=decide (a.imp≠b.imp)||decide (a.has≠b.has)
def z8j (b:Sd):Lv:=if b.has=true then b.imp else lv0
def jT (n:Nat) (s:Int) (a b:Sd):List VM:=(wY s (a.levels.length+b.levels.length) a.levels b.levels).map (fun l=>⟨n,s,l,false⟩)++if yCv a b=true then[⟨n,s,z8j b,true⟩]else[]
def yUi (s:Int) (x:Sd):Prop:=rA s x.levels∧yRo x.levels∧(x.has=true→1≤x.imp.qty)∧(x.has=false→x.imp=lv0)
theorem z4d (n:Nat) (s:Int) (a:Sd):jT n s a a=[]:=by
 rw[jT,zQl];simp[yCv]
open Go Cv Go.Proofs
def jY (n:Nat):Vw→Vw→List VM
 |a::A,b::B=>jT n 1 a.1 b.1++jT n 2 a.2 b.2++jY (n+1) A B
 |_,_=>[]
def yTy (v:Vw):Prop:=∀p∈v,yUi 1 p.1∧yUi 2 p.2
theorem zRp:∀(n:Nat) (A:Vw),jY n A A=[]
 |_,[]=>rfl
 |n,a::A=>by rw[jY,z4d,z4d,zRp];rfl
open Go Cv Go.Proofs
end Sx
