/- Texts of ours, one behind the other: a walk that the kernel reckons, and contracts of functions. No condition. -/
import Derived.Deep.LoopGhost
import Derived.KernelRfl
import Derived.Lib.Strings
import Derived.Orders
import Derived.WalkKit
set_option linter.defProp false
def yWi:=@List.length_append
def yWj:=@if_neg
def yWk:=@List.length_map
def yWl:=@if_pos
def yWm:=@Nat.eq_of_beq_eq_true
def yWn:=@List.getElem?_eq_some_iff
def yWo:=@List.append_assoc
def yWp:=@List.mem_cons_self
def yWq:=@List.mem_cons_of_mem
def yWr:=@List.length_cons
def yWs:=@List.getD_eq_getElem?_getD
def yWt:=@List.mem_of_getElem?
def yWu:=@List.take_of_length_le
def yWv:=@List.map_append
def yWw:=@Bool.and_eq_true
def yWx:=@decide_eq_false
def yWy:=@List.perm_middle
def yWz:=@List.map_cons
def yXa:=@Int.toNat_natCast
def yXb:=@Bool.false_eq_true
def yXc:=@decide_eq_true
def yXd:=@List.length_take
def yXe:=@List.mem_cons
def yXf:=@List.length_set
def yXg:=@List.length_drop
def yXh:=@List.take_append_of_le_length
def yXi:=@List.append_nil
def yXj:=@List.getElem?_eq_getElem
def yXk:=@Nat.zero_add
def yXl:=@Nat.le_refl
def yXm:=@List.getElem?_eq_none
def yXn:=@List.eq_nil_of_length_eq_zero
def yXo:=@List.mem_append
def yXp:=@List.length_nil
def yXq:=@List.mem_map_of_mem
def yXr:=@List.getElem?_map
def yXs:=@List.map_congr_left
def yXt:=@List.take_add_one
def yXu:=@Nat.mul_le_mul_right
def yXv:=@List.flatMap_cons
def yXw:=@List.take_succ_cons
def yXx:=@List.sum_cons
def yXy:=@List.mem_append_left
def yXz:=@Array.getD_eq_getD_getElem?
def yYa:=@List.mem_map
def yYb:=@List.mem_append_right
def yYc:=@List.mem_singleton
def yYd:=@List.cons_append
def yYe:=@decide_eq_true_eq
def yYf:=@List.getElem?_cons_succ
def yYg:=@List.getElem?_append_right
def yYh:=@Nat.zero_le
def yYi:=@List.flatMap_append
def yYj:=@List.getElem?_toArray
def yYk:=@Option.map_some
def yYl:=@Nat.le_of_ble_eq_true
def yYm:=@List.perm_append_comm
def yYn:=@List.mem_filter
def yYo:=@List.drop_eq_getElem_cons
def yYp:=@List.getElem?_cons_zero
def yYq:=@Option.getD_some
def yYr:=@List.drop_append_of_le_length
def yYs:=@List.flatten_cons
def yYt:=@List.getElem?_drop
def yYu:=@List.nodup_append
def yYv:=@List.getElem?_append_left
def yYw:=@List.take_append_drop
def yYx:=@of_decide_eq_true
def yYy:=@Nat.lt_or_ge
def yYz:=@List.mem_flatMap
def yZa:=@List.nil_append
def yZb:=@List.nodup_cons
def yZc:=@List.map_map
def yZd:=@List.mem_iff_getElem?
def yZe:=@Bool.true_and
def yZf:=@Nat.succ_mul
def yZg:=@List.set_eq_take_append_cons_drop
def yZh:=@Bool.not_eq_true'
def yZi:=@Array.getElem?_eq_none
def yZj:=@Nat.blt_eq
def yZk:=@Nat.add_mul
def yZl:=@List.mem_range
def yZm:=@List.length_replicate
def yZn:=@List.all_eq_true
def yZo:=@List.findIdx?_eq_some_iff_getElem
def yZp:=@Bool.false_and
def yZq:=@Nat.le_trans
def yZr:=@List.length_filter_le
def yZs:=@List.length_singleton
def yZt:=@List.getElem?_set
def yZu:=@List.drop_zero
def yZv:=@List.drop_drop
def yZw:=@List.foldl_cons
def yZx:=@Nat.xor_lt_two_pow
def yZy:=@List.prefix_refl
def yZz:=@List.drop_eq_nil_of_le
def y0a:=@List.take_length
def y0b:=@List.ext_getElem?
def y0c:=@Option.toList_some
def y0d:=@List.pairwise_cons
def y0e:=@List.mem_of_mem_drop
def y0f:=@Array.getElem?_setIfInBounds_self_of_lt
def y0g:=@Nat.add_assoc
def y0h:=@List.map_nil
def y0i:=@Nat.min_eq_left
def y0j:=@List.getElem?_take
def y0k:=@List.prefix_append
def y0l:=@Nat.mod_eq_of_lt
def y0m:=@List.set_set
def y0n:=@List.filter_append
def y0o:=@Array.getElem?_setIfInBounds
def y0p:=@Bool.or_eq_false_iff
def y0q:=@List.size_toArray
def y0r:=@List.foldl_append
def y0s:=@List.replicate_succ
def y0t:=@List.getElem?_range
def y0u:=@Nat.add_zero
def y0v:=@Int.tmod_eq_emod_of_nonneg
def y0w:=@Int.add_mul_emod_self_left
def y0x:=@List.map_take
def y0y:=@List.perm_append_singleton
def y0z:=@of_decide_eq_false
def y1a:=@Int.emod_lt_of_pos
def y1b:=@Array.getElem?_eq_getElem
def y1c:=@List.findIdx?_eq_none_iff
def y1d:=@List.getElem?_zip_eq_some
def y1e:=@Array.getElem?_setIfInBounds_ne
def y1f:=@Int.le_refl
def y1g:=@Array.getElem?_replicate
def y1h:=@List.mem_of_mem_take
def y1i:=@List.range_succ
def y1j:=@Int.emod_nonneg
def y1k:=@Int.mul_le_mul_of_nonneg_left
def y1l:=@List.filter_cons_of_pos
def y1m:=@List.filter_cons_of_neg
def y1n:=@Array.length_toList
def y1o:=@List.length_flatMap
def y1p:=@Bool.not_false
def y1q:=@List.drop_append
def y1r:=@List.take_zero
def y1s:=@Bool.and_false
def y1t:=@List.flatMap_nil
def y1u:=@Nat.lt_succ_self
def y1v:=@List.mem_filterMap
def y1w:=@Int.mul_comm
def y1x:=@Option.map_none
def y1y:=@List.modify_succ_cons
def y1z:=@Bool.eq_iff_iff
def y2a:=@List.map_drop
def y2b:=@Array.mapM_eq_mapM_toList
def y2c:=@Array.toArray_toList
def y2d:=@List.getElem?_of_mem
def y2e:=@List.getElem?_modify
def y2f:=@Nat.sub_self
def y2g:=@Nat.add_comm
def y2h:=@Option.isSome_iff_exists
def y2i:=@List.eq_of_mem_replicate
def y2j:=@List.filter_eq_self
def y2k:=@List.filter_sublist
def y2l:=@List.takeWhile_append_dropWhile
def y2m:=@Bool.false_or
def y2n:=@Array.ext_getElem?
def y2o:=@List.set_cons_zero
def y2p:=@List.set_cons_succ
def y2q:=@List.getElem?_set_self
def y2r:=@List.any_eq_false
def y2s:=@Int.emod_eq_of_lt
def y2t:=@List.take_left
def y2u:=@Int.mul_nonneg
namespace Cv
set_option linter.unusedSimpArgs false
open Go
@[reducible] def Env:=Nat→Value
def put (ρ:Env):Option Nat→Value→Env
 |none,_=>ρ
 |some d,v=>fun i=>bif Nat.beq i d then v else ρ i
def ev (ρ:Env):Operand→Value
 | .tmp t=>ρ t
 | .const v=>v
 | .global g=> .pointer (some ⟨g,0,none⟩)
 | .func f=> .func (.func f) #[] #[]
def v8 {α:Type} (P:Program):Sem α→Option α
 | .pure a=>some a
 | .program k=>v8 P (k P)
 | .mark _ k=>v8 P k
 |_=>none
theorem wD {α:Type} {P:Program}:∀{s:Sem α} {a:α},v8 P s=some a→∀w,s.run P w= .ok a w:=by
 intro s
 induction s with
 |pure a=>intro b h w;simp only[v8,Option.some.injEq]at h;subst h;rfl
 |program k ih=>intro b h w;simp only[v8]at h;exact ih _ h w
 |mark m k ih=>intro b h w;simp only[v8]at h;exact ih h w
 |_=>intro b h w;simp[v8]at h
theorem run_bind {α β:Type} (P:Program) (s:Sem α) (f:α→Sem β) (w:World):(s.bind f).run P w=match s.run P w with| .ok a w'=>(f a).run P w'| .halt h w'=> .halt h w':=by
 induction s generalizing w with
 |pure a=>rfl
 |halt h=>rfl
 |load m a k ih=>simp only[Sem.bind,Sem.run];split<;>first|exact ih _ _|(split<;>first|exact ih _ _|rfl)
 |store m a v k ih=>
  cases v<;>simp only[Sem.bind,Sem.run]<;>first|rfl|(split<;>first|(split<;>first|exact ih _|rfl))
 |new o k ih=>exact ih _ _
 |shape r k ih=>exact ih _ _
 |freeze a n k ih=>exact ih _
 |frozen a k ih=>exact ih _ _
 |getObj r k ih=>simp only[Sem.bind,Sem.run];split<;>first|rfl|exact ih _ _
 |setObj r o k ih=>simp only[Sem.bind,Sem.run];split<;>first|rfl|exact ih _
 |choose q k ih=>simp only[Sem.bind,Sem.run];split<;>exact ih _ _
 |sys c k ih=>exact ih _ _
 |program k ih=>exact ih _ _
 |mark m k ih=>exact ih _
inductive Sh where
 |int (k:IntKind)|bool|str|ptr|sl|map|any
def yDa:Value→Sh
 | .int k _=> .int k
 | .bool _=> .bool
 | .string _=> .str
 | .pointer _=> .ptr
 | .slice _ _ _=> .sl
 | .map _=> .map
 |_=> .any
def exC:Sh→(Value→Prop)→Prop
 | .int k,K=>∃n:Int,K (.int k n)
 | .bool,K=>∃b:Bool,K (.bool b)
 | .str,K=>∃s:ByteArray,K (.string s)
 | .ptr,K=>∃a:Option Addr,K (.pointer a)
 | .sl,K=>∃(a:Option Addr) (n c:Nat),K (.slice a n c)
 | .map,K=>∃r:Option Nat,K (.map r)
 | .any,K=>∃v:Value,K v
theorem jR {s:Sh} {K:Value→Prop} (h:exC s K):∃v,K v:=by
 cases s<;>simp only[exC]at h<;>first|(obtain⟨n,h⟩:=h;exact⟨_,h⟩)|(obtain⟨a,n,c,h⟩:=h;exact⟨_,h⟩)
def exL:List Value→(List Value→Prop)→Prop
 |[],K=>K []
 |z::zs,K=>exC (yDa z) fun v=>exL zs fun vs=>K (v::vs)
theorem z0w:∀{zs:List Value} {K:List Value→Prop},exL zs K→∃vs,K vs
 |[],_,h=>⟨_,h⟩
 |_::_,_,h=>let⟨_,h1⟩:=jR h;let⟨_,h2⟩:=z0w h1;⟨_,h2⟩
structure Raw where
 i:Nat→Int
 b:Nat→Bool
 s:Nat→ByteArray
 p:Nat→Option Addr
 a:Nat→Option Addr
 n:Nat→Nat
 k:Nat→Nat
 m:Nat→Option Nat
 v:Nat→Value
def Raw.cell (r:Raw) (j:Nat):Value→Value
 | .int k _=> .int k (r.i j)
 | .bool _=> .bool (r.b j)
 | .string _=> .string (r.s j)
 | .pointer _=> .pointer (r.p j)
 | .slice _ _ _=> .slice (r.a j) (r.n j) (r.k j)
 | .map _=> .map (r.m j)
 |_=>r.v j
def yQq (r:Raw):List Value→Nat→List Value
 |[],_=>[]
 |z::zs,j=>r.cell j z::yQq r zs (j+1)
def yVb (z:Value) (r:Raw):Value:=
 match z with
 | .agg cs=> .agg (yQq r cs.toList 0).toArray
 |z=>z
def exV:Value→(Value→Prop)→Prop
 | .agg cs,K=>bif Nat.ble cs.size 9 then exL cs.toList fun vs=>K (.agg vs.toArray)else ∃r:Raw,K (yVb (.agg cs) r)
 |z,K=>exC (yDa z) K
theorem wI {z:Value} {K:Value→Prop} (h:exV z K):∃v,K v:=by
 cases z<;>simp only[exV]at h<;>first
  |exact jR h
  |(revert h;cases Nat.ble _ 9<;>intro h
    ·obtain⟨r,h⟩:=h;exact⟨_,h⟩
    ·obtain⟨_,h⟩:=z0w h;exact⟨_,h⟩)
def yMk (P:Program) (t:TypeId):Value:=
 match P.info? t with
 |some i=>i.zero.getD undef
 |none=>undef
def exT (P:Program) (t:TypeId) (K:Value→Prop):Prop:=exV (yMk P t) K
def yNr (P:Program):List TypeId→(List Value→Prop)→Prop
 |[],K=>K []
 |t::ts,K=>exT P t fun v=>yNr P ts fun vs=>K (v::vs)
theorem zWr {P:Program}:∀{ts:List TypeId} {K:List Value→Prop},yNr P ts K→∃vs,K vs
 |[],_,h=>⟨_,h⟩
 |_::_,_,h=>let⟨_,h1⟩:=wI h;let⟨_,h2⟩:=zWr h1;⟨_,h2⟩
def exR (P:Program) (t:TypeId) (K:Value→Prop):Prop:=
 match P.underlying t with
 |some (.tuple ts)=>yNr P ts.toList fun vs=>K (.tuple vs.toArray)
 |_=>exT P t K
theorem z1g {P:Program} {t:TypeId} {K:Value→Prop} (h:exR P t K):∃v,K v:=by
 unfold exR at h;split at h
 ·obtain⟨_,h⟩:=zWr h;exact⟨_,h⟩
 ·exact wI h
def uH (P:Program) (t:TypeId):Option Nat:=
 match P.underlying t with
 |some (.slice e)=>(P.info? e).map fun(x:TypeInfo)=>x.size
 |_=>none
def dV (P:Program) (t:TypeId):Option (Nat×Nat):=
 match P.underlying t with
 |some (.array n e)=>(P.info? e).map fun(x:TypeInfo)=>(n,x.size)
 |_=>none
def zUj (p:Option Addr) (K:Addr→Prop):Prop:=
 match p with
 |some a=>K a
 |none=>False
def yPm (p:Option Addr) (n:Nat) (i:Int) (K:Addr→Prop):Prop:=
 match p with
 |some a=>(0≤i∧i<n)∧K a
 |none=>False
def yMc (s:ByteArray) (i:Int) (K:UInt8→Prop):Prop:=∃b:UInt8,(0≤i∧s[i.toNat]?=some b)∧K b
def slN (p:Option Addr) (n c:Nat) (lo hi:Option Int) (sz:Nat) (K:Option Addr→Nat→Nat→Prop):Prop:=
 match lo,hi with
 |none,none=>(n≤c)∧K p n c
 |some l,none=>(0≤l∧l≤n∧n≤c)∧K (if c=l.toNat then p else p.map (·.add (l.toNat*sz))) (n-l.toNat) (c-l.toNat)
 |none,some h=>(0≤h∧h≤c)∧K p h.toNat c
 |some l,some h=>(0≤l∧l≤h∧h≤c)∧K (if c=l.toNat then p else p.map (·.add (l.toNat*sz))) (h.toNat-l.toNat) (c-l.toNat)
def yPg (p:Option Addr) (c:Nat) (l h m:Int) (sz:Nat) (K:Option Addr→Nat→Nat→Prop):Prop:=
 (0≤l∧l≤h∧h≤m∧m≤c)∧K (if m.toNat=l.toNat then p else p.map (·.add (l.toNat*sz))) (h.toNat-l.toNat) (m.toNat-l.toNat)
def yJi (s:ByteArray) (lo hi:Option Int) (K:ByteArray→Prop):Prop:=
 match lo,hi with
 |none,none=>K s
 |some l,none=>(0≤l∧l≤s.size)∧K (s.extract l.toNat s.size)
 |none,some h=>(0≤h∧h≤s.size)∧K (s.extract 0 h.toNat)
 |some l,some h=>(0≤l∧l≤h∧h≤s.size)∧K (s.extract l.toNat h.toNat)
def bnd (ρ:Env):Option Operand→Option (Option Int)
 |none=>some none
 |some x=>match ev ρ x with
  | .int _ n=>some (some n)
  |_=>none
def zGv (l h:Option (Option Int)) (K:Option Int→Option Int→Prop):Prop:=
 match l,h with
 |some l,some h=>K l h
 |_,_=>False
def g7 (P:Program) (t:TypeId) (x:Value):Option Bool:=
 match P.underlying t,x with
 |some (.pointer _),.pointer p=>some p.isNone
 |some (.slice _),.slice p _ _=>some p.isNone
 |some (.map _ _),.map r=>some r.isNone
 |_,_=>none
def yWf:Value→Bool
 | .pointer none=>true
 | .slice none _ _=>true
 | .map none=>true
 |_=>false
def yFe:Value→Bool
 | .pointer none=>true
 |_=>false
def yGw:Value→Bool
 | .slice none _ _=>true
 |_=>false
def yHa:Value→Bool
 | .map none=>true
 |_=>false
def zPn (P:Program) (s:Sem Next) (K:Value→Prop):Prop:=
 match v8 P s with
 |some (.value v)=>K v
 |_=>False
def yJk (P:Program) (neg:Bool) (t:TypeId) (x y:Value) (K:Bool→Prop):Prop:=
 ∃b:Bool,v8 P (Op.equal t x y)=some b∧v8 P (eqGuard (if neg then .neq else .eql) t (.tmp 0) (.tmp 0) x y)=some ()∧
  (match y with| .agg _=>true|_=>false)=true∧K (if neg then !b else b)
def zYq (o:Option Bool) (K:Bool→Prop):Prop:=
 match o with
 |some r=>K r
 |none=>False
theorem aR {o:Option Bool} {K:Bool→Prop} (h:zYq o K):∃r,o=some r∧K r:=by
 cases o with
 |none=>exact h.elim
 |some r=>exact⟨r,rfl,h⟩
def yTf (k k':IntKind) (b:Int) (A:Prop):Prop:=k=k'∧b≠0∧A
def shN (b:Int) (A:Prop):Prop:=0≤b∧A
def yVt (a b:ByteArray) (A:Prop):Prop:=(((a.size+b.size:Nat):Int)≤IntKind.i64.max)∧A
def eqK (k k':IntKind) (A:Prop):Prop:=
 match k,k' with
 | .i8,.i8=>A
 | .i16,.i16=>A
 | .i32,.i32=>A
 | .i64,.i64=>A
 | .u8,.u8=>A
 | .u16,.u16=>A
 | .u32,.u32=>A
 | .u64,.u64=>A
 |_,_=>False
theorem zHm {k k':IntKind} {A:Prop} (h:eqK k k' A):k=k'∧A:=by
 cases k<;>cases k'<;>first|exact⟨rfl,h⟩|exact h.elim
def zSs (k:IntKind) (a b:Int):Int:=k.wrap (a*2 ^ (min b.toNat k.bits))
def dN (k:IntKind) (a b:Int):Int:=a.fdiv (2 ^ (min b.toNat k.bits))
def sW (k:IntKind) (a b:Int):Int:=k.wrap ((BitVec.ofInt k.bits a &&& BitVec.ofInt k.bits b).toNat:Int)
def iOr (k:IntKind) (a b:Int):Int:=k.wrap ((BitVec.ofInt k.bits a|||BitVec.ofInt k.bits b).toNat:Int)
def aI (k:IntKind) (a b:Int):Int:=k.wrap ((BitVec.ofInt k.bits a ^^^ BitVec.ofInt k.bits b).toNat:Int)
def zCb (k:IntKind) (a b:Int):Int:=k.wrap ((BitVec.ofInt k.bits a &&& ~~~ BitVec.ofInt k.bits b).toNat:Int)
def fB (P:Program) (o:Oper) (ρ:Env) (K:Value→Prop):Prop:=
 match o.op with
 | .move x=>K (ev ρ x)
 | .assign x=>K (ev ρ x)
 | .pick c a b=>
   match ev ρ c with
   | .bool t=>K (bif t then ev ρ a else ev ρ b)
   |_=>False
 | .nilCheck x=>
   match ev ρ x with
   | .pointer p=>zUj p fun a=>K (.pointer (some a))
   |_=>zPn P (execOp (ev ρ) o) K
 | .indexAddr t x i=>
   match ev ρ x,ev ρ i with
   | .slice p n _,.int _ i=>match uH P t with
     |some sz=>yPm p n i fun a=>K (.pointer (some (a.add (i.toNat*sz))))
     |none=>False
   | .pointer p,.int _ i=>match dV P t with
     |some (len,sz)=>yPm p len i fun a=>K (.pointer (some (a.add (i.toNat*sz))))
     |none=>False
   |_,_=>False
 | .index t x i=>
   match ev ρ x,ev ρ i with
   | .string s,.int _ i=>match P.underlying t with
     |some .string=>yMc s i fun b=>K (.int .u8 b.toNat)
     |_=>False
   |x,j=>match i with
    | .const _=>zPn P (execOp (ev ρ) o) K
    |_=>exT P o.type fun v=>v8 P (Instr.index t x j)=some v∧K v
 | .panic _=>False
 | .typeAssert x xT asserted ok=>
   match ok with
   |true=>exT P asserted fun v=>exC .bool fun b=>v8 P (Instr.typeAssert (ev ρ x) xT asserted true)=some (.tuple #[v,b])∧K (.tuple #[v,b])
   |false=>exT P asserted fun v=>v8 P (Instr.typeAssert (ev ρ x) xT asserted false)=some v∧K v
 | .slice t x lo hi mx=>
   match ev ρ x,mx with
   | .slice p _ c,some m=>match uH P t,bnd ρ lo,bnd ρ hi,ev ρ m with
     |some sz,some (some l),some (some h),.int _ m=>yPg p c l h m sz fun p n c=>K (.slice p n c)
     |_,_,_,_=>False
   | .slice p n c,none=>match uH P t with
     |some sz=>zGv (bnd ρ lo) (bnd ρ hi) fun l h=>slN p n c l h sz fun p n c=>K (.slice p n c)
     |none=>False
   | .string s,none=>match P.underlying t with
     |some .string=>zGv (bnd ρ lo) (bnd ρ hi) fun l h=>yJi s l h fun s=>K (.string s)
     |_=>False
   | .pointer p,none=>match dV P t with
     |some (n,sz)=>zUj p fun a=>zGv (bnd ρ lo) (bnd ρ hi) fun l h=>slN (some a) n n l h sz fun p n c=>K (.slice p n c)
     |none=>False
   |_,_=>False
 | .binOp op t x y _=>
   match op,ev ρ x,ev ρ y with
   | .quo,.int k a,.int k' b=>yTf k k' b (K (.int k (k.wrap (a.tdiv b))))
   | .rem,.int k a,.int k' b=>yTf k k' b (K (.int k (a.tmod b)))
   | .shl,.int k a,.int _ b=>shN b (K (.int k (zSs k a b)))
   | .shr,.int k a,.int _ b=>shN b (K (.int k (dN k a b)))
   | .and,.int k a,.int k' b=>eqK k k' (K (.int k (sW k a b)))
   | .or,.int k a,.int k' b=>eqK k k' (K (.int k (iOr k a b)))
   | .xor,.int k a,.int k' b=>eqK k k' (K (.int k (aI k a b)))
   | .andNot,.int k a,.int k' b=>eqK k k' (K (.int k (zCb k a b)))
   | .add,.string a,.string b=>yVt a b (K (.string (a++b)))
   | .eql,.pointer p,b=>bif yFe b then(zYq (g7 P t (.pointer p)) fun r=>K (.bool r))else False
   | .neq,.pointer p,b=>bif yFe b then(zYq (g7 P t (.pointer p)) fun r=>K (.bool !r))else False
   | .eql,.slice p n c,b=>bif yGw b then(zYq (g7 P t (.slice p n c)) fun r=>K (.bool r))else False
   | .neq,.slice p n c,b=>bif yGw b then(zYq (g7 P t (.slice p n c)) fun r=>K (.bool !r))else False
   | .eql,.map r,b=>bif yHa b then(zYq (g7 P t (.map r)) fun r=>K (.bool r))else False
   | .neq,.map r,b=>bif yHa b then(zYq (g7 P t (.map r)) fun r=>K (.bool !r))else False
   | .eql,.agg a,b=>yJk P false t (.agg a) b fun r=>K (.bool r)
   | .neq,.agg a,b=>yJk P true t (.agg a) b fun r=>K (.bool r)
   |_,_,_=>zPn P (execOp (ev ρ) o) K
 |_=>zPn P (execOp (ev ρ) o) K
def zJs (P:Program) (s:Sem Next) (v:Value):Prop:=∀w,s.run P w=.ok (.value v) w
theorem fZ {P:Program} {s:Sem Next} {K:Value→Prop} (h:zPn P s K):∃v,K v∧zJs P s v:=by
 unfold zPn at h
 split at h
 ·rename_i v hv;exact⟨v,h,wD hv⟩
 ·exact h.elim
theorem Addr.add_zero (a:Addr):a.add 0=a:=by simp[Addr.add]
theorem m9 (p:Option Addr):p.map (·.add 0)=p:=by cases p<;>simp[Addr.add_zero]
theorem z6 {P:Program} {s:Sem Value} {v:Value} (h:∀w,s.run P w= .ok v w):zJs P (do pure (Next.value (← s))) v:=by
 intro w
 show(s.bind fun a=> .pure (Next.value a)).run P w=_
 rw[run_bind,h w]
 rfl
theorem sO {P:Program} {t:TypeId} {sz:Nat} (h:uH P t=some sz):∃e i,P.underlying t=some (.slice e)∧P.info? e=some i∧i.size=sz:=by
 unfold uH at h
 split at h
 ·rename_i e he
  cases hi:P.info? e with
  |none=>simp[hi]at h
  |some i=>simp[hi]at h;exact⟨e,i,he,hi,h⟩
 ·cases h
theorem zBv {P:Program} {t:TypeId} {n sz:Nat} (h:dV P t=some (n,sz)):∃e i,P.underlying t=some (.array n e)∧P.info? e=some i∧i.size=sz:=by
 unfold dV at h
 split at h
 ·rename_i m e he
  cases hi:P.info? e with
  |none=>simp[hi]at h
  |some i=>simp[hi]at h;obtain⟨rfl,h⟩:=h;exact⟨e,i,he,hi,h⟩
 ·cases h
theorem run_underlying {P:Program} {t:TypeId} {d:TypeDesc} (h:P.underlying t=some d) (w:World):(underlying t).run P w= .ok d w:=by
 show ((Sem.program Sem.pure).bind fun p => match p.underlying t with | some d => Sem.pure d | none => stuck "no such type").run P w = _
 simp only[Sem.bind,Sem.run,h]
theorem run_sizeOf {P:Program} {t:TypeId} {i:TypeInfo} (h:P.info? t=some i) (w:World):(Go.sizeOf t).run P w= .ok i.size w:=by
 have hti:(typeInfo t).run P w= .ok i w:=by
  unfold typeInfo
  show((Sem.program Sem.pure).bind _).run P w=_
  simp only[Sem.bind,Sem.run,h]
  rfl
 show((typeInfo t).bind fun i=>Sem.pure i.size).run P w=_
 rw[run_bind,hti]
 rfl
theorem jJ {P:Program} {t:TypeId} {sz n c:Nat} {a:Addr} {k:IntKind} {i:Int} (h:uH P t=some sz) (hi:0≤i∧i<n) (w:World):
 (Instr.indexAt t (.slice (some a) n c) (.int k i)).run P w= .ok (.pointer (some (a.add (i.toNat*sz)))) w:=by
 obtain⟨e,ti,h1,h2,rfl⟩:=sO h
 simp only[Instr.indexAt,asIntOf,bind,pure,run_bind,Sem.bind,Sem.run,run_underlying h1,yWl hi,run_sizeOf h2]
theorem gU {P:Program} {t:TypeId} {sz n:Nat} {a:Addr} {k:IntKind} {i:Int} (h:dV P t=some (n,sz)) (hi:0≤i∧i<n) (w:World):
 (Instr.indexAt t (.pointer (some a)) (.int k i)).run P w= .ok (.pointer (some (a.add (i.toNat*sz)))) w:=by
 obtain⟨e,ti,h1,h2,rfl⟩:=zBv h
 simp only[Instr.indexAt,asIntOf,Instr.sureAddr,bind,pure,run_bind,Sem.bind,Sem.run,run_underlying h1,yWl hi,run_sizeOf h2]
theorem kD {P:Program} {k:IntKind} {i:Int} {y:Nat} {code:BoundsCode} (h:0≤i∧i≤y) (w:World):(Instr.sliceBound (.int k i) y code).run P w= .ok i.toNat w:=by
 simp only[Instr.sliceBound,asIntOf,bind,pure,Sem.bind,Sem.run,yWl h]
theorem zCu {ρ:Env} {x:Option Operand} {r:Option Int} (h:bnd ρ x=some r):(x=none∧r=none)∨∃y k n,x=some y∧ev ρ y= .int k n∧r=some n:=by
 unfold bnd at h
 split at h
 ·left;exact⟨rfl,by simpa using h.symm⟩
 ·rename_i y
  right
  split at h
  ·rename_i k n hv;exact⟨y,k,n,rfl,hv,by simpa using h.symm⟩
  ·cases h
theorem mK {l h:Option (Option Int)} {K:Option Int→Option Int→Prop} (hh:zGv l h K):∃a b,l=some a∧h=some b∧K a b:=by
 unfold zGv at hh
 split at hh
 ·rename_i a b;exact⟨a,b,rfl,rfl,hh⟩
 ·exact hh.elim
theorem l7 {P:Program} {ρ:Env} {lo hi:Option Operand} {l h:Option Int} (isSlice:Bool) {len cap:Nat} (h1:bnd ρ lo=some l) (h2:bnd ρ hi=some h)
 (hlen:h=none→len≤cap) (hh:∀x,h=some x→0≤x∧x≤cap) (hl:∀x,l=some x→0≤x∧x≤((h.map Int.toNat).getD len:Nat)) (w:World):
 (Instr.sliceBounds isSlice len cap (lo.map (ev ρ)) (hi.map (ev ρ)) none).run P w= .ok ((l.map Int.toNat).getD 0,(h.map Int.toNat).getD len,cap) w:=by
 rcases zCu h1 with⟨rfl,rfl⟩|⟨x,k,n,rfl,hx,rfl⟩<;>rcases zCu h2 with⟨rfl,rfl⟩|⟨y,k',m,rfl,hy,rfl⟩
 ·simp only[Instr.sliceBounds,y1x,bind,pure,Sem.bind,Sem.run,run_bind,Option.getD_none]
 ·have:=hh m rfl
  simp only[Instr.sliceBounds,y1x,yYk,hy,bind,pure,Sem.bind,Sem.run,run_bind,Option.getD_none,kD this,yYq]
 ·have h3:=hl n rfl
  simp only[y1x,Option.getD_none]at h3
  simp only[Instr.sliceBounds,y1x,yYk,hx,bind,pure,Sem.bind,Sem.run,run_bind,Option.getD_none,kD h3,yYq]
 ·have h3:=hl n rfl
  have h4:=hh m rfl
  simp only[yYk,yYq]at h3
  simp only[Instr.sliceBounds,yYk,hx,hy,bind,pure,Sem.bind,Sem.run,run_bind,kD h3,kD h4,yYq]
theorem z3r {p:Option Addr} {n c:Nat} {l h:Option Int} {sz:Nat} {K:Option Addr→Nat→Nat→Prop} (hk:slN p n c l h sz K):
 (h=none→n≤c)∧(∀x,h=some x→0≤x∧x≤c)∧(∀x,l=some x→0≤x∧x≤((h.map Int.toNat).getD n:Nat))∧
 K (if c=(l.map Int.toNat).getD 0 then p else p.map (·.add ((l.map Int.toNat).getD 0*sz))) ((h.map Int.toNat).getD n-(l.map Int.toNat).getD 0) (c-(l.map Int.toNat).getD 0):=by
 unfold slN at hk
 split at hk
 ·refine⟨fun _=>hk.1,by simp,by simp,?_⟩
  simpa[m9]using hk.2
 ·refine⟨fun _=>hk.1.2.2,by simp,?_,by simpa using hk.2⟩
  intro x hx;cases hx;simp;omega
 ·refine⟨by simp,?_,by simp,by simpa[m9]using hk.2⟩
  intro x hx;cases hx;omega
 ·refine⟨by simp,?_,?_,by simpa using hk.2⟩
  ·intro x hx;cases hx;omega
  ·intro x hx;cases hx;simp;omega
theorem zYd {P:Program} {ρ:Env} {t:TypeId} {x:Operand} {lo hi:Option Operand} {o:Oper} {K:Value→Prop} (ho:o.op= .slice t x lo hi none)
 (h:fB P o ρ K):∃v,K v∧zJs P (execOp (ev ρ) o) v:=by
 simp only[fB,ho]at h
 split at h
 ·rename_i heq;cases heq
 ·rename_i p n c hx _
  split at h
  ·rename_i sz hsz
   obtain⟨l,u,h1,h2,h3⟩:=mK h
   obtain⟨q1,q2,q3,q4⟩:=z3r h3
   obtain⟨e,ti,e1,e2,rfl⟩:=sO hsz
   refine⟨_,q4,?_⟩
   simp only[execOp,ho]
   refine z6 fun w=> ?_
   simp only[Instr.sliceAt,Instr.slice,hx,bind,pure,Sem.bind,Sem.run,run_bind,run_underlying e1,y1x,l7 true h1 h2 q1 q2 q3,run_sizeOf e2]
  ·exact h.elim
 ·rename_i s hx _
  split at h
  ·rename_i ht
   obtain⟨l,u,h1,h2,h3⟩:=mK h
   have q:(∀x,u=some x→0≤x∧x≤s.size)∧(∀x,l=some x→0≤x∧x≤((u.map Int.toNat).getD s.size:Nat))∧K (.string (s.extract ((l.map Int.toNat).getD 0) ((u.map Int.toNat).getD s.size))):=by
    unfold yJi at h3
    split at h3
    ·refine⟨by simp,by simp,?_⟩
     have:s.extract 0 s.size=s:=by simp
     simpa[this]using h3
    ·refine⟨by simp,?_,by simpa using h3.2⟩
     intro x hx;cases hx;simp;omega
    ·refine⟨?_,by simp,by simpa using h3.2⟩
     intro x hx;cases hx;omega
    ·refine⟨?_,?_,by simpa using h3.2⟩
     ·intro x hx;cases hx;omega
     ·intro x hx;cases hx;simp;omega
   obtain⟨q2,q3,q4⟩:=q
   refine⟨_,q4,?_⟩
   simp only[execOp,ho]
   refine z6 fun w=> ?_
   simp only[Instr.sliceAt,Instr.slice,hx,bind,pure,Sem.bind,Sem.run,run_bind,run_underlying ht,y1x,Option.isSome_none,yXb,if_false,l7 false h1 h2 (fun _=>yXl _) q2 q3]
  ·exact h.elim
 ·rename_i p hx _
  split at h
  ·rename_i n sz hsz
   unfold zUj at h
   split at h
   ·rename_i a
    obtain⟨l,u,h1,h2,h3⟩:=mK h
    obtain⟨q1,q2,q3,q4⟩:=z3r h3
    obtain⟨e,ti,e1,e2,rfl⟩:=zBv hsz
    refine⟨_,q4,?_⟩
    simp only[execOp,ho]
    refine z6 fun w=> ?_
    simp only[Instr.sliceAt,Instr.sureAddr,hx,bind,pure,Sem.bind,Sem.run,run_bind,run_underlying e1,y1x,l7 false h1 h2 q1 q2 q3,run_sizeOf e2]
    split<;>simp
   ·exact h.elim
  ·exact h.elim
 ·exact h.elim
theorem cW (t:TypeId) (x y:Value):Op.equal t x y=Op.equalIn (9999+1) t x y:=rfl
theorem fX {P:Program} {t:TypeId} {p:Option Addr} {r:Bool} (h:g7 P t (.pointer p)=some r) (w:World):(Op.equal t (.pointer p) (.pointer none)).run P w= .ok r w:=by
 have hu:r=p.isNone∧∃d,P.underlying t=some d∧(match d with| .pointer _=>True|_=>False):=by
  unfold g7 at h
  cases hd:P.underlying t with
  |none=>simp[hd]at h
  |some d=>cases d<;>simp[hd]at h;exact⟨h.symm,_,rfl,trivial⟩
 obtain⟨rfl,d,hd,hm⟩:=hu
 cases d<;>first|exact hm.elim|skip
 rw[cW]
 generalize 9999=d
 unfold Op.equalIn
 simp only[bind,pure,run_bind,run_underlying hd]
 cases p<;>rfl
theorem uQ {P:Program} {t:TypeId} {p:Option Addr} {n c m k:Nat} {r:Bool} (h:g7 P t (.slice p n c)=some r) (w:World):(Op.equal t (.slice p n c) (.slice none m k)).run P w= .ok r w:=by
 have hu:r=p.isNone∧∃d,P.underlying t=some d∧(match d with| .slice _=>True|_=>False):=by
  unfold g7 at h
  cases hd:P.underlying t with
  |none=>simp[hd]at h
  |some d=>cases d<;>simp[hd]at h;exact⟨h.symm,_,rfl,trivial⟩
 obtain⟨rfl,d,hd,hm⟩:=hu
 cases d<;>first|exact hm.elim|skip
 rw[cW]
 generalize 9999=d
 unfold Op.equalIn
 simp only[bind,pure,run_bind,run_underlying hd]
 cases p<;>rfl
theorem fY {P:Program} {t:TypeId} {p:Option Nat} {r:Bool} (h:g7 P t (.map p)=some r) (w:World):(Op.equal t (.map p) (.map none)).run P w= .ok r w:=by
 have hu:r=p.isNone∧∃d,P.underlying t=some d∧(match d with| .map _ _=>True|_=>False):=by
  unfold g7 at h
  cases hd:P.underlying t with
  |none=>simp[hd]at h
  |some d=>cases d<;>simp[hd]at h;exact⟨h.symm,_,rfl,trivial⟩
 obtain⟨rfl,d,hd,hm⟩:=hu
 cases d<;>first|exact hm.elim|skip
 rw[cW]
 generalize 9999=d
 unfold Op.equalIn
 simp only[bind,pure,run_bind,run_underlying hd]
 cases p<;>rfl
theorem aT {p:Option Addr} {K:Addr→Prop} (h:zUj p K):∃a,p=some a∧K a:=by
 cases p with
 |none=>exact h.elim
 |some a=>exact⟨a,rfl,h⟩
theorem zWe {p:Option Addr} {n:Nat} {i:Int} {K:Addr→Prop} (h:yPm p n i K):∃a,p=some a∧(0≤i∧i<n)∧K a:=by
 cases p with
 |none=>exact h.elim
 |some a=>exact⟨a,rfl,h⟩
theorem xK {P:Program} {o:Oper} {ρ:Env} {neg:Bool} {t:TypeId} {x y:Operand} {u:TypeId} {r:Bool} (ho:o.op= .binOp (if neg then .neq else .eql) t x y u)
 (hx:match ev ρ x with| .pointer _=>True| .slice _ _ _=>True| .map _=>True| .agg _=>True|_=>False)
 (hy:match ev ρ y with| .pointer _=>True| .slice _ _ _=>True| .map _=>True| .agg _=>True|_=>False)
 (hg:∀w,(eqGuard (if neg then .neq else .eql) t x y (ev ρ x) (ev ρ y)).run P w= .ok () w)
 (he:∀w,(Op.equal t (ev ρ x) (ev ρ y)).run P w= .ok r w):zJs P (execOp (ev ρ) o) (.bool (if neg then !r else r)):=by
 simp only[execOp,ho]
 refine z6 fun w=> ?_
 simp only[bind,run_bind,hg w]
 generalize ev ρ x=a at*
 generalize ev ρ y=b at*
 cases neg<;>cases a<;>(first|exact hx.elim|skip)<;>cases b<;>(first|exact hy.elim|skip)<;>simp only[binOp,yXb,if_false,if_true,bind,pure,run_bind,he w,Sem.run]
theorem zGh {P:Program} {op:BinOp} {t:TypeId} {x y x' y':Operand} {a b:Value} (ha:a≠.nilIface) (w:World):
 (eqGuard op t x y a b).run P w=(eqGuard op t x' y' a b).run P w:=by
 cases a<;>first|exact(ha rfl).elim|skip
 all_goals cases op<;>first|rfl|(cases b<;>rfl)
theorem yZ {P:Program} {op:BinOp} {t:TypeId} {x y:Operand} {a b:Value} (ha:match a with| .pointer _=>True| .slice _ _ _=>True| .map _=>True|_=>False) (w:World):
 (eqGuard op t x y a b).run P w= .ok () w:=by
 cases a<;>first|exact ha.elim|(cases op<;>rfl)
theorem z2r {y:Value} (h:yFe y=true):y= .pointer none:=by
 cases y<;>simp[yFe]at h
 rename_i a;cases a<;>simp at h ⊢
theorem z2e {y:Value} (h:yGw y=true):∃n c,y= .slice none n c:=by
 cases y<;>simp[yGw]at h
 rename_i a n c;cases a<;>simp at h ⊢
theorem z3n {y:Value} (h:yHa y=true):y= .map none:=by
 cases y<;>simp[yHa]at h
 rename_i a;cases a<;>simp at h ⊢
theorem zK {b:Bool} {A:Prop} (h:bif b then A else False):b=true∧A:=by
 cases b
 ·exact h.elim
 ·exact⟨rfl,h⟩
theorem yCx {P:Program} {ρ:Env} {op:BinOp} {t u:TypeId} {x y:Operand} {o:Oper} {K:Value→Prop} (ho:o.op= .binOp op t x y u)
 (h:fB P o ρ K):∃v,K v∧zJs P (execOp (ev ρ) o) v:=by
 simp only[fB,ho]at h
 split at h
 ·rename_i k a k' b hx hy
  obtain⟨rfl,hb,h⟩:=h
  refine⟨_,h,?_⟩
  simp only[execOp,ho]
  refine z6 fun w=> ?_
  simp[hx,hy,eqGuard,binOp,Op.intDiv,hb,bind,pure,Sem.bind,Sem.run]
 ·rename_i k a k' b hx hy
  obtain⟨rfl,hb,h⟩:=h
  refine⟨_,h,?_⟩
  simp only[execOp,ho]
  refine z6 fun w=> ?_
  simp[hx,hy,eqGuard,binOp,Op.intDiv,hb,bind,pure,Sem.bind,Sem.run]
 ·rename_i k a k' b hx hy
  obtain⟨hb,h⟩:=h
  refine⟨_,h,?_⟩
  simp only[execOp,ho]
  refine z6 fun w=> ?_
  simp[hx,hy,eqGuard,binOp,Op.shift,Int.not_lt.2 hb,bind,pure,Sem.bind,Sem.run,zSs,dN]
 ·rename_i k a k' b hx hy
  obtain⟨hb,h⟩:=h
  refine⟨_,h,?_⟩
  simp only[execOp,ho]
  refine z6 fun w=> ?_
  simp[hx,hy,eqGuard,binOp,Op.shift,Int.not_lt.2 hb,bind,pure,Sem.bind,Sem.run,zSs,dN]
 ·rename_i k a k' b hx hy
  obtain⟨hk,h'⟩:=zHm h
  subst hk
  refine⟨_,h',?_⟩
  simp only[execOp,ho]
  refine z6 fun w=> ?_
  simp[hx,hy,eqGuard,binOp,Op.intBits,bind,pure,Sem.bind,Sem.run,sW,iOr,aI,zCb]
 ·rename_i k a k' b hx hy
  obtain⟨hk,h'⟩:=zHm h
  subst hk
  refine⟨_,h',?_⟩
  simp only[execOp,ho]
  refine z6 fun w=> ?_
  simp[hx,hy,eqGuard,binOp,Op.intBits,bind,pure,Sem.bind,Sem.run,sW,iOr,aI,zCb]
 ·rename_i k a k' b hx hy
  obtain⟨hk,h'⟩:=zHm h
  subst hk
  refine⟨_,h',?_⟩
  simp only[execOp,ho]
  refine z6 fun w=> ?_
  simp[hx,hy,eqGuard,binOp,Op.intBits,bind,pure,Sem.bind,Sem.run,sW,iOr,aI,zCb]
 ·rename_i k a k' b hx hy
  obtain⟨hk,h'⟩:=zHm h
  subst hk
  refine⟨_,h',?_⟩
  simp only[execOp,ho]
  refine z6 fun w=> ?_
  simp[hx,hy,eqGuard,binOp,Op.intBits,bind,pure,Sem.bind,Sem.run,sW,iOr,aI,zCb]
 ·rename_i a b hx hy
  obtain⟨hb,h⟩:=h
  refine⟨_,h,?_⟩
  simp only[execOp,ho]
  refine z6 fun w=> ?_
  have hb':¬(((a.size+b.size:Nat):Int)>IntKind.i64.max):=Int.not_lt.2 hb
  simp only[hx,hy,eqGuard,binOp,Op.stringOp,yWj hb',bind,pure,Sem.bind,Sem.run]
  rfl
 ·rename_i p hx
  generalize hy:ev ρ y=b at h
  obtain⟨hn,h⟩:=zK h
  obtain⟨r,hr,h⟩:=aR h
  have hb:=z2r hn
  refine⟨_,h,?_⟩
  exact xK (neg:=false) ho (by simp[hx]) (by simp[hy,hb]) (fun w=>by rw[hx];exact yZ trivial w) (fun w=>by rw[hx,hy,hb];exact fX hr w)
 ·rename_i p hx
  generalize hy:ev ρ y=b at h
  obtain⟨hn,h⟩:=zK h
  obtain⟨r,hr,h⟩:=aR h
  have hb:=z2r hn
  refine⟨_,h,?_⟩
  exact xK (neg:=true) ho (by simp[hx]) (by simp[hy,hb]) (fun w=>by rw[hx];exact yZ trivial w) (fun w=>by rw[hx,hy,hb];exact fX hr w)
 ·rename_i p n c hx
  generalize hy:ev ρ y=b at h
  obtain⟨hn,h⟩:=zK h
  obtain⟨r,hr,h⟩:=aR h
  obtain⟨m,d,hb⟩:=z2e hn
  refine⟨_,h,?_⟩
  exact xK (neg:=false) ho (by simp[hx]) (by simp[hy,hb]) (fun w=>by rw[hx];exact yZ trivial w) (fun w=>by rw[hx,hy,hb];exact uQ hr w)
 ·rename_i p n c hx
  generalize hy:ev ρ y=b at h
  obtain⟨hn,h⟩:=zK h
  obtain⟨r,hr,h⟩:=aR h
  obtain⟨m,d,hb⟩:=z2e hn
  refine⟨_,h,?_⟩
  exact xK (neg:=true) ho (by simp[hx]) (by simp[hy,hb]) (fun w=>by rw[hx];exact yZ trivial w) (fun w=>by rw[hx,hy,hb];exact uQ hr w)
 ·rename_i p hx
  generalize hy:ev ρ y=b at h
  obtain⟨hn,h⟩:=zK h
  obtain⟨r,hr,h⟩:=aR h
  have hb:=z3n hn
  refine⟨_,h,?_⟩
  exact xK (neg:=false) ho (by simp[hx]) (by simp[hy,hb]) (fun w=>by rw[hx];exact yZ trivial w) (fun w=>by rw[hx,hy,hb];exact fY hr w)
 ·rename_i p hx
  generalize hy:ev ρ y=b at h
  obtain⟨hn,h⟩:=zK h
  obtain⟨r,hr,h⟩:=aR h
  have hb:=z3n hn
  refine⟨_,h,?_⟩
  exact xK (neg:=true) ho (by simp[hx]) (by simp[hy,hb]) (fun w=>by rw[hx];exact yZ trivial w) (fun w=>by rw[hx,hy,hb];exact fY hr w)
 ·rename_i a hx
  generalize hy:ev ρ y=b at h
  obtain⟨r,h1,h2,h3,h⟩:=h
  refine⟨_,h,?_⟩
  obtain⟨c,rfl⟩:∃c,b= .agg c:=by cases b<;>first|exact⟨_,rfl⟩|(simp at h3)
  exact xK (neg:=false) ho (by simp[hx]) (by simp[hy]) (fun w=>by rw[hx,hy];exact(zGh (by simp) w).trans (wD h2 w)) (fun w=>by rw[hx,hy];exact wD h1 w)
 ·rename_i a hx
  generalize hy:ev ρ y=b at h
  obtain⟨r,h1,h2,h3,h⟩:=h
  refine⟨_,h,?_⟩
  obtain⟨c,rfl⟩:∃c,b= .agg c:=by cases b<;>first|exact⟨_,rfl⟩|(simp at h3)
  exact xK (neg:=true) ho (by simp[hx]) (by simp[hy]) (fun w=>by rw[hx,hy];exact(zGh (by simp) w).trans (wD h2 w)) (fun w=>by rw[hx,hy];exact wD h1 w)
 ·exact fZ h
theorem uT {P:Program} {ρ:Env} {o:Oper} {K:Value→Prop} (h:fB P o ρ K):∃v,K v∧zJs P (execOp (ev ρ) o) v:=by
 cases ho:o.op
 case move x=>simp only[fB,ho]at h;exact⟨_,h,fun w=>by simp only[execOp,ho];rfl⟩
 case assign x=>simp only[fB,ho]at h;exact⟨_,h,fun w=>by simp only[execOp,ho];rfl⟩
 case pick c a b=>
  simp only[fB,ho]at h
  split at h
  ·rename_i t hc
   refine⟨_,h,fun w=> ?_⟩
   simp only[execOp,ho,hc,asBool,bind,pure,Sem.bind,Sem.run]
   cases t<;>rfl
  ·exact h.elim
 case nilCheck x=>
  simp only[fB,ho]at h
  split at h
  ·rename_i p hx
   obtain⟨a,rfl,h⟩:=aT h
   exact⟨_,h,fun w=>by simp only[execOp,ho,hx];rfl⟩
  ·exact fZ h
 case indexAddr t x i=>
  simp only[fB,ho]at h
  split at h
  ·rename_i p n c k i hx hi
   split at h
   ·rename_i sz hsz
    obtain⟨a,rfl,hb,h⟩:=zWe h
    refine⟨_,h,?_⟩
    simp only[execOp,ho]
    refine z6 fun w=> ?_
    rw[hx,hi]
    exact jJ hsz hb w
   ·exact h.elim
  ·rename_i p k i hx hi
   split at h
   ·rename_i n sz hsz
    obtain⟨a,rfl,hb,h⟩:=zWe h
    refine⟨_,h,?_⟩
    simp only[execOp,ho]
    refine z6 fun w=> ?_
    rw[hx,hi]
    exact gU hsz hb w
   ·exact h.elim
  ·exact h.elim
 case index t x i=>
  simp only[fB,ho]at h
  split at h
  ·rename_i s k i hx hi
   split at h
   ·rename_i ht
    obtain⟨b,⟨h0,h1⟩,h⟩:=h
    refine⟨_,h,?_⟩
    simp only[execOp,ho]
    refine z6 fun w=> ?_
    simp only[Instr.index,hx,hi,asIntOf,bind,pure,Sem.bind,Sem.run,run_bind,run_underlying ht,yWl h0,h1]
   ·exact h.elim
  ·split at h
   ·exact fZ h
   ·obtain⟨v,hv,h⟩:=wI h
    refine⟨v,h,?_⟩
    simp only[execOp,ho]
    exact z6 (wD hv)
 case typeAssert x xT asserted ok=>
  cases ok
  ·simp only[fB,ho]at h
   obtain⟨v,hv,h⟩:=wI h
   refine⟨v,h,?_⟩
   simp only[execOp,ho]
   exact z6 (wD hv)
  ·simp only[fB,ho]at h
   obtain⟨v,h⟩:=wI h
   obtain⟨b,hv,h⟩:=jR h
   refine⟨_,h,?_⟩
   simp only[execOp,ho]
   exact z6 (wD hv)
 case slice t x lo hi mx=>
  cases mx with
  |none=>exact zYd ho h
  |some m=>
   simp only[fB,ho]at h
   split at h<;>first|exact h.elim|contradiction|skip
   rename_i p n c m' hx hm
   cases hm
   split at h<;>first|exact h.elim|skip
   rename_i sz l u k m' hsz h1 h2 hm
   obtain⟨⟨q1,q2,q3,q4⟩,h⟩:=h
   obtain⟨e,ti,e1,e2,rfl⟩:=sO hsz
   rcases zCu h1 with⟨_,h1⟩|⟨y,ky,ny,rfl,hy,h1⟩
   ·cases h1
   cases h1
   rcases zCu h2 with⟨_,h2⟩|⟨z,kz,nz,rfl,hz,h2⟩
   ·cases h2
   cases h2
   refine⟨_,h,?_⟩
   simp only[execOp,ho]
   refine z6 fun w=> ?_
   have b1:(0:Int)≤m'∧m'≤(c:Nat):=by omega
   have b2:0≤u∧u≤(m'.toNat:Nat):=by omega
   have b3:0≤l∧l≤(u.toNat:Nat):=by omega
   simp only[Instr.sliceAt,Instr.slice,Instr.sliceBounds,hx,hm,hy,hz,yYk,bind,pure,Sem.bind,Sem.run,run_bind,run_underlying e1,kD b1,kD b2,kD b3,run_sizeOf e2]
 case binOp op t x y u=>exact yCx ho h
 case panic x=>simp only[fB,ho]at h
 all_goals(simp only[fB,ho]at h;exact fZ h)
def fQ (P:Program) (s:Sem Value) (w:World) (v:Value):Prop:=s.run P w=.ok v w
def u6 (P:Program) (s:Sem Value) (w:World) (v:Value) (w':World):Prop:=s.run P w=.ok v w'
def lF (P:Program) (s:Sem Unit) (w:World) (w':World):Prop:=s.run P w=.ok () w'
def aM (P:Program) (t:TypeId) (a:Addr) (w:World) (v:Value):Prop:=(loadVar t a).run P w=.ok v w
def z3t (P:Program) (t:TypeId):Option TypeId:=
 match P.underlying t with
 |some (.map _ e)=>some e
 |_=>none
def p9 (P:Program) (o:Oper) (ρ:Env) (w:World) (K:Value→Prop):Prop:=
 match o.op with
 | .load t x=>
   match ev ρ x with
   | .pointer p=>zUj p fun a=>exT P t fun v=>aM P t a w v∧K v
   |_=>False
 | .lookup t m k ok=>
   match z3t P t with
   |some e=>exT P e fun v=>exC .bool fun b=>fQ P (Instr.lookup t (ev ρ m) (ev ρ k) true) w (.tuple #[v,b])∧K (bif ok then .tuple #[v,b]else v)
   |none=>False
 | .convert s d x=>exT P d fun v=>fQ P (convert s d (ev ρ x)) w v∧K v
 | .binOp op t x y _=>
   match op with
   | .eql=>exC .bool fun v=>fQ P (binOp .eql t (ev ρ x) (ev ρ y)) w v∧(eqGuard .eql t x y (ev ρ x) (ev ρ y)).run P w=.ok () w∧K v
   | .neq=>exC .bool fun v=>fQ P (binOp .neq t (ev ρ x) (ev ρ y)) w v∧(eqGuard .neq t x y (ev ρ x) (ev ρ y)).run P w=.ok () w∧K v
   |_=>False
 | .call {callee:= .builtin .len,args,argTypes}=>exC (.int .i64) fun v=>fQ P (Builtin.len_ argTypes o.type (args.map (ev ρ))) w v∧K v
 | .entry x=>∃v,fQ P (Instr.entry (ev ρ x)) w v∧K v
 |_=>False
theorem yC {P:Program} {s:Sem Value} {v:Value} {w:World} (h:s.run P w= .ok v w):((do pure (Next.value (← s)):Sem Next)).run P w= .ok (.value v) w:=by
 show(s.bind fun a=> .pure (Next.value a)).run P w=_
 rw[run_bind,h]
 rfl
theorem zYx {P:Program} {s:Sem Value} {v:Value} {w w':World} (h:s.run P w= .ok v w'):((do pure (Next.value (← s)):Sem Next)).run P w= .ok (.value v) w':=by
 show(s.bind fun a=> .pure (Next.value a)).run P w=_
 rw[run_bind,h]
 rfl
theorem z6e {P:Program} {s:Sem Unit} {w w':World} (h:s.run P w= .ok () w'):((do s;pure Next.skip:Sem Next)).run P w= .ok .skip w':=by
 show(s.bind fun _=> .pure Next.skip).run P w=_
 rw[run_bind,h]
 rfl
def Sim (P:Program) (s1 s2:Sem Value):Prop:=∀w v b w',s1.run P w=.ok (.tuple #[v,b]) w'→s2.run P w=.ok v w'
theorem dF {α:Type} {P:Program} (s:Sem α) {f g:α→Sem Value} (h:∀a,Sim P (f a) (g a)):Sim P (s.bind f) (s.bind g):=by
 intro w v b w' hr
 rw[run_bind]at hr ⊢
 cases hs:s.run P w with
 |ok a w1=>rw[hs]at hr;exact h a _ _ _ _ hr
 |halt x w1=>rw[hs]at hr;cases hr
theorem z4w {P:Program} {x y:String}:Sim P (stuck x) (stuck y):=by
 intro w v b w' hr;cases hr
theorem zTp {P:Program} {v b:Value}:Sim P (.pure (.tuple #[v,b])) (.pure v):=by
 intro w v b w' hr
 simp only[Sem.run,Result.ok.injEq,Value.tuple.injEq,Array.mk.injEq,List.cons.injEq]at hr ⊢
 exact⟨hr.1.1,hr.2⟩
theorem sim_lookup {P:Program} {t:TypeId} {m k:Value}:Sim P (Instr.lookup t m k true) (Instr.lookup t m k false):=by
 unfold Instr.lookup
 refine dF _ fun d=> ?_
 have tail:∀(key elem:TypeId) (es:Array MapEntry),Sim P
  ((Instr.checkKey es.isEmpty 10000 key k).bind fun _=>(Instr.findKey key k es.toList).bind fun r=>
    match r with
    |some (_,v)=>(Sem.pure (v,true)).bind fun x=>Sem.pure (if true=true then Value.tuple #[x.1,.bool x.2]else x.1)
    |none=>(zeroValue elem).bind fun z=>(Sem.pure (z,false)).bind fun x=>Sem.pure (if true=true then Value.tuple #[x.1,.bool x.2]else x.1))
  ((Instr.checkKey es.isEmpty 10000 key k).bind fun _=>(Instr.findKey key k es.toList).bind fun r=>
    match r with
    |some (_,v)=>(Sem.pure (v,true)).bind fun x=>Sem.pure (if false=true then Value.tuple #[x.1,.bool x.2]else x.1)
    |none=>(zeroValue elem).bind fun z=>(Sem.pure (z,false)).bind fun x=>Sem.pure (if false=true then Value.tuple #[x.1,.bool x.2]else x.1)):=by
  intro key elem es
  refine dF _ fun _=>dF _ fun r=> ?_
  cases r with
  |some p=>obtain⟨i,v⟩:=p;exact zTp
  |none=>exact dF _ fun z=>zTp
 cases d<;>first|exact z4w|skip
 rename_i key elem
 cases m<;>first|exact dF _ (fun es=>tail key elem es)|skip
 rename_i r
 cases r with
 |none=>exact dF _ (fun es=>tail key elem es)
 |some r=>
  refine dF _ fun o=> ?_
  cases o<;>exact dF _ (fun es=>tail key elem es)
theorem zGf {P:Program} {t:TypeId} {m k v b:Value} {w w':World} (h:(Instr.lookup t m k true).run P w= .ok (.tuple #[v,b]) w'):(Instr.lookup t m k false).run P w= .ok v w':=
 sim_lookup w v b w' h
theorem zYf {P:Program} {ρ:Env} {o:Oper} {w:World} {K:Value→Prop} (h:p9 P o ρ w K):∃v,K v∧(execOp (ev ρ) o).run P w= .ok (.value v) w:=by
 cases ho:o.op
 case load t x=>
  simp only[p9,ho]at h
  split at h
  ·rename_i p hx
   obtain⟨a,rfl,h⟩:=aT h
   obtain⟨v,hv,h⟩:=wI h
   refine⟨v,h,?_⟩
   simp only[execOp,ho,hx]
   exact yC hv
  ·exact h.elim
 case lookup t m k ok=>
  simp only[p9,ho]at h
  split at h
  ·rename_i e he
   obtain⟨v,h⟩:=wI h
   obtain⟨b,hb,h⟩:=jR h
   refine⟨_,h,?_⟩
   simp only[execOp,ho]
   cases ok
   ·exact yC (zGf hb)
   ·exact yC hb
  ·exact h.elim
 case convert s d x=>
  simp only[p9,ho]at h
  obtain⟨v,hv,h⟩:=wI h
  refine⟨v,h,?_⟩
  simp only[execOp,ho]
  exact yC hv
 case binOp op t x y u=>
  simp only[p9,ho]at h
  split at h
  ·obtain⟨v,h1,h2,h⟩:=jR h
   refine⟨v,h,?_⟩
   simp only[execOp,ho]
   refine yC ?_
   simp only[bind,run_bind,h2]
   exact h1
  ·obtain⟨v,h1,h2,h⟩:=jR h
   refine⟨v,h,?_⟩
   simp only[execOp,ho]
   refine yC ?_
   simp only[bind,run_bind,h2]
   exact h1
  ·exact h.elim
 case call c=>
  simp only[p9,ho]at h
  split at h<;>first|exact h.elim|skip
  all_goals first|(exfalso;rename_i hh;cases hh;done)|skip
  rename_i args argTypes hh
  cases hh
  obtain⟨v,hv,h⟩:=jR h
  refine⟨v,h,?_⟩
  simp only[execOp,ho]
  exact yC hv
 case entry x=>
  simp only[p9,ho]at h
  obtain⟨v,hv,h⟩:=h
  refine⟨v,h,?_⟩
  simp only[execOp,ho]
  exact yC hv
 all_goals(simp only[p9,ho]at h)
def Does (P:Program) (s:Sem Next) (w:World) (K:Value→World→Prop):Prop:=
 match s.run P w with
 | .ok (.value v) w'=>K v w'
 | .ok .skip w'=>K undef w'
 | .ok (.enter f args) w'=>Calls P f args w' fun e w''=>∃v,e=.returned v∧K v w''
 |_=>False
def z4f (w:World) (o:Obj) (K:Nat→World→Prop):Prop:=∀b w',b=w.heap.size→w'=w.alloc o→K b w'
def zero? (P:Program) (t:TypeId):Option Value:=
 match P.info? t with
 |some i=>i.zero
 |none=>none
def lD (z:Array Value) (n:Nat):Array Value:=((List.range n).map fun j=>z.toList.getD (j % z.size) default).toArray
theorem zJd (z:Array Value) (n:Nat):(Array.range n).map (z[·% z.size]!)=lD z n:=by
 apply Array.ext'
 simp only[lD,Array.toList_map,Array.toList_range]
 refine yXs fun j _=> ?_
 rw[Array.getElem!_eq_getD,yXz,yWs,Array.getElem?_toList]
def bsl (P:Program) (t:TypeId) (len:Nat) (parts:Array (Nat×Value)):Option (TypeId×Array Value):=
 match P.underlying t with
 |some (.slice e)=>
  match P.info? e with
  |some i=>
   if len*i.size>2 ^ 24 then none else
   match(if len*i.size=0 then some #[]else i.zero.map Value.cells)with
   |some z=>(Instr.fill (fun j=>some (j*i.size,i.size)) (lD z (len*i.size)) parts.toList).map fun cs=>(e,cs)
   |none=>none
  |none=>none
 |_=>none
def uF (P:Program) (t:TypeId):Option (TypeId×Nat×Nat×Array Value):=
 match P.underlying t with
 |some (.slice e)=>
  match P.info? e with
  |some i=>i.zero.map fun z=>(e,i.size,i.bytes,z.cells)
  |none=>none
 |_=>none
def uB (P:Program) (f:FuncId):Bool:=
 match P.funcs[f]? with
 | some fn => !fn.body.isNone && !(fn.name == "runtime.NumGoroutine")
 |none=>false
def z8h (P:Program) (f:FuncId) (args:Array Value) (w:World) (rt:TypeId) (K:Value→World→Prop):Prop:=
 Calls P f args w fun e w'=>exR P rt fun v=>e=.returned v∧K v w'
def Ext (P:Program) (f:FuncId) (args:Array Value) (w:World) (v:Value) (w':World):Prop:=(callFunc f args).run P w=.ok (.value v) w'
def gO (P:Program) (o:Oper) (ρ:Env) (w:World) (K:Value→World→Prop):Prop:=
 match o.op with
 | .alloc e=>
   match zero? P e with
   |some z=>z4f w (.cells z.cells e) fun b w'=>K (.pointer (some ⟨b,0,none⟩)) w'
   |none=>False
 | .box e x=>z4f w (.cells (ev ρ x).cells e) fun b w'=>K (.pointer (some ⟨b,0,none⟩)) w'
 | .buildSlice t len parts=>
   match bsl P t len (parts.map fun(i,x)=>(i,ev ρ x))with
   |some (e,cs)=>z4f w (.cells cs e) fun b w'=>K (.slice (some ⟨b,0,none⟩) len len) w'
   |none=>False
 | .makeMap _ none=>z4f w (.map #[] 0) fun b w'=>K (.map (some b)) w'
 | .makeSlice t l c=>
   match ev ρ l,ev ρ c with
   | .int _ l,.int _ c=>
     match uF P t with
     |some (e,sz,by_,z)=>(0≤l∧l≤c∧c≤9223372036854775807∧(by_:Int)*c≤2 ^ 48)∧
       z4f w (.cells (madeCells z (c.toNat*sz)) e) fun b w'=>K (.slice (some ⟨b,0,none⟩) l.toNat c.toNat) w'
     |none=>False
   |_,_=>False
 | .store t x v=>
   match ev ρ x with
   | .pointer p=>zUj p fun a=>∃w',lF P (storeVar t a (ev ρ v)) w w'∧K undef w'
   |_=>False
 | .mapUpdate t m k x=>∃w',lF P (Instr.mapUpdate t (ev ρ m) (ev ρ k) (ev ρ x)) w w'∧K undef w'
 | .mapEntry t m k=>
   match z3t P t with
   |some e=>exT P e fun v=>exC (.int .i64) fun s=>∃w',u6 P (Instr.mapEntry t (ev ρ m) (ev ρ k)) w (.tuple #[v,s]) w'∧K (.tuple #[v,s]) w'
   |none=>False
 | .entryStore t m s x=>∃w',lF P (Instr.entryStore t (ev ρ m) (ev ρ s) (ev ρ x)) w w'∧K undef w'
 | .range t x=>
   match P.underlying t,ev ρ x with
   |some .string,.string s=>z4f w (.stringIter s 0) fun b w'=>K (.pointer (some ⟨b,0,none⟩)) w'
   |_,x=>exC .ptr fun v=>∃w',u6 P (Instr.range t x) w v w'∧K v w'
 | .next it true=>
   (∃w',u6 P (Instr.next (ev ρ it) true o.type) w (.tuple #[.bool false]) w'∧K (.tuple #[.bool false]) w')∨
   exC (.int .i64) fun k=>exC (.int .i32) fun v=>∃w',u6 P (Instr.next (ev ρ it) true o.type) w (.tuple #[.bool true,k,v]) w'∧K (.tuple #[.bool true,k,v]) w'
 | .next it false=>
   (∃w',u6 P (Instr.next (ev ρ it) false o.type) w (.tuple #[.bool false]) w'∧K (.tuple #[.bool false]) w')∨
   ∃(k v:Value) (w':World),u6 P (Instr.next (ev ρ it) false o.type) w (.tuple #[.bool true,k,v]) w'∧K (.tuple #[.bool true,k,v]) w'
 | .convert s d x=>exT P d fun v=>∃w',u6 P (convert s d (ev ρ x)) w v w'∧K v w'
 | .call c=>
   match c.callee with
   | .value (.func f)=>bif uB P f then z8h P f (c.args.map (ev ρ)) w o.type K else exR P o.type fun v=>∃w',Ext P f (c.args.map (ev ρ)) w v w'∧K v w'
   | .value x=>
     match ev ρ x with
     | .func (.func f) first cap=>uB P f=true∧z8h P f (first++c.args.map (ev ρ)++cap) w o.type K
     |_=>False
   | .builtin .append=>exT P o.type fun v=>∃w',u6 P (Builtin.append_ c.argTypes o.type (c.args.map (ev ρ))) w v w'∧K v w'
   | .builtin .copy=>exC (.int .i64) fun v=>∃w',u6 P (Builtin.copy_ c.argTypes o.type (c.args.map (ev ρ))) w v w'∧K v w'
   | .builtin .delete=>∃w',u6 P (Builtin.delete_ c.argTypes o.type (c.args.map (ev ρ))) w (.tuple #[]) w'∧K (.tuple #[]) w'
   | .builtin .clear=>∃w',u6 P (Builtin.clear_ c.argTypes o.type (c.args.map (ev ρ))) w (.tuple #[]) w'∧K (.tuple #[]) w'
   |_=>False
 |_=>False
theorem z8 {P:Program} {s:Sem Value} {w w':World} {v:Value} {K:Value→World→Prop} (h:s.run P w= .ok v w') (hk:K v w'):Does P (do pure (Next.value (← s))) w K:=by
 unfold Does
 rw[zYx h]
 exact hk
theorem jT {P:Program} {s:Sem Unit} {w w':World} {K:Value→World→Prop} (h:s.run P w= .ok () w') (hk:K undef w'):Does P (do s;pure Next.skip) w K:=by
 unfold Does
 rw[z6e h]
 exact hk
theorem zOu {P:Program} {f:FuncId} {args:Array Value} {w:World} {rt:TypeId} {K:Value→World→Prop} (hb:uB P f=true) (h:z8h P f args w rt K):Does P (callFunc f args) w K:=by
 unfold uB at hb
 split at hb
 ·rename_i fn hfn
  simp only[yWw,yZh,Bool.not_eq_eq_eq_not,Bool.not_true]at hb
  unfold Does
  have:(callFunc f args).run P w= .ok (.enter f args) w:=by
   simp only[callFunc,bind,pure,run_bind,program,Sem.run,Sem.bind,hfn,hb.1,hb.2,yXb,if_false]
  rw[this]
  exact h.mono fun e w' hh=>by
   obtain⟨v,hv,hk⟩:=z1g hh
   exact⟨v,hv,hk⟩
 ·cases hb
theorem zero_run {P:Program} {t:TypeId} {z:Value} (h:zero? P t=some z) (w:World):(zeroValue t).run P w= .ok z w:=by
 unfold zero? at h
 split at h
 ·rename_i i hi
  have hti:(typeInfo t).run P w= .ok i w:=by
   unfold typeInfo
   show((Sem.program Sem.pure).bind _).run P w=_
   simp only[Sem.bind,Sem.run,hi]
   rfl
  unfold zeroValue
  simp only[bind,run_bind,hti,h]
  rfl
 ·cases h
theorem zMb {P:Program} {t:TypeId} {v:Value} (w:World):(newVar t v).run P w= .ok ⟨w.heap.size,0,none⟩ (w.alloc (.cells v.cells t)):=rfl
theorem zDb {P:Program} {t:TypeId} {i:TypeInfo} (h:P.info? t=some i) (w:World):(typeInfo t).run P w= .ok i w:=by
 unfold typeInfo
 show((Sem.program Sem.pure).bind _).run P w=_
 simp only[Sem.bind,Sem.run,h]
 rfl
theorem cX {P:Program} {t:TypeId} {len:Nat} {parts:Array (Nat×Value)} {e:TypeId} {cs:Array Value} (h:bsl P t len parts=some (e,cs)) (w:World):
 (Instr.buildSlice t len parts).run P w= .ok (.slice (some ⟨w.heap.size,0,none⟩) len len) (w.alloc (.cells cs e)):=by
 unfold bsl at h
 split at h<;>first|(cases h;done)|skip
 rename_i e' ht
 split at h<;>first|(cases h;done)|skip
 rename_i i hi
 split at h<;>first|(cases h;done)|skip
 rename_i hlen
 split at h<;>first|(cases h;done)|skip
 rename_i z hz
 simp only[Option.map_eq_some_iff,Prod.mk.injEq]at h
 obtain⟨cs',hcs,rfl,rfl⟩:=h
 by_cases h0:len*i.size=0
 ·simp only[h0,if_true,Option.some.injEq]at hz
  subst hz
  simp only[Instr.buildSlice,bind,pure,run_bind,Sem.bind,Sem.run,run_underlying ht,run_sizeOf hi,yWj hlen,yWl h0,zJd,hcs]
  rfl
 ·simp only[h0,if_false,Option.map_eq_some_iff]at hz
  obtain⟨z',hz',rfl⟩:=hz
  have hzr:∀w,(zeroValue e').run P w= .ok z' w:=fun w=>zero_run (by unfold zero?;rw[hi];exact hz') w
  simp only[Instr.buildSlice,bind,pure,run_bind,Sem.bind,Sem.run,run_underlying ht,run_sizeOf hi,yWj hlen,yWj h0,hzr,zJd,hcs]
  rfl
theorem kZ {P:Program} {t e:TypeId} {sz by_:Nat} {z:Array Value} (h:uF P t=some (e,sz,by_,z)):
 ∃i zv,P.underlying t=some (.slice e)∧P.info? e=some i∧i.size=sz∧i.bytes=by_∧i.zero=some zv∧zv.cells=z:=by
 unfold uF at h
 split at h<;>first|(cases h;done)|skip
 rename_i e' ht
 split at h<;>first|(cases h;done)|skip
 rename_i i hi
 simp only[Option.map_eq_some_iff,Prod.mk.injEq]at h
 obtain⟨zv,hzv,rfl,rfl,rfl,rfl⟩:=h
 exact⟨i,zv,ht,hi,rfl,rfl,hzv,rfl⟩
theorem wrap_i64 {x:Int} (h0: -9223372036854775808≤x) (h1:x≤9223372036854775807):IntKind.i64.wrap x=x:=IntWalk.i64_in x ⟨h0,h1⟩
theorem zGb (P:Program) (n:Nat) (w:World):(askRoom n).run P w= .ok () w:=by
 unfold askRoom
 split<;>rfl
theorem zIi {P:Program} {t e:TypeId} {sz by_:Nat} {z:Array Value} {k k':IntKind} {l c:Int} (h:uF P t=some (e,sz,by_,z))
 (hb:0≤l∧l≤c∧c≤9223372036854775807∧(by_:Int)*c≤2 ^ 48) (w:World):
 (Instr.makeSlice t (.int k l) (.int k' c)).run P w= .ok (.slice (some ⟨w.heap.size,0,none⟩) l.toNat c.toNat) (w.alloc (.cells (madeCells z (c.toNat*sz)) e)):=by
 obtain⟨i,zv,ht,hi,rfl,rfl,hz,rfl⟩:=kZ h
 obtain⟨h1,h2,h3,h4⟩:=hb
 have wl:IntKind.i64.wrap l=l:=wrap_i64 (by omega) (by omega)
 have wc:IntKind.i64.wrap c=c:=wrap_i64 (by omega) (by omega)
 have hc1:¬(((decide (c<0)||decide ((i.bytes:Int)*c>2 ^ 48))||decide (l<0)||decide (l>c))=true):=by
  simp only[Bool.or_eq_true,yYe,not_or]
  omega
 have hzr:∀w,(zeroValue e).run P w= .ok zv w:=fun w=>zero_run (by unfold zero?;rw[hi];exact hz) w
 simp only[Instr.makeSlice,asInt,asIntOf,bind,pure,run_bind,Sem.bind,Sem.run,run_underlying ht,zDb hi,run_sizeOf hi,wl,wc]
 rw[yWj hc1]
 simp only[run_bind,zGb,run_sizeOf hi]
 by_cases h0:c.toNat*i.size=0
 ·simp only[h0,if_true,Sem.run,run_bind,madeCells]
  have e1:(Array.map (fun x=>(#[]:Array Value)[x % (#[]:Array Value).size]!) (Array.range 0))= #[]:=by simp
  have e2:(Array.map (fun x=>zv.cells[x % zv.cells.size]!) (Array.range 0))= #[]:=by simp
  rw[e1,e2]
  rfl
 ·simp only[yWj h0,run_bind,hzr,Sem.run,madeCells]
  rfl
theorem zPh {P:Program} {ρ:Env} {o:Oper} {w:World} {K:Value→World→Prop} (h:gO P o ρ w K):Does P (execOp (ev ρ) o) w K:=by
 cases ho:o.op
 case alloc e=>
  simp only[gO,ho]at h
  split at h
  ·rename_i z hz
   simp only[execOp,ho]
   refine z8 (v:= .pointer (some ⟨w.heap.size,0,none⟩)) (w':=w.alloc (.cells z.cells e)) ?_ (h _ _ rfl rfl)
   simp only[Instr.alloc,bind,pure,run_bind,zero_run hz,Sem.run,zMb]
  ·exact h.elim
 case box e x=>
  simp only[gO,ho]at h
  simp only[execOp,ho]
  exact z8 (v:= .pointer (some ⟨w.heap.size,0,none⟩)) (w':=w.alloc (.cells (ev ρ x).cells e)) rfl (h _ _ rfl rfl)
 case buildSlice t len parts=>
  simp only[gO,ho]at h
  split at h
  ·rename_i e cs hcs
   simp only[execOp,ho]
   exact z8 (cX hcs w) (h _ _ rfl rfl)
  ·exact h.elim
 case makeMap t r=>
  cases r with
  |some r=>simp only[gO,ho]at h
  |none=>
   simp only[gO,ho]at h
   simp only[execOp,ho]
   exact z8 (v:= .map (some w.heap.size)) (w':=w.alloc (.map #[] 0)) rfl (h _ _ rfl rfl)
 case makeSlice t l c=>
  simp only[gO,ho]at h
  split at h<;>first|exact h.elim|skip
  rename_i k l' k' c' hl hc
  split at h<;>first|exact h.elim|skip
  rename_i e sz by_ z hs
  simp only[execOp,ho,hl,hc]
  exact z8 (zIi hs h.1 w) (h.2 _ _ rfl rfl)
 case store t x v=>
  simp only[gO,ho]at h
  split at h<;>first|exact h.elim|skip
  rename_i p hx
  obtain⟨a,rfl,w',hw,hk⟩:=aT h
  simp only[execOp,ho,hx]
  exact jT (w':=w') hw hk
 case mapUpdate t m k x=>
  simp only[gO,ho]at h
  obtain⟨w',hw,hk⟩:=h
  simp only[execOp,ho]
  exact jT hw hk
 case mapEntry t m k=>
  simp only[gO,ho]at h
  split at h<;>first|exact h.elim|skip
  obtain⟨v,h⟩:=wI h
  obtain⟨s,w',hw,hk⟩:=jR h
  simp only[execOp,ho]
  exact z8 hw hk
 case entryStore t m s x=>
  simp only[gO,ho]at h
  obtain⟨w',hw,hk⟩:=h
  simp only[execOp,ho]
  exact jT hw hk
 case range t x=>
  simp only[gO,ho]at h
  split at h
  ·rename_i s ht hx
   simp only[execOp,ho]
   refine z8 (v:= .pointer (some ⟨w.heap.size,0,none⟩)) (w':=w.alloc (.stringIter s 0)) ?_ (h _ _ rfl rfl)
   rw[hx]
   simp only[Instr.range,bind,pure,run_bind,Sem.bind,run_underlying ht]
   rfl
  ·obtain⟨v,w',hw,hk⟩:=jR h
   simp only[execOp,ho]
   exact z8 hw hk
 case next it isString=>
  simp only[execOp,ho]
  cases isString
  ·simp only[gO,ho]at h
   rcases h with⟨w',hw,hk⟩|⟨k,v,w',hw,hk⟩
   ·exact z8 hw hk
   ·exact z8 hw hk
  ·simp only[gO,ho]at h
   rcases h with⟨w',hw,hk⟩|h
   ·exact z8 hw hk
   ·obtain⟨k,h⟩:=jR h
    obtain⟨v,w',hw,hk⟩:=jR h
    exact z8 hw hk
 case convert s d x=>
  simp only[gO,ho]at h
  obtain⟨v,w',hw,hk⟩:=wI h
  simp only[execOp,ho]
  exact z8 hw hk
 case call c=>
  have hexec:execOp (ev ρ) o=(resolve (ev ρ) c o.type).bind fun d=>invoke d.target d.args:=by
   simp only[execOp,ho];rfl
  simp only[gO,ho]at h
  split at h
  ·rename_i f hc
   have hrun:(execOp (ev ρ) o)=callFunc f (c.args.map (ev ρ)):=by
    rw[hexec]
    unfold resolve
    rw[hc]
    simp only[ev,Deferred.ofValue,pure,Sem.bind,invoke,Array.append_empty,Array.empty_append]
   rw[hrun]
   revert h
   cases hb:uB P f<;>intro h
   ·replace h:exR P o.type fun v=>∃w',Ext P f (c.args.map (ev ρ)) w v w'∧K v w':=h
    obtain⟨v,w',hw,hk⟩:=z1g h
    exact(by unfold Does;rw[show(callFunc f (c.args.map (ev ρ))).run P w=_ from hw];exact hk)
   ·exact zOu hb h
  ·rename_i x hc
   split at h<;>first|exact h.elim|skip
   rename_i f first cap hx
   have hrun:(execOp (ev ρ) o)=callFunc f (first++c.args.map (ev ρ)++cap):=by
    rw[hexec]
    unfold resolve
    rw[hc]
    simp only[hx,Deferred.ofValue,pure,Sem.bind,invoke]
   rw[hrun]
   exact zOu h.1 h.2
  all_goals first|exact h.elim|skip
  ·rename_i hc
   have hrun:execOp (ev ρ) o=builtin .append c.argTypes o.type (c.args.map fun| .const _=>true|_=>false) (c.args.map (ev ρ)):=by
    rw[hexec];unfold resolve;rw[hc];rfl
   rw[hrun]
   obtain⟨v,w',hw,hk⟩:=wI h
   exact z8 hw hk
  ·rename_i hc
   have hrun:execOp (ev ρ) o=builtin .copy c.argTypes o.type (c.args.map fun| .const _=>true|_=>false) (c.args.map (ev ρ)):=by
    rw[hexec];unfold resolve;rw[hc];rfl
   rw[hrun]
   obtain⟨v,w',hw,hk⟩:=jR h
   exact z8 hw hk
  ·rename_i hc
   have hrun:execOp (ev ρ) o=builtin .delete c.argTypes o.type (c.args.map fun| .const _=>true|_=>false) (c.args.map (ev ρ)):=by
    rw[hexec];unfold resolve;rw[hc];rfl
   rw[hrun]
   obtain⟨w',hw,hk⟩:=h
   exact z8 hw hk
  ·rename_i hc
   have hrun:execOp (ev ρ) o=builtin .clear c.argTypes o.type (c.args.map fun| .const _=>true|_=>false) (c.args.map (ev ρ)):=by
    rw[hexec];unfold resolve;rw[hc];rfl
   rw[hrun]
   obtain⟨w',hw,hk⟩:=h
   exact z8 hw hk
 all_goals(simp only[gO,ho]at h)
end Cv
namespace Cv
set_option linter.unusedSimpArgs false
set_option linter.unusedVariables false
open Go
def zKr:Operand→Bool
 | .const (.pointer none)=>true
 |_=>false
def zQn (P:Program) (op:Op):Nat:=
 match op with
 | .load _ _=>1
 | .lookup _ _ _ _=>1
 | .convert s d _=>
   match P.underlying s,P.underlying d with
   |some .string,some (.slice _)=>2
   |some (.slice _),some .string=>1
   |_,_=>0
 | .binOp op t x y _=>
   match op,P.underlying t with
   | .eql,some (.pointer _)=>bif zKr y then 0 else 1
   | .neq,some (.pointer _)=>bif zKr y then 0 else 1
   |_,_=>0
 | .call c=>
   match c.callee with
   | .builtin .len=>
     match(c.argTypes[0]?).bind P.underlying with
     |some (.map _ _)=>1
     |_=>0
   | .builtin .cap=>0
   | .builtin .min=>0
   | .builtin .max=>0
   |_=>2
 | .alloc _=>2
 | .box _ _=>2
 | .buildSlice _ _ _=>2
 | .makeMap _ _=>2
 | .makeSlice _ _ _=>2
 | .store _ _ _=>2
 | .mapUpdate _ _ _ _=>2
 | .mapEntry _ _ _=>2
 | .entryStore _ _ _ _=>2
 | .range _ _=>2
 | .entry _=>1
 | .next _ _=>2
 |_=>0
def opV (P:Program) (o:Oper) (ρ:Env) (w:World) (K:Value→World→Prop):Prop:=
 match zQn P o.op with
 |0=>fB P o ρ fun v=>K v w
 |1=>p9 P o ρ w fun v=>K v w
 |_=>gO P o ρ w K
theorem jM {P:Program} {s:Sem Next} {w w':World} {v:Value} {K:Value→World→Prop} (h:s.run P w= .ok (.value v) w') (hk:K v w'):Does P s w K:=by
 unfold Does;rw[h];exact hk
theorem z5c {P:Program} {o:Oper} {ρ:Env} {w:World} {K:Value→World→Prop} (h:opV P o ρ w K):Does P (execOp (ev ρ) o) w K:=by
 unfold opV at h
 split at h
 ·obtain⟨v,hk,hf⟩:=uT h;exact jM (hf w) hk
 ·obtain⟨v,hk,hf⟩:=zYf h;exact jM hf hk
 ·exact zPh h
def z4c (ops:List Oper) (j:Nat):Option Nat:=
 match ops[j]? with
 |some o=>o.dst
 |none=>none
def gd (c want:Bool) (Y N:Prop):Prop:=
 match c,want with
 |true,true=>Y
 |false,false=>Y
 |true,false=>N
 |false,true=>N
def zIv (ops:List Oper) (g:Option (Nat×Bool)) (ρ:Env) (Y N:Env→Prop):Prop:=
 match g with
 |none=>Y ρ
 |some (j,want)=>
  match z4c ops j with
  |none=>N ρ
  |some d=>
   match ρ d with
   | .bool c=>gd c want (Y (put ρ (some d) (.bool want))) (N (put ρ (some d) (.bool !want)))
   |_=>N ρ
theorem zVd {ρ:Env} {d:Nat} {v:Value} (h:ρ d=v):put ρ (some d) v=ρ:=by
 funext i
 simp only[put]
 cases hb:Nat.beq i d
 ·rfl
 ·have:=yWm hb;subst this;exact h.symm
@[reducible] def yG (a:Act):Env:=fun i=>a.tmps.getD i undef
theorem jY (a:Act):ev (yG a)=a.eval:=by
 funext x;cases x<;>rfl
theorem envOf_put {a:Act} {dst:Option Nat} {v:Value} (h:∀d,dst=some d→d<a.tmps.size):yG (a.put dst v)=put (yG a) dst v:=by
 cases dst with
 |none=>rfl
 |some d=>
  funext i
  have:=h d rfl
  simp only[yG,Act.put,put]
  cases hb:Nat.beq i d
  ·have hne:i≠d:=fun e=>by subst e;simp at hb
   simp[yXz,y1e (Ne.symm hne)]
  ·have e:=yWm hb;subst e
   simp[yXz,y0f this]
theorem zDc (ops:List Oper) (tmps:Array Value) (j:Nat):yielded ops.toArray tmps j=match z4c ops j with
 |none=>none
 |some d=>match tmps[d]? with|some (.bool b)=>some b|_=>none:=by
 unfold yielded z4c
 simp only[yYj]
 cases ops[j]? with
 |none=>rfl
 |some o=>
  obtain⟨dst,op,ty,pos,after,g⟩:=o
  cases dst with
  |none=>rfl
  |some d=>
   simp only[Option.bind_some]
   cases tmps[d]? with
   |none=>rfl
   |some v=>cases v<;>rfl
theorem pJ {ops:List Oper} {o:Oper} {a:Act} {Y N:Env→Prop} (h:zIv ops o.guard (yG a) Y N):
 if Region.wanted o (yielded ops.toArray a.tmps)then Y (yG a)else N (yG a):=by
 unfold zIv at h
 unfold Region.wanted
 split at h
 ·rename_i hg;rw[hg];exact h
 ·rename_i j want hg
  rw[hg]
  have hy:=zDc ops a.tmps j
  split at h
  ·rename_i hd
   rw[hd]at hy
   simp only[hy]
   simpa using h
  ·rename_i d hd
   rw[hd]at hy
   simp only[hy]
   have hv:yG a d=(a.tmps[d]?).getD undef:=by simp[yG,yXz]
   rw[hv]at h
   cases ht:a.tmps[d]? with
   |none=>
    rw[ht]at h
    simpa[undef]using h
   |some v=>
    rw[ht]at h hv
    simp only[yYq]at h hv
    cases v with
    |bool c=>
     simp only[]at h ⊢
     have hs:∀b,c=b→put (yG a) (some d) (.bool b)=yG a:=fun b hb=>zVd (by rw[hv,hb])
     cases c<;>cases want<;>simp only[gd,Bool.not_true,y1p]at h<;>rw[hs _ rfl]at h<;>simpa using h
    |_=>simpa using h
def zVn (P:Program) (ops:List Oper):List Oper→Env→World→(Env→World→Prop)→Prop
 |[],ρ,w,K=>K ρ w
 |o::rest,ρ,w,K=>
  zIv ops o.guard ρ (fun ρ=>opV P o ρ w fun v w'=>zVn P ops rest (put ρ o.dst v) w' K) (fun ρ=>zVn P ops rest (put ρ o.dst undef) w K)
def zGn (n:Nat) (A:Nat→Bool) (ops:List Oper):Prop:=∀o∈ops,∀d,o.dst=some d→d<n∧A d=true
structure Good (n:Nat) (A:Nat→Bool) (e0:Env) (a:Act):Prop where
 size:a.tmps.size=n
 defers:a.defers=[]
 same:∀s,A s=false→yG a s=e0 s
theorem zWm (a:Act) (d:Option Nat) (v:Value):(a.put d v).tmps.size=a.tmps.size∧(a.put d v).defers=a.defers:=by
 cases d<;>simp[Act.put]
theorem Good.envOf_put {n:Nat} {A:Nat→Bool} {e0:Env} {a:Act} (h:Good n A e0 a) {dst:Option Nat} (hd:∀d,dst=some d→d<n∧A d=true) (v:Value):
 yG (a.put dst v)=put (yG a) dst v:=Cv.envOf_put fun d hd'=>by rw[h.size];exact(hd d hd').1
theorem Good.put {n:Nat} {A:Nat→Bool} {e0:Env} {a:Act} (h:Good n A e0 a) {dst:Option Nat} (hd:∀d,dst=some d→d<n∧A d=true) (v:Value):Good n A e0 (a.put dst v):=by
 refine⟨(zWm _ _ _).1.trans h.size,(zWm _ _ _).2.trans h.defers,fun s hs=> ?_⟩
 rw[h.envOf_put hd]
 cases dst with
 |none=>exact h.same s hs
 |some d=>
  simp only[Cv.put]
  cases hb:Nat.beq s d
  ·exact h.same s hs
  ·have e:=yWm hb;subst e
   have:=(hd s rfl).2
   rw[hs]at this;cases this
theorem zAo {P:Program} {o:Oper} {a:Act} {w:World} {K:Act→World→Prop} {Q:Exit→Act→World→Prop}
 (h:Does P (execOp a.eval o) w fun v w'=>K (a.put o.dst v) w'):o.wp P a w K Q:=by
 unfold Does at h
 unfold Oper.wp
 split at h
 ·rename_i v w' hr;rw[hr];exact h
 ·rename_i w' hr;rw[hr];exact h
 ·rename_i f args w' hr
  rw[hr]
  exact h.mono fun e w'' ⟨v,he,hk⟩=>by subst he;exact hk
 ·exact h.elim
theorem zMe {P:Program} {ops:List Oper} {n:Nat} {A:Nat→Bool} {e0:Env} {Q:Exit→Act→World→Prop} {K:Env→World→Prop}
 (hQ:∀a w,Good n A e0 a→K (yG a) w→Q .normal a w):
 ∀(l:List Oper) (a:Act) (w:World),zGn n A l→Good n A e0 a→zVn P ops l (yG a) w K→wpList P ops.toArray Q l a w
 |[],a,w,_,hg,h=>hQ a w hg h
 |o::l,a,w,hf,hgd,h=>by
  have hdst:=hf o yWp
  have hf':zGn n A l:=fun o' ho'=>hf o' (yWq _ ho')
  have hg:=pJ h
  have nx:∀{v:Value} {w:World},zVn P ops l (put (yG a) o.dst v) w K→wpList P ops.toArray Q l (a.put o.dst v) w:=fun{v w} hh=>
   zMe hQ l _ _ hf' (hgd.put hdst v) (by rw[hgd.envOf_put hdst];exact hh)
  unfold wpList
  split
  ·rename_i hw
   rw[yWl hw]at hg
   left
   refine zAo ?_
   have:=z5c hg
   rw[jY]at this
   unfold Does at this ⊢
   split at this
   ·exact nx this
   ·exact nx this
   ·exact this.mono fun e w'' ⟨v,he,hk⟩=>⟨v,he,nx hk⟩
   ·exact this
  ·rename_i hw
   rw[yWj hw]at hg
   exact nx hg
end Cv
namespace Cv
set_option linter.unusedSimpArgs false
set_option linter.unusedVariables false
open Go
def yEa (acc:List Nat) (o:Oper):Nat:=
 o.after.toList.foldl (fun s e=>bif Region.binds .any e then s|||2 ^ e.on|||acc.getD e.on 0 else s) 0
def vX:List Oper→List Nat→List Nat
 |[],acc=>acc
 |o::rest,acc=>vX rest (acc++[yEa acc o])
def Bef (bf:List Nat) (i r:Nat):Bool:=(bf.getD i 0).testBit r
def nN (ops:List Oper) (L:Nat→Prop):Prop:=∀i o,ops[i]?=some o→L i→∀e∈o.after,Region.binds .any e=true→L e.on
theorem zOj {ops:List Oper} {acc:List Nat} {L:Nat→Prop} (hacc:∀k,L k→∀r,(acc.getD k 0).testBit r=true→L r):
 ∀(l:List Edge) (s:Nat),(∀r,s.testBit r=true→L r)→(∀e∈l,Region.binds .any e=true→L e.on)→
  ∀r,(l.foldl (fun s e=>bif Region.binds .any e then s|||2 ^ e.on|||acc.getD e.on 0 else s) s).testBit r=true→L r
 |[],s,hs,_,r,h=>hs r h
 |e::l,s,hs,hl,r,h=>by
  refine zOj (ops:=ops) hacc l _ ?_ (fun e' he'=>hl e' (yWq _ he')) r h
  intro r hr
  dsimp only at hr
  cases hb:Region.binds .any e
  ·rw[hb]at hr;exact hs r hr
  ·have hon:=hl e (by simp) hb
   rw[hb]at hr
   simp only[cond_true,Nat.testBit_or,Nat.testBit_two_pow,Bool.or_eq_true,yYe]at hr
   rcases hr with(hr|hr)|hr
   ·exact hs r hr
   ·exact hr▸hon
   ·exact hacc _ hon r hr
theorem befL_bits {ops:List Oper} {L:Nat→Prop} (hc:nN ops L):∀(l:List Oper) (acc:List Nat),(∀j,l[j]? =ops[acc.length+j]?)→
 (∀k o,k<acc.length→ops[k]? =some o→(∀e∈o.after,Region.binds .any e=true→L e.on)→∀r,(acc.getD k 0).testBit r=true→L r)→
 ∀k o,ops[k]? =some o→(∀e∈o.after,Region.binds .any e=true→L e.on)→∀r,((vX l acc).getD k 0).testBit r=true→L r
 |[],acc,hl,hacc,k,o,ho,hd,r,hr=>by
  by_cases hk:k<acc.length
  ·exact hacc k o hk ho hd r hr
  ·exfalso
   have:=hl (k-acc.length)
   rw[show acc.length+(k-acc.length)=k by omega,ho]at this
   simp at this
 |o::l,acc,hl,hacc,k,o',ho',hd,r,hr=>by
  refine befL_bits hc l (acc++[yEa acc o]) ?_ ?_ k o' ho' hd r hr
  ·intro j
   have:=hl (j+1)
   simp only[yWi,yWr,yXp]
   rw[show acc.length+(0+1)+j=acc.length+(j+1)by omega]
   simpa using this
  ·intro k2 o2 hk2 ho2 hd2 r2 hr2
   have hlook:∀k,L k→∀r,(acc.getD k 0).testBit r=true→L r:=by
    intro k3 hL r3 h3
    by_cases hk3:k3<acc.length
    ·cases ho3:ops[k3]? with
     |none=>
      exfalso
      have:=hl 0
      simp only[y0u]at this
      rw[List.getElem?_eq_none_iff]at ho3
      have h4:acc.length<ops.length:=by
       rcases yYy acc.length ops.length with h|h
       ·exact h
       ·rw[yXm h]at this;simp at this
      omega
     |some o3=>exact hacc k3 o3 hk3 ho3 (hc k3 o3 ho3 hL) r3 h3
    ·simp[yWs,yXm (Nat.not_lt.1 hk3)]at h3
   by_cases hk:k2<acc.length
   ·rw[yWs,yYv hk,← yWs]at hr2
    exact hacc k2 o2 hk ho2 hd2 r2 hr2
   ·have hk':k2=acc.length:=by simp at hk2;omega
    subst hk'
    rw[yWs,yYg (yXl _)]at hr2
    simp only[y2f,yYp,yYq]at hr2
    have h0:=hl 0
    simp only[yYp,y0u]at h0
    rw[ho2]at h0
    cases h0
    exact zOj (ops:=ops) hlook _ 0 (by simp) (fun e he hb=>hd2 e (by simpa using he) hb) r2 hr2
theorem zZj {ops:List Oper} {L:Nat→Prop} (hc:nN ops L) {i:Nat} {o:Oper} (ho:ops[i]? =some o) (hd:∀e∈o.after,Region.binds .any e=true→L e.on)
 {r:Nat} (h:Bef (vX ops []) i r=true):L r:=
 befL_bits hc ops [] (by simp) (by simp) i o ho hd r h
@[reducible] def Mon:=Nat×(World→Prop)
def kP (bf:List Nat) (i:Nat) (M:List Mon):List Mon:=M.filter fun m=> !Bef bf i m.1
def zKl (M:List Mon) (w:World):Prop:=∀m∈M,m.2 w
def zGx (P:Program) (ops:Array Oper) (i:Nat) (K:Act→World→Prop) (a:Act) (w:World):Prop:=
 match ops[i]? with
 |none=>K a w
 |some o=>if Region.wanted o (yielded ops a.tmps)then Does P (execOp a.eval o) w (fun v w'=>K (a.put o.dst v) w')else K (a.put o.dst undef) w
theorem Does.mono {P:Program} {s:Sem Next} {w:World} {K K':Value→World→Prop} (h:Does P s w K) (hk:∀v w',K v w'→K' v w'):Does P s w K':=by
 unfold Does at*
 split at h
 ·exact hk _ _ h
 ·exact hk _ _ h
 ·exact h.mono fun e w'' ⟨v,he,h⟩=>⟨v,he,hk _ _ h⟩
 ·exact h
theorem tW {P:Program} {ops:Array Oper} {i:Nat} {K K':Act→World→Prop} {a:Act} {w:World} (h:zGx P ops i K a w) (hk:∀a w,K a w→K' a w):zGx P ops i K' a w:=by
 unfold zGx at*
 split
 ·rename_i ho;simp only[ho]at h;exact hk _ _ h
 ·rename_i o ho
  simp only[ho]at h
  split
  ·rename_i hw;rw[yWl hw]at h;exact h.mono fun v w'=>hk _ _
  ·rename_i hw;rw[yWj hw]at h;exact hk _ _ h
def zCs (P:Program) (ops:Array Oper) (bf:List Nat) (Q:Act→World→Prop):Nat→List Mon→Array Bool→Act→World→Prop
 |0,_,listed,a,w=>Region.ready .any ops listed=[]∧Q a w
 |fuel+1,M,listed,a,w=>
  (Region.ready .any ops listed=[]→Q a w)∧
  ∀i∈Region.ready .any ops listed,zGx P ops i (fun a' w'=>zKl (kP bf i M) w'∧zCs P ops bf Q fuel (kP bf i M) (listed.setIfInBounds i true) a' w') a w
theorem zNa {bf:List Nat} {i:Nat} {M M':List Mon} (h:∀m∈M',m∈M):∀m∈kP bf i M',m∈kP bf i M:=by
 intro m hm
 simp only[kP,yYn]at hm ⊢
 exact⟨h m hm.1,hm.2⟩
theorem zWc {P:Program} {ops:Array Oper} {bf:List Nat} {Q:Act→World→Prop}:∀(fuel:Nat) {M M':List Mon} (listed:Array Bool) (a:Act) (w:World),
 (∀m∈M',m∈M)→zCs P ops bf Q fuel M listed a w→zCs P ops bf Q fuel M' listed a w
 |0,_,_,_,_,_,_,h=>h
 |fuel+1,M,M',listed,a,w,hs,h=>⟨h.1,fun i hi=>tW (h.2 i hi) fun a' w' hh=>
   ⟨fun m hm=>hh.1 m (zNa hs m hm),zWc fuel _ _ _ (zNa hs) hh.2⟩⟩
theorem uI {P:Program} {ops:Array Oper} {bf:List Nat} {Q:Act→World→Prop} {Q':Exit→Act→World→Prop} (hQ:∀a w,Q a w→Q' .normal a w):
 ∀(fuel:Nat) {M:List Mon} (listed:Array Bool) (a:Act) (w:World),zCs P ops bf Q fuel M listed a w→wpAny P .any ops Q' fuel listed a w
 |0,_,_,_,_,h=>⟨h.1,hQ _ _ h.2⟩
 |fuel+1,M,listed,a,w,h=>⟨fun h0=>hQ _ _ (h.1 h0),fun i hi=>by
   have:=h.2 i hi
   unfold zGx at this
   unfold wpOp
   split
   ·rename_i ho;simp only[ho]at this;exact uI hQ fuel _ _ _ this.2
   ·rename_i o ho
    simp only[ho]at this
    split
    ·rename_i hw;rw[yWl hw]at this;exact .inl (zAo (this.mono fun v w' hh=>uI hQ fuel _ _ _ hh.2))
    ·rename_i hw;rw[yWj hw]at this;exact uI hQ fuel _ _ _ this.2⟩
def m4 (P:Program) (ops:Array Oper) (o:Oper) (v:Value) (a:Act) (w:World):Prop:=
 (Region.wanted o (yielded ops a.tmps)=true∧(execOp a.eval o).run P w=.ok (.value v) w)∨(Region.wanted o (yielded ops a.tmps)=false∧v=undef)
theorem zPi {P:Program} {ops:Array Oper} {i:Nat} {o:Oper} {v:Value} {a:Act} {w:World} {K:Act→World→Prop} (hi:ops[i]? =some o) (h:m4 P ops o v a w) (hk:K (a.put o.dst v) w):zGx P ops i K a w:=by
 unfold zGx
 simp only[hi]
 rcases h with⟨hw,hr⟩|⟨hw,rfl⟩
 ·rw[yWl hw];exact jM hr hk
 ·rw[yWj (by rw[hw];simp)];exact hk
theorem z5d {listed:Array Bool} {i:Nat} (h:listed.getD i true=false):i<listed.size:=by
 rcases yYy i listed.size with h'|h'
 ·exact h'
 ·simp[yXz,yZi h']at h
def x6 (listed:Array Bool) (i:Nat):Prop:=listed.getD i false=true
theorem zDd {listed:Array Bool} {i j:Nat} (h:x6 listed j):x6 (listed.setIfInBounds i true) j:=by
 unfold x6 at*
 by_cases hij:i=j
 ·subst hij
  have:i<listed.size:=by
   rcases yYy i listed.size with h'|h'
   ·exact h'
   ·simp[yXz,yZi h']at h
  simp[yXz,y0f this]
 ·simpa[yXz,y1e hij]using h
theorem zFa {listed:Array Bool} {i j:Nat} (h:x6 (listed.setIfInBounds i true) j):j=i∨x6 listed j:=by
 unfold x6 at*
 by_cases hij:i=j
 ·exact .inl hij.symm
 ·right;simpa[yXz,y1e hij]using h
theorem zKg {listed:Array Bool} {i:Nat} (h:listed.getD i true=false):¬x6 listed i:=by
 unfold x6
 have:=z5d h
 simp only[yXz,y1b this]at h ⊢
 simp at h ⊢
 exact h
theorem vI {ops:List Oper} {listed:Array Bool} (hc:nN ops (x6 listed)) {i:Nat} (hi:i∈Region.ready .any ops.toArray listed):nN ops (x6 (listed.setIfInBounds i true)):=by
 intro j o ho hj e he hb
 rcases zFa hj with rfl|hj
 ·obtain⟨_,o',ho',hall⟩:=mem_ready.1 hi
  simp only[yYj]at ho'
  rw[ho]at ho'
  cases ho'
  exact zDd (hall e he hb)
 ·exact zDd (hc j o ho hj e he hb)
def pM (ops:List Oper) (bf:List Nat):Bool:=
 Region.noSelect ops.toArray && (List.range ops.length).all fun i=>(List.range i).all fun j=>
  match ops[i]?,ops[j]? with
  |some oi,some oj=>Bef bf i j||(oi.apart ops.toArray oj && oj.apart ops.toArray oi)
  |_,_=>true
theorem zWg {ops:List Oper} {bf:List Nat} (h:pM ops bf=true) {i j:Nat} {oi oj:Oper} (hi:ops[i]? =some oi) (hj:ops[j]? =some oj) (hne:i≠j)
 (h1:Bef bf i j=false) (h2:Bef bf j i=false):oi.apart ops.toArray oj=true:=by
 simp only[pM,yWw,yZn,yZl]at h
 have lt:∀{k:Nat} {o:Oper},ops[k]? =some o→k<ops.length:=fun{k o} hk=>by
  rcases yYy k ops.length with h'|h'
  ·exact h'
  ·rw[yXm h']at hk;cases hk
 rcases Nat.lt_or_gt_of_ne hne with hlt|hlt
 ·have:=h.2 j (lt hj) i hlt
  simp only[hi,hj,h2,y2m,yWw]at this
  exact this.2
 ·have:=h.2 i (lt hi) j hlt
  simp only[hi,hj,h1,y2m,yWw]at this
  exact this.1
theorem z7l {P:Program} {ops:Array Oper} {o:Oper} {v u:Value} {a:Act} {w:World} {d:Option Tmp} (hs:∀cs b,o.op≠.select cs b) (hd:∀t,d=some t→t∉o.looksAt ops):
 m4 P ops o v (a.put d u) w↔m4 P ops o v a w:=by
 unfold m4
 rw[execOp_put o hs a d u hd,wanted_put o a d u hd]
theorem z9p {P:Program} {ops:Array Oper} {j:Nat} {oi oj:Oper} {v:Value} (hj:ops[j]? =some oj) (hap:oi.apart ops oj=true) (hsj:∀cs b,oj.op≠.select cs b)
 {K:Act→World→Prop} {a:Act} {w:World} (h:zGx P ops j K (a.put oi.dst v) w):
 zGx P ops j (fun a' w'=>(∃u,a'=a.put oj.dst u)∧K (a'.put oi.dst v) w') a w:=by
 obtain⟨h1,h2,h3⟩:=Oper.apart_spec hap
 unfold zGx at*
 simp only[hj]at*
 rw[wanted_put oj a oi.dst v h1]at h
 split
 ·rename_i hw
  rw[yWl hw]at h
  rw[execOp_put oj hsj a oi.dst v h1]at h
  refine h.mono fun u w' hk=>⟨⟨u,rfl⟩,?_⟩
  rw[← Act.put_comm a v u h2];exact hk
 ·rename_i hw
  rw[yWj hw]at h
  exact⟨⟨_,rfl⟩,by rw[← Act.put_comm a v undef h2];exact h⟩
theorem uU {P:Program} {ops:List Oper} {Q:Act→World→Prop} (hok:pM ops (vX ops [])=true) {r:Nat} {o:Oper} {v:Value} (hr:ops[r]? =some o):
 ∀(fuel:Nat) (M:List Mon) (listed:Array Bool) (a:Act) (w:World),nN ops (x6 listed)→r∈Region.ready .any ops.toArray listed→
  m4 P ops.toArray o v a w→zKl M w→
  zCs P ops.toArray (vX ops []) Q fuel ((r,fun w=>m4 P ops.toArray o v a w)::M) (listed.setIfInBounds r true) (a.put o.dst v) w→
  zCs P ops.toArray (vX ops []) Q (fuel+1) M listed a w:=by
 have hns:∀(i:Nat) (o:Oper),ops[i]? =some o→∀cs b,o.op≠.select cs b:=by
  intro i o hi cs b
  simp only[pM,yWw]at hok
  exact Region.noSelect_spec hok.1 i o cs b (by simpa using hi)
 intro fuel
 induction fuel with
 |zero=>
  intro M listed a w hc hrr hs hM H
  refine⟨fun h=>(by rw[h]at hrr;cases hrr),fun i hi=> ?_⟩
  by_cases hir:i=r
  ·subst hir
   refine zPi (by simpa using hr) hs ⟨fun m hm=>hM m (by simp only[kP,yYn]at hm;exact hm.1),?_⟩
   exact H
  ·have:=ready_mono hi hir
   rw[H.1]at this
   cases this
 |succ fuel ih=>
  intro M listed a w hc hrr hs hM H
  refine⟨fun h=>(by rw[h]at hrr;cases hrr),fun i hi=> ?_⟩
  by_cases hir:i=r
  ·subst hir
   refine zPi (by simpa using hr) hs ⟨fun m hm=>hM m (by simp only[kP,yYn]at hm;exact hm.1),?_⟩
   refine zWc _ _ _ _ ?_ H
   intro m hm
   simp only[kP,yYn]at hm
   exact yWq _ hm.1
  ·have h1:=H.2 i (ready_mono hi hir)
   obtain⟨hiun,oi,hoi,hall⟩:=mem_ready.1 hi
   obtain⟨hrun,o',ho',hrall⟩:=mem_ready.1 hrr
   simp only[yYj]at hoi ho'
   rw[hr]at ho'
   cases ho'
   have hL:∀(k:Nat) (ok:Oper),ops[k]? =some ok→(∀e∈ok.after,Region.binds .any e=true→listed.getD e.on false=true)→∀q,Bef (vX ops []) k q=true→x6 listed q:=
    fun k ok hk hd q hq=>zZj hc hk hd hq
   have nri:Bef (vX ops []) i r=false:=by
    cases hb:Bef (vX ops []) i r with
    |false=>rfl
    |true=>exact absurd (hL i oi hoi hall r hb) (zKg hrun)
   have nir:Bef (vX ops []) r i=false:=by
    cases hb:Bef (vX ops []) r i with
    |false=>rfl
    |true=>exact absurd (hL r o hr hrall i hb) (zKg hiun)
   have hap:=zWg hok hr hoi (Ne.symm hir) nir nri
   have h2:=z9p (by simpa using hoi) hap (hns i oi hoi) h1
   have hap':=(Oper.apart_spec hap).2.2
   have hkeep:kP (vX ops []) i ((r,fun w=>m4 P ops.toArray o v a w)::M)=(r,fun w=>m4 P ops.toArray o v a w)::kP (vX ops []) i M:=by
    simp[kP,nri]
   refine tW h2 fun a' w' hh=> ?_
   obtain⟨⟨u,rfl⟩,hA,hB⟩:=hh
   rw[hkeep]at hA hB
   have hs':∀w,m4 P ops.toArray o v (a.put oi.dst u) w↔m4 P ops.toArray o v a w:=fun w=>z7l (hns r o hr) hap'
   refine⟨fun m hm=>hA m (yWq _ hm),?_⟩
   have hfun:(fun w=>m4 P ops.toArray o v a w)=fun w=>m4 P ops.toArray o v (a.put oi.dst u) w:=by
    funext w;exact propext (hs' w).symm
   rw[hfun]at hA hB
   refine ih _ _ _ _ (vI hc hi) (ready_mono hrr (Ne.symm hir)) (hA _ yWp) (fun m hm=>hA m (yWq _ hm)) ?_
   rw[Array.setIfInBounds_comm _ _ hir]
   exact hB
end Cv
namespace Cv
set_option linter.unusedSimpArgs false
set_option linter.unusedVariables false
open Go
def pU (P:Program) (o:Oper) (ρ:Env) (v:Value) (w:World):Prop:=
 match o.op with
 | .load t x=>
   match ev ρ x with
   | .pointer p=>zUj p fun a=>aM P t a w v
   |_=>False
 | .lookup t m k ok=>fQ P (Instr.lookup t (ev ρ m) (ev ρ k) ok) w v
 | .convert s d x=>fQ P (convert s d (ev ρ x)) w v
 | .binOp op t x y _=>fQ P (do eqGuard op t x y (ev ρ x) (ev ρ y);binOp op t (ev ρ x) (ev ρ y)) w v
 | .call {callee:= .builtin .len,args,argTypes}=>fQ P (Builtin.len_ argTypes o.type (args.map (ev ρ))) w v
 | .entry x=>fQ P (Instr.entry (ev ρ x)) w v
 |_=>False
theorem z6n {P:Program} {o:Oper} {ρ:Env} {v:Value} {w:World} (h:pU P o ρ v w):(execOp (ev ρ) o).run P w= .ok (.value v) w:=by
 unfold pU at h
 split at h
 ·rename_i t x ho
  split at h
  ·rename_i p hx
   obtain⟨a,rfl,h⟩:=aT h
   simp only[execOp,ho,hx]
   exact yC h
  ·exact h.elim
 ·rename_i t m k ok ho;simp only[execOp,ho];exact yC h
 ·rename_i s d x ho;simp only[execOp,ho];exact yC h
 ·rename_i op t x y u ho;simp only[execOp,ho];exact yC h
 ·rename_i args argTypes ho;simp only[execOp,ho];exact yC h
 ·rename_i x ho;simp only[execOp,ho];exact yC h
 ·exact h.elim
theorem zXr {P:Program} {ρ:Env} {o:Oper} {w:World} {K:Value→Prop} (h:p9 P o ρ w K):∃v,K v∧pU P o ρ v w:=by
 cases ho:o.op
 case load t x=>
  simp only[p9,ho]at h
  split at h
  ·rename_i p hx
   obtain⟨a,rfl,h⟩:=aT h
   obtain⟨v,hv,h⟩:=wI h
   refine⟨v,h,?_⟩
   simp only[pU,ho,hx]
   exact hv
  ·exact h.elim
 case lookup t m k ok=>
  simp only[p9,ho]at h
  split at h
  ·rename_i e he
   obtain⟨v,h⟩:=wI h
   obtain⟨b,hb,h⟩:=jR h
   refine⟨_,h,?_⟩
   simp only[pU,ho]
   cases ok
   ·exact zGf hb
   ·exact hb
  ·exact h.elim
 case convert s d x=>
  simp only[p9,ho]at h
  obtain⟨v,hv,h⟩:=wI h
  refine⟨v,h,?_⟩
  simp only[pU,ho]
  exact hv
 case binOp op t x y u=>
  simp only[p9,ho]at h
  split at h
  ·obtain⟨v,h1,h2,h⟩:=jR h
   refine⟨v,h,?_⟩
   simp only[pU,ho,fQ,bind,run_bind,h2]
   exact h1
  ·obtain⟨v,h1,h2,h⟩:=jR h
   refine⟨v,h,?_⟩
   simp only[pU,ho,fQ,bind,run_bind,h2]
   exact h1
  ·exact h.elim
 case call c=>
  simp only[p9,ho]at h
  split at h<;>first|exact h.elim|skip
  all_goals first|(exfalso;rename_i hh;cases hh;done)|skip
  rename_i args argTypes hh
  cases hh
  obtain⟨v,hv,h⟩:=jR h
  refine⟨v,h,?_⟩
  simp only[pU,ho]
  exact hv
 case entry x=>
  simp only[p9,ho]at h
  obtain⟨v,hv,h⟩:=h
  refine⟨v,h,?_⟩
  simp only[pU,ho]
  exact hv
 all_goals(simp only[p9,ho]at h)
def zXf:List Mon→World→Prop→Prop
 |[],_,X=>X
 |m::ms,w,X=>m.2 w∧zXf ms w X
theorem zIu:∀{M:List Mon} {w:World} {X:Prop},zXf M w X→zKl M w∧X
 |[],_,_,h=>⟨fun m hm=>(by cases hm),h⟩
 |m::ms,w,X,h=>by
  obtain⟨h1,h2⟩:=h
  obtain⟨h3,h4⟩:=zIu h2
  refine⟨fun m' hm=> ?_,h4⟩
  rcases yXe.1 hm with rfl|hm
  ·exact h1
  ·exact h3 _ hm
def yGo:List Nat→(Nat→Prop)→Prop
 |[],_=>True
 |[e],f=>f e
 |e::es,f=>f e∧yGo es f
theorem zIo:∀{l:List Nat} {f:Nat→Prop},yGo l f→∀i∈l,f i
 |[],_,_,i,hi=>by cases hi
 |[e],f,h,i,hi=>by rcases yYc.1 hi with rfl;exact h
 |e::e'::es,f,h,i,hi=>by
  rcases yXe.1 hi with rfl|hi
  ·exact h.1
  ·exact zIo h.2 i hi
def yHv (P:Program) (ops:List Oper) (i:Nat):Bool:=
 match ops[i]? with
 |some o=>match zQn P o.op with
  |2=>false
  |_=>true
 |none=>true
def lE (P:Program) (ops:List Oper) (bf:List Nat):Nat→Array Bool→List Mon→Env→World→(Env→World→Prop)→Prop
 |0,listed,_,ρ,w,K=>
  match Region.ready .any ops.toArray listed with
  |[]=>K ρ w
  |_=>False
 |fuel+1,listed,M,ρ,w,K=>
  match Region.ready .any ops.toArray listed with
  |[]=>K ρ w
  |r::rs=>
   match(r::rs).find? (yHv P ops)with
   |some i=>
    match ops[i]? with
    |none=>False
    |some o=>zIv ops o.guard ρ
      (fun ρ'=>match zQn P o.op with
        |0=>fB P o ρ' fun v=>lE P ops bf fuel (listed.setIfInBounds i true) M (put ρ' o.dst v) w K
        |_=>p9 P o ρ' w fun v=>lE P ops bf fuel (listed.setIfInBounds i true) ((i,pU P o ρ' v)::M) (put ρ' o.dst v) w K)
      (fun ρ'=>lE P ops bf fuel (listed.setIfInBounds i true) M (put ρ' o.dst undef) w K)
   |none=>yGo (r::rs) fun i=>
    match ops[i]? with
    |none=>False
    |some o=>zIv ops o.guard ρ
      (fun ρ'=>gO P o ρ' w fun v w'=>zXf (kP bf i M) w' (lE P ops bf fuel (listed.setIfInBounds i true) (kP bf i M) (put ρ' o.dst v) w' K))
      (fun ρ'=>lE P ops bf fuel (listed.setIfInBounds i true) (kP bf i M) (put ρ' o.dst undef) w K)
theorem cU {n:Nat} {A:Nat→Bool} {l:List Oper} (h:zGn n A l) {i:Nat} {o:Oper} (ho:l[i]? =some o):∀d,o.dst=some d→d<n∧A d=true:=
 h o (yWt ho)
theorem bT {P:Program} {ops:Array Oper} {bf:List Nat} {Q:Act→World→Prop} {i:Nat} {f:World→Prop} (hf:∀w,f w):
 ∀(fuel:Nat) {M:List Mon} (listed:Array Bool) (a:Act) (w:World),zCs P ops bf Q fuel M listed a w→zCs P ops bf Q fuel ((i,f)::M) listed a w
 |0,_,_,_,_,h=>h
 |fuel+1,M,listed,a,w,h=>⟨h.1,fun j hj=>tW (h.2 j hj) fun a' w' hh=>by
   have hk:kP bf j ((i,f)::M)=if Bef bf j i then kP bf j M else(i,f)::kP bf j M:=by
    simp only[kP,List.filter_cons]
    cases Bef bf j i<;>simp
   rw[hk]
   cases Bef bf j i
   ·refine⟨fun m hm=> ?_,bT hf fuel _ _ _ hh.2⟩
    simp only[yXb,if_false,yXe]at hm
    rcases hm with rfl|hm
    ·exact hf w'
    ·exact hh.1 m hm
   ·exact hh⟩
theorem zTz {P:Program} {ops:Array Oper} {bf:List Nat} {Q:Act→World→Prop} {i:Nat} {f g:World→Prop} (hfg:∀w,f w→g w):
 ∀(fuel:Nat) {M:List Mon} (listed:Array Bool) (a:Act) (w:World),zCs P ops bf Q fuel ((i,f)::M) listed a w→zCs P ops bf Q fuel ((i,g)::M) listed a w
 |0,_,_,_,_,h=>h
 |fuel+1,M,listed,a,w,h=>⟨h.1,fun j hj=>tW (h.2 j hj) fun a' w' hh=>by
   have hk:∀f:World→Prop,kP bf j ((i,f)::M)=if Bef bf j i then kP bf j M else(i,f)::kP bf j M:=by
    intro f
    simp only[kP,List.filter_cons]
    cases Bef bf j i<;>simp
   rw[hk]at hh ⊢
   cases hb:Bef bf j i
   ·rw[hb]at hh
    simp only[yXb,if_false]at hh ⊢
    refine⟨fun m hm=> ?_,zTz hfg fuel _ _ _ hh.2⟩
    rcases yXe.1 hm with rfl|hm
    ·exact hfg w' (hh.1 _ yWp)
    ·exact hh.1 m (yWq _ hm)
   ·rw[hb]at hh;exact hh⟩
theorem z0f {P:Program} {ops:List Oper} {n:Nat} {A:Nat→Bool} {e0:Env} {K:Env→World→Prop} {Q:Act→World→Prop} (hok:pM ops (vX ops [])=true) (hf:zGn n A ops)
 (hQ:∀a w,Good n A e0 a→K (yG a) w→Q a w):
 ∀(fuel:Nat) (listed:Array Bool) (M:List Mon) (a:Act) (w:World),nN ops (x6 listed)→zKl M w→Good n A e0 a→
  lE P ops (vX ops []) fuel listed M (yG a) w K→zCs P ops.toArray (vX ops []) Q fuel M listed a w:=by
 intro fuel
 induction fuel with
 |zero=>
  intro listed M a w hc hM hgd h
  unfold lE at h
  split at h
  ·rename_i hr;exact⟨hr,hQ a w hgd h⟩
  ·exact h.elim
 |succ fuel ih=>
  intro listed M a w hc hM hgd h
  unfold lE at h
  split at h
  ·rename_i hr
   exact⟨fun _=>hQ a w hgd h,fun i hi=>by rw[hr]at hi;cases hi⟩
  ·rename_i r rs hr
   have hne:Region.ready .any ops.toArray listed≠[]:=by rw[hr];simp
   split at h
   ·rename_i i hfind
    have hi:i∈Region.ready .any ops.toArray listed:=by rw[hr];exact List.mem_of_find?_eq_some hfind
    split at h<;>first|exact h.elim|skip
    rename_i o ho
    have hput:∀v,yG (a.put o.dst v)=put (yG a) o.dst v:=fun v=>hgd.envOf_put (cU hf ho) v
    have hg:=pJ h
    have nx:∀{M:List Mon} {v:Value},zKl M w→lE P ops (vX ops []) fuel (listed.setIfInBounds i true) M (put (yG a) o.dst v) w K→
     zCs P ops.toArray (vX ops []) Q fuel M (listed.setIfInBounds i true) (a.put o.dst v) w:=fun{M v} hM hh=>
     ih _ _ _ _ (vI hc hi) hM (hgd.put (cU hf ho) _) (by rw[hput];exact hh)
    by_cases hw:Region.wanted o (yielded ops.toArray a.tmps)=true
    ·rw[yWl hw]at hg
     split at hg
     ·obtain⟨v,hk,hfree⟩:=uT hg
      rw[jY]at hfree
      have hs:∀w,m4 P ops.toArray o v a w:=fun w=> .inl ⟨hw,hfree w⟩
      exact uU hok ho fuel M listed a w hc hi (hs w) hM (bT hs fuel _ _ _ (nx hM hk))
     ·obtain⟨v,hk,hst⟩:=zXr hg
      have hw':∀w,pU P o (yG a) v w→m4 P ops.toArray o v a w:=fun w hst=> .inl ⟨hw,by rw[← jY];exact z6n hst⟩
      refine uU hok ho fuel M listed a w hc hi (hw' w hst) hM (zTz hw' fuel _ _ _ (nx ?_ hk))
      intro m hm
      rcases yXe.1 hm with rfl|hm
      ·exact hst
      ·exact hM m hm
    ·rw[yWj hw]at hg
     have hs:∀w,m4 P ops.toArray o undef a w:=fun w=> .inr ⟨by simpa using hw,rfl⟩
     exact uU hok ho fuel M listed a w hc hi (hs w) hM (bT hs fuel _ _ _ (nx hM hg))
   ·refine⟨fun h0=>absurd h0 hne,fun i hi=> ?_⟩
    have h1:=zIo h i (by rw[← hr];exact hi)
    split at h1<;>first|exact h1.elim|skip
    rename_i o ho
    have hput:∀v,yG (a.put o.dst v)=put (yG a) o.dst v:=fun v=>hgd.envOf_put (cU hf ho) v
    have hg:=pJ h1
    unfold zGx
    simp only[yYj,ho]
    by_cases hw:Region.wanted o (yielded ops.toArray a.tmps)=true
    ·rw[yWl hw]at hg ⊢
     have hdoes:=zPh hg
     rw[jY]at hdoes
     refine hdoes.mono fun v w' hh=> ?_
     obtain⟨hM',hh⟩:=zIu hh
     exact⟨hM',ih _ _ _ _ (vI hc hi) hM' (hgd.put (cU hf ho) _) (by rw[hput];exact hh)⟩
    ·rw[yWj hw]at hg ⊢
     have hM':zKl (kP (vX ops []) i M) w:=fun m hm=>hM m (by simp only[kP,yYn]at hm;exact hm.1)
     exact⟨hM',ih _ _ _ _ (vI hc hi) hM' (hgd.put (cU hf ho) _) (by rw[hput];exact hg)⟩
end Cv
namespace Cv
set_option linter.unusedSimpArgs false
set_option linter.unusedVariables false
open Go
structure z7u where
 ι:Type
 chg:ι→List (Nat×Value)
 fix:List Nat
def zUo:List (Nat×Value)→Env→Prop
 |[],_=>True
 |[p],ρ=>ρ p.1=p.2
 |p::l,ρ=>ρ p.1=p.2∧zUo l ρ
theorem satV_cons {p:Nat×Value} {l:List (Nat×Value)} {ρ:Env}:zUo (p::l) ρ↔ρ p.1=p.2∧zUo l ρ:=by
 cases l<;>simp[zUo]
def z2l:List (Nat×Value)→Env→Env
 |[],ρ=>ρ
 |p::l,ρ=>put (z2l l ρ) (some p.1) p.2
theorem zOr:∀{l:List (Nat×Value)} {ρ:Env},zUo l ρ→z2l l ρ=ρ
 |[],_,_=>rfl
 |p::l,ρ,h=>by
  have h:=satV_cons.1 h
  simp only[z2l]
  rw[zOr h.2]
  exact zVd h.1
def fL (s:Nat):List Nat→Bool
 |[]=>false
 |x::l=>bif Nat.beq s x then true else fL s l
theorem memN_iff {s:Nat}:∀{l:List Nat},fL s l=true↔s∈l
 |[]=>by simp[fL]
 |x::l=>by
  simp only[fL]
  cases hb:Nat.beq s x
  ·have hne:s≠x:=fun e=>by subst e;simp at hb
   simp[memN_iff,hne]
  ·have:=yWm hb
   simp[this]
def yCs (fix:List Nat) (ρ j:Env):Env:=fun s=>bif fL s fix then ρ s else j s
theorem zZh {fix:List Nat} {ρ j:Env} (h:∀s∈fix,j s=ρ s):yCs fix ρ j=j:=by
 funext s
 simp only[yCs]
 cases hb:fL s fix
 ·rfl
 ·exact(h s (memN_iff.1 hb)).symm
def asg:Code→List Nat
 | .region _ ops _=>ops.toList.filterMap (·.dst)
 | .seq a b=>asg a++asg b
 | .cond _ a b=>asg a++asg b
 | .block _ a=>asg a
 | .loop a=>asg a
 |_=>[]
def nL:Code→Nat
 | .seq a b=>nL a+nL b
 | .cond _ a b=>nL a+nL b
 | .block _ a=>nL a
 | .loop a=>nL a+1
 |_=>0
def yJg (next:Env→World→Prop) (Q:Exit→Env→World→Prop):Exit→Env→World→Prop
 | .normal,ρ,w=>next ρ w
 |e,ρ,w=>Q e ρ w
def yCy (id:Nat) (Q:Exit→Env→World→Prop):Exit→Env→World→Prop
 | .exit id',ρ,w=>bif Nat.beq id' id then Q .normal ρ w else Q (.exit id') ρ w
 |e,ρ,w=>Q e ρ w
def cnd (t:Bool) (A B:Prop):Prop:=
 match t with
 |true=>A
 |false=>B
theorem cnd.mk {t:Bool} {A B:Prop} (h1:t=true→A) (h2:t=false→B):cnd t A B:=by
 cases t
 ·exact h2 rfl
 ·exact h1 rfl
def z2x (w:World) (K:World→Prop):Prop:=∀w',w'=w.drew→K w'
def cwp (P:Program):List z7u→Code→(Exit→Env→World→Prop)→Env→World→Prop
 |_,.skip,Q,ρ,w=>Q .normal ρ w
 |an,.seq a b,Q,ρ,w=>cwp P (an.take (nL a)) a (yJg (fun ρ w=>cwp P (an.drop (nL a)) b Q ρ w) Q) ρ w
 |an,.cond c a b,Q,ρ,w=>
  match ev ρ c with
  | .bool t=>cnd t (cwp P (an.take (nL a)) a Q ρ w) (cwp P (an.drop (nL a)) b Q ρ w)
  |_=>False
 |an,.block id a,Q,ρ,w=>cwp P an a (yCy id Q) ρ w
 |an,.loop a,Q,ρ,w=>
  match an with
  |[]=>False
  |x::rest=>∃(I:x.ι→World→Prop) (μ:x.ι→World→Nat),(∃i0,zUo (x.chg i0) ρ∧I i0 w)∧
    ∀(j:Env) (i:x.ι) (w1:World),I i w1→cwp P rest a (yJg (fun ρ' w'=>∃i',zUo (x.chg i') ρ'∧I i' w'∧μ i' w'<μ i w1) Q) (z2l (x.chg i) (yCs x.fix ρ j)) w1
 |_,.exit id,Q,ρ,w=>Q (.exit id) ρ w
 |_,.ret,Q,ρ,w=>Q .ret ρ w
 |_,.region _ ops d,Q,ρ,w=>bif d then z2x w fun w=>lE P ops.toList (vX ops.toList []) ops.toList.length (Array.replicate ops.toList.length false) [] ρ w (Q .normal)
    else zVn P ops.toList ops.toList ρ w (Q .normal)
 |_,_,_,_,_=>False
def okC (n:Nat):Code→Bool
 | .region _ ops d=>(ops.toList.all fun o=>match o.dst with|none=>true|some d=>Nat.blt d n) && (bif d then pM ops.toList (vX ops.toList [])else true)
 | .seq a b=>okC n a && okC n b
 | .cond _ a b=>okC n a && okC n b
 | .block _ a=>okC n a
 | .loop a=>okC n a
 |_=>true
def okF:List z7u→Code→Bool
 |an,.seq a b=>okF (an.take (nL a)) a && okF (an.drop (nL a)) b
 |an,.cond _ a b=>okF (an.take (nL a)) a && okF (an.drop (nL a)) b
 |an,.block _ a=>okF an a
 |an,.loop a=>match an with
  |[]=>false
  |x::rest=>(x.fix.all fun s=> !fL s (asg a)) && okF rest a
 |_,_=>true
theorem zWw {n:Nat} {A:Nat→Bool} {ops:List Oper} (h:(ops.all fun o=>match o.dst with|none=>true|some d=>Nat.blt d n)=true) (hA:∀s∈ops.filterMap (·.dst),A s=true):zGn n A ops:=by
 intro o ho d hd
 have:=yZn.1 h o ho
 rw[hd]at this
 exact⟨by simpa[yZj]using this,hA d (y1v.2 ⟨o,ho,hd⟩)⟩
def z3v (n:Nat) (A:Nat→Bool) (e0:Env) (Q:Exit→Env→World→Prop):Exit→Act→World→Prop:=fun e a w=>Good n A e0 a∧Q e (yG a) w
theorem z6j {P:Program} (hm:P.follows .mixedOrders=true) {n:Nat}:∀(c:Code) (an:List z7u) (Q:Exit→Env→World→Prop) (A:Nat→Bool) (e0:Env) (a:Act) (w:World),
 okC n c=true→okF an c=true→(∀s∈asg c,A s=true)→Good n A e0 a→cwp P an c Q (yG a) w→c.wp P (z3v n A e0 Q) a w:=by
 intro c
 induction c with
 |skip=>intro an Q A e0 a w _ _ _ hg h;exact wp_skip ⟨hg,h⟩
 |region id ops d=>
  intro an Q A e0 a w hc _ hA hg h
  simp only[okC,yWw]at hc
  have hdst:=zWw (A:=A) hc.1 hA
  cases d
  ·refine wp_region_list ?_
   exact zMe (Q:=z3v n A e0 Q) (K:=Q .normal) (fun a w hg h=>⟨hg,h⟩) ops.toList a w hdst hg h
  ·refine wp_region_any hm ?_
   have h':=h _ rfl
   have hok:pM ops.toList (vX ops.toList [])=true:=hc.2
   refine uI (Q:=fun a w=>z3v n A e0 Q .normal a w) (fun _ _ h=>h) ops.size _ _ _ (M:=[]) (bf:=vX ops.toList []) ?_
   have hclosed:nN ops.toList (x6 (Array.replicate ops.toList.length false)):=by
    intro i o ho hi
    exfalso
    unfold x6 at hi
    simp[yXz]at hi
    rw[y1g]at hi
    split at hi<;>simp at hi
   have:=z0f (P:=P) (K:=Q .normal) (Q:=fun a w=>z3v n A e0 Q .normal a w) hok hdst (fun a w hg h=>⟨hg,h⟩) ops.toList.length _ [] a _ hclosed (fun m hm=>by cases hm) hg h'
   simpa using this
 |seq x y ihx ihy=>
  intro an Q A e0 a w hc hf hA hg h
  simp only[okC,okF,yWw,asg,yXo]at hc hf hA
  refine wp_seq (wp_mono (ihx _ _ A e0 a w hc.1 hf.1 (fun s hs=>hA s (.inl hs)) hg h) ?_)
  rintro e a' w' ⟨hg',h'⟩
  cases e<;>first|exact ihy _ _ A e0 a' w' hc.2 hf.2 (fun s hs=>hA s (.inr hs)) hg' h'|exact⟨hg',h'⟩
 |cond c x y ihx ihy=>
  intro an Q A e0 a w hc hf hA hg h
  simp only[okC,okF,yWw,asg,yXo]at hc hf hA
  simp only[cwp]at h
  rw[jY]at h
  split at h
  ·rename_i t ht
   refine wp_cond_split ht (fun e=> ?_) (fun e=> ?_)
   ·subst e;exact ihx _ _ A e0 a w hc.1 hf.1 (fun s hs=>hA s (.inl hs)) hg h
   ·subst e;exact ihy _ _ A e0 a w hc.2 hf.2 (fun s hs=>hA s (.inr hs)) hg h
  ·exact h.elim
 |block id x ih=>
  intro an Q A e0 a w hc hf hA hg h
  refine wp_block (wp_mono (ih an _ A e0 a w hc hf hA hg h) ?_)
  rintro e a' w' ⟨hg',h'⟩
  cases e<;>first|exact⟨hg',h'⟩|skip
  rename_i id'
  simp only[Exit.inBlock]
  simp only[yCy]at h'
  split
  ·rename_i heq;subst heq;rw[Nat.beq_refl]at h';exact⟨hg',h'⟩
  ·rename_i hne
   have hb:Nat.beq id' id=false:=by
    cases hb:Nat.beq id' id with
    |false=>rfl
    |true=>exact absurd (yWm hb) hne
   rw[hb]at h'
   exact⟨hg',h'⟩
 |loop x ih=>
  intro an Q A e0 a w hc hf hA hg h
  cases an with
  |nil=>exact h.elim
  |cons an rest=>
   simp only[okF,yWw]at hf
   obtain⟨I,μ,⟨i0,hs0,hi0⟩,hround⟩:=h
   refine wp_loop_ghost (fun m a' w'=>Good n A e0 a'∧(∀s∈an.fix,yG a' s=yG a s)∧∃i,zUo (an.chg i) (yG a')∧I i w'∧μ i w'=m) (μ i0 w) ⟨hg,fun _ _=>rfl,i0,hs0,hi0,rfl⟩ ?_
   rintro m a' w' ⟨hg',hfix,i,hsat,hI,rfl⟩
   have h1:=hround (yG a') i w' hI
   rw[zZh hfix,zOr hsat]at h1
   have hgB:Good n (fun s=>A s && fL s (asg x)) (yG a') a':=⟨hg'.size,hg'.defers,fun _ _=>rfl⟩
   refine wp_mono (ih rest _ (fun s=>A s && fL s (asg x)) (yG a') a' w' hc hf.2 (fun s hs=>by rw[hA s hs,memN_iff.2 hs];rfl) hgB h1) ?_
   rintro e a2 w2 ⟨hg2,h2⟩
   have hg3:Good n A e0 a2:=⟨hg2.size,hg2.defers,fun s hs=>by rw[hg2.same s (by simp[hs]),hg'.same s hs]⟩
   cases e<;>first|exact⟨hg3,h2⟩|skip
   obtain⟨i',hs',hI',hlt⟩:=h2
   refine⟨_,hlt,hg3,fun s hs=> ?_,i',hs',hI',rfl⟩
   have:=yZn.1 hf.1 s hs
   rw[hg2.same s (by simp at this;simp[this]),hfix s hs]
 |exit id=>intro an Q A e0 a w _ _ _ hg h;exact wp_exit ⟨hg,h⟩
 |ret=>intro an Q A e0 a w _ _ _ hg h;exact wp_ret ⟨hg,h⟩
 |rangeFunc f ps x y ihx ihy=>intro an Q A e0 a w _ _ _ hg h;exact h.elim
 |scope x ih=>intro an Q A e0 a w _ _ _ hg h;exact h.elim
 |label l=>intro an Q A e0 a w _ _ _ hg h;exact h.elim
 |goto l=>intro an Q A e0 a w _ _ _ hg h;exact h.elim
 |refuse s=>intro an Q A e0 a w _ _ _ hg h;exact h.elim
end Cv
namespace Cv
set_option linter.unusedSimpArgs false
set_option linter.unusedVariables false
open Go
def bs (l:List Nat):ByteArray:=⟨(l.map Nat.toUInt8).toArray⟩
def zYj (P:Program):List ResultVar→Env→World→(List Value→Prop)→Prop
 |[],_,_,K=>K []
 | .tmp t::rs,ρ,w,K=>zYj P rs ρ w fun vs=>K (ρ t::vs)
 | .cell a t::rs,ρ,w,K=>
   match ρ a with
   | .pointer p=>zUj p fun ad=>exT P t fun v=>aM P t ad w v∧zYj P rs ρ w fun vs=>K (v::vs)
   |_=>False
def pW:List Value→Value
 |[v]=>v
 |vs=> .tuple vs.toArray
def zSp (P:Program) (fn:Func) (R:Ending→World→Prop):Exit→Env→World→Prop
 | .normal,ρ,w=>zYj P fn.results.toList ρ w fun vs=>R (.returned (pW vs)) w
 | .ret,ρ,w=>zYj P fn.results.toList ρ w fun vs=>R (.returned (pW vs)) w
 |_,_,_=>False
def qJ (args:List Value):Env:=fun i=>args.getD i undef
def zQu (tmps:Array Value):ResultVar→Sem Value
 | .tmp t=>pure (tmps.getD t undef)
 | .cell a t=>(asAddr (tmps.getD a undef)).bind fun ad=>loadVar t ad
theorem zKf {P:Program} {tmps:Array Value} {w:World}:∀{rs:List ResultVar} {K:List Value→Prop},zYj P rs (fun i=>tmps.getD i undef) w K→
 ∃vs,(rs.mapM (zQu tmps)).run P w= .ok vs w∧K vs
 |[],K,h=>⟨[],rfl,h⟩
 | .tmp t::rs,K,h=>by
   obtain⟨vs,h1,h3⟩:=zKf (rs:=rs) h
   refine⟨_::vs,?_,h3⟩
   simp only[List.mapM_cons,zQu,bind,pure,run_bind,Sem.bind,Sem.run]at h1 ⊢
   rw[h1]
 | .cell a t::rs,K,h=>by
   simp only[zYj]at h
   split at h
   ·rename_i p hp
    obtain⟨ad,rfl,h⟩:=aT h
    obtain⟨v,hv,h⟩:=wI h
    obtain⟨vs,h1,h3⟩:=zKf (rs:=rs) h
    refine⟨v::vs,?_,h3⟩
    simp only[List.mapM_cons,zQu,bind,pure,run_bind,Sem.bind,Sem.run,hp,asAddr]at h1 ⊢
    rw[hv]
    simp only[h1]
   ·exact h.elim
theorem sA {P:Program} {tmps:Array Value} {w:World} {vs:List Value} {rs:List ResultVar} (h:(rs.mapM (zQu tmps)).run P w= .ok vs w) (F:ResultVar→Sem Value) (hF:∀r,F r=zQu tmps r):
 ((rs.mapM F).bind fun vs=>Sem.pure (if h:vs.toArray.size=1 then vs.toArray[0]else .tuple vs.toArray)).run P w= .ok (pW vs) w:=by
 obtain rfl:F=zQu tmps:=funext hF
 rw[run_bind,h]
 simp only[Sem.run]
 cases vs with
 |nil=>rfl
 |cons v vs=>
  cases vs with
  |nil=>rfl
  |cons u us=>simp[pW]
theorem zFx {P:Program} {fn:Func} {tmps:Array Value} {w:World} {K:Value→Prop} (h:zYj P fn.results.toList (fun i=>tmps.getD i undef) w fun vs=>K (pW vs)):
 ∃v,(results fn tmps).run P w= .ok v w∧K v:=by
 obtain⟨vs,h1,h3⟩:=zKf h
 refine⟨pW vs,?_,h3⟩
 unfold results
 rw[y2b,map_eq_pure_bind,bind_assoc]
 exact sA h1 _ (fun r=>by cases r<;>rfl)
theorem calls_of_cwp {P:Program} {f:FuncId} {fn:Func} {c:Code} {args:List Value} {w:World} {R:Ending→World→Prop} (hm:P.follows .mixedOrders=true)
 (hf:P.funcs[f]? =some fn) (hb:fn.body=some c) (an:List z7u) (hok:okC fn.ntmps c=true) (hfx:okF an c=true) (hsz':Nat.ble args.length fn.ntmps=true)
 (h:cwp P an c (zSp P fn R) (qJ args) w):Calls P f args.toArray w R:=by
 have hsz:=yYl hsz'
 refine calls_of_wp hf hb ?_
 have hg:Good fn.ntmps (fun _=>true) (qJ args) {tmps:=args.toArray++Array.replicate (fn.ntmps-args.toArray.size) undef,defers:=[]}:=
  ⟨by simp;omega,rfl,fun s hs=>by cases hs⟩
 have henv:yG {tmps:=args.toArray++Array.replicate (fn.ntmps-args.toArray.size) undef,defers:=[]}=qJ args:=by
  funext i
  simp only[yG,qJ,yXz,yWs,Array.getElem?_append]
  split
  ·simp
  ·rename_i hlt
   simp at hlt
   rw[yXm hlt,y1g]
   split<;>rfl
 refine wp_mono (z6j hm c an _ (fun _=>true) (qJ args) _ w hok hfx (fun _ _=>rfl) hg (henv▸h)) ?_
 rintro e a' w' ⟨hg',h'⟩
 cases e<;>first|exact h'.elim|skip
 ·obtain⟨v,hv,hk⟩:=zFx (K:=fun v=>R (.returned v) w') h'
  exact⟨hg'.defers,v,hv,hk⟩
 ·obtain⟨v,hv,hk⟩:=zFx (K:=fun v=>R (.returned v) w') h'
  exact⟨hg'.defers,v,hv,hk⟩
theorem zFz {P:Program} {f:FuncId} {fn:Func} {c:Code} {args:List Value} {w:World} {R:Ending→World→Prop} {V:Prop} (hm:P.follows .mixedOrders=true)
 (hf:P.funcs[f]? =some fn) (hb:fn.body=some c) (an:List z7u) (hok:okC fn.ntmps c=true) (hfx:okF an c=true) (hsz:Nat.ble args.length fn.ntmps=true)
 (e:V=cwp P an c (zSp P fn R) (qJ args) w) (h:V):Calls P f args.toArray w R:=
 calls_of_cwp hm hf hb an hok hfx hsz (e▸h)
end Cv
namespace Cv
set_option linter.unusedSimpArgs false
set_option linter.unusedVariables false
open Go Go.RowKit
@[reducible] def PH:=Nat→Option Obj
@[reducible] def HP:=PH→Prop
def pe:PH:=fun _=>none
def one (b:Nat) (o:Obj):PH:=fun x=>if x=b then some o else none
def Dj (g h:PH):Prop:=∀b,g b=none∨h b=none
def Sub (h:PH) (w:World):Prop:=∀b o,h b=some o→w.heap[b]?=some o
def un (g h:PH):PH:=fun b=>match g b with|some o=>some o|none=>h b
theorem Dj.symm {g h:PH} (d:Dj g h):Dj h g:=fun b=>(d b).symm
theorem Dj.pe (h:PH):Dj pe h:=fun _=> .inl rfl
theorem z1v {g g' h:PH} (d:Dj g h) (d':Dj g' h):Dj (un g g') h:=fun b=>by
 rcases d b with e|e
 ·rcases d' b with e'|e'
  ·left;simp[un,e,e']
  ·exact .inr e'
 ·exact .inr e
theorem zKk {g g' h:PH} (d:Dj (un g g') h) (dg:Dj g g'):Dj g h∧Dj g' h:=by
 refine⟨fun b=> ?_,fun b=> ?_⟩
 ·rcases d b with e|e
  ·left;simp only[un]at e;cases hg:g b with
   |none=>rfl
   |some o=>rw[hg]at e;cases e
  ·exact .inr e
 ·rcases d b with e|e
  ·left;simp only[un]at e;cases hg:g b with
   |none=>rw[hg]at e;exact e
   |some o=>rw[hg]at e;cases e
  ·exact .inr e
theorem yDl {g h:PH} {w:World} (a:Sub g w) (b:Sub h w):Sub (un g h) w:=fun x o e=>by
 simp only[un]at e
 cases hg:g x with
 |some o'=>rw[hg]at e;cases e;exact a x _ hg
 |none=>rw[hg]at e;exact b x o e
theorem z5y {g h:PH} {w:World} (s:Sub (un g h) w) (d:Dj g h):Sub g w∧Sub h w:=by
 refine⟨fun x o e=>s x o (by simp[un,e]),fun x o e=>s x o ?_⟩
 rcases d x with e'|e'
 ·simp[un,e',e]
 ·rw[e]at e';cases e'
theorem Sub.pe (w:World):Sub Cv.pe w:=fun _ _ e=>by cases e
theorem Sub.lt {h:PH} {w:World} (s:Sub h w) {b:Nat} (hb:h b≠none):b<w.heap.size:=by
 cases e:h b with
 |none=>exact absurd e hb
 |some o=>
  have:=s b o e
  rcases yYy b w.heap.size with h'|h'
  ·exact h'
  ·rw[yZi h']at this;cases this
structure Ko where
 os:Os
 tape:Nat→Question→Nat
 output:Array (Nat×ByteArray)
def ko (w:World):Ko:=⟨w.os,w.tape,w.output⟩
def Kon (k:Ko) (w:World):Prop:=w.os=k.os∧w.tape=k.tape∧w.output=k.output
inductive Hs (w:World):List HP→List PH→Prop
 |nil:Hs w [] []
 |cons {A:HP} {h:PH} {L:List HP} {hs:List PH}:A h→Sub h w→(∀g∈hs,Dj h g)→Hs w L hs→Hs w (A::L) (h::hs)
def Hp (k:Ko) (w:World) (L:List HP):Prop:=Kon k w∧∃hs,Hs w L hs
def Sat (w:World) (A:HP):Prop:=∃h,A h∧Sub h w
theorem Hs.perm {w:World} {L L':List HP} (p:L.Perm L'):∀{hs:List PH},Hs w L hs→∃hs',Hs w L' hs'∧hs.Perm hs':=by
 induction p with
 |nil=>intro hs h;cases h;exact⟨[],.nil,.nil⟩
 |cons A _ ih=>
  intro hs h
  cases h with
  |cons ha hsub hd hr=>
   obtain⟨hs',h1,h2⟩:=ih hr
   exact⟨_,.cons ha hsub (fun g hg=>hd g (h2.mem_iff.2 hg)) h1,.cons _ h2⟩
 |swap A B L=>
  intro hs h
  cases h with
  |cons hb hbs hbd hr=>
   cases hr with
   |cons ha has had hr=>
    refine⟨_,.cons ha has ?_ (.cons hb hbs (fun g hg=>hbd g (yWq _ hg)) hr),.swap _ _ _⟩
    intro g hg
    rcases yXe.1 hg with rfl|hg
    ·exact(hbd _ yWp).symm
    ·exact had g hg
 |trans _ _ ih1 ih2=>
  intro hs h
  obtain⟨hs1,h1,p1⟩:=ih1 h
  obtain⟨hs2,h2,p2⟩:=ih2 h1
  exact⟨hs2,h2,p1.trans p2⟩
theorem Hp.perm {k:Ko} {w:World} {L L':List HP} (H:Hp k w L) (p:L.Perm L'):Hp k w L':=
 ⟨H.1,let⟨_,h⟩:=H.2;let⟨hs',h',_⟩:=h.perm p;⟨hs',h'⟩⟩
theorem Hp.drop {k:Ko} {w:World} {A:HP} {L:List HP} (H:Hp k w (A::L)):Hp k w L:=by
 obtain⟨hk,hs,hh⟩:=H
 cases hh with
 |cons _ _ _ hr=>exact⟨hk,_,hr⟩
theorem Hp.sat {k:Ko} {w:World} {A:HP} {L:List HP} (H:Hp k w (A::L)):Sat w A:=by
 obtain⟨hk,hs,hh⟩:=H
 cases hh with
 |cons ha hsub _ _=>exact⟨_,ha,hsub⟩
theorem Hp.imp {k:Ko} {w:World} {A B:HP} {L:List HP} (H:Hp k w (A::L)) (h:∀x,A x→B x):Hp k w (B::L):=by
 obtain⟨hk,hs,hh⟩:=H
 cases hh with
 |cons ha hsub hd hr=>exact⟨hk,_,.cons (h _ ha) hsub hd hr⟩
def pt (b:Nat) (o:Obj):HP:=fun h=>h=one b o
def hPu (p:Prop):HP:=fun h=>p∧h=pe
def hS2 (A B:HP):HP:=fun h=>∃g g',A g∧B g'∧Dj g g'∧h=un g g'
def hS:List HP→HP
 |[]=>fun h=>h=pe
 |[A]=>A
 |A::L=>hS2 A (hS L)
theorem vC {k:Ko} {w:World} {p:Prop} {L:List HP}:Hp k w (hPu p::L)↔p∧Hp k w L:=by
 constructor
 ·rintro⟨hk,hs,hh⟩
  cases hh with
  |cons ha hsub hd hr=>exact⟨ha.1,hk,_,hr⟩
 ·rintro⟨hp,hk,hs,hh⟩
  exact⟨hk,_,.cons ⟨hp,rfl⟩ (Sub.pe w) (fun g _=>Dj.pe g) hh⟩
theorem hp_star2 {k:Ko} {w:World} {A B:HP} {L:List HP}:Hp k w (hS2 A B::L)↔Hp k w (A::B::L):=by
 constructor
 ·rintro⟨hk,hs,hh⟩
  cases hh with
  |cons ha hsub hd hr=>
   obtain⟨g,g',h1,h2,h3,rfl⟩:=ha
   obtain⟨s1,s2⟩:=z5y hsub h3
   refine⟨hk,_,.cons h1 s1 ?_ (.cons h2 s2 (fun x hx=>(zKk (hd x hx) h3).2) hr)⟩
   intro x hx
   rcases yXe.1 hx with rfl|hx
   ·exact h3
   ·exact(zKk (hd x hx) h3).1
 ·rintro⟨hk,hs,hh⟩
  cases hh with
  |cons h1 s1 d1 hr=>
   cases hr with
   |cons h2 s2 d2 hr=>
    exact⟨hk,_,.cons ⟨_,_,h1,h2,d1 _ yWp,rfl⟩ (yDl s1 s2) (fun x hx=>z1v (d1 x (yWq _ hx)) (d2 x hx)) hr⟩
theorem yBe {k:Ko} {w:World} {L:List HP}:Hp k w (hS []::L)↔Hp k w L:=by
 have e:hS []=hPu True:=by funext h;simp[hS,hPu]
 rw[e,vC]
 exact⟨fun h=>h.2,fun h=>⟨trivial,h⟩⟩
theorem yBs {k:Ko} {w:World} {A B:HP} {l L:List HP}:Hp k w (hS (A::B::l)::L)↔Hp k w (A::hS (B::l)::L):=hp_star2
theorem Hp.swap {k:Ko} {w:World} {A B:HP} {L:List HP} (H:Hp k w (A::B::L)):Hp k w (B::A::L):=H.perm (.swap _ _ _)
theorem Hp.cons {k:Ko} {w:World} {A:HP} {L L':List HP} (H:Hp k w (A::L)) (p:L.Perm L'):Hp k w (A::L'):=H.perm (.cons _ p)
theorem hp_star {k:Ko} {w:World}:∀{l L:List HP},Hp k w (hS l::L)↔Hp k w (l++L)
 |[],L=>yBe
 |[A],L=>Iff.rfl
 |A::B::l,L=>by
  rw[yBs]
  constructor
  ·intro h
   have h1:=(hp_star (l:=B::l) (L:=A::L)).1 h.swap
   refine h1.perm ?_
   exact yWy
  ·intro h
   have h1:Hp k w ((B::l)++(A::L)):=h.perm (yWy (l₁:=B::l)).symm
   exact((hp_star (l:=B::l) (L:=A::L)).2 h1).swap
theorem Hs.move {w w':World} (h:∀(x:PH),Sub x w→Sub x w'):∀{L:List HP} {hs:List PH},Hs w L hs→Hs w' L hs
 |_,_,.nil=> .nil
 |_,_,.cons ha hsub hd hr=> .cons ha (h _ hsub) hd (hr.move h)
theorem zDw {w w':World} (h:Below w.heap.size w w') {x:PH} (s:Sub x w):Sub x w':=fun b o e=>by
 rw[h.block b (s.lt (by rw[e];simp))]
 exact s b o e
theorem zOz {k:Ko} {B:Nat} {w w':World} (h:Below B w w') (hk:Kon k w):Kon k w':=⟨h.os.trans hk.1,h.tape.trans hk.2.1,h.output.trans hk.2.2⟩
theorem Hp.below {k:Ko} {w w':World} {L:List HP} (H:Hp k w L) (h:Below w.heap.size w w'):Hp k w' L:=
 ⟨zOz h H.1,let⟨hs,hh⟩:=H.2;⟨hs,hh.move fun _ s=>zDw h s⟩⟩
theorem Sat.below {w w':World} {A:HP} (H:Sat w A) (h:Below w.heap.size w w'):Sat w' A:=let⟨x,a,s⟩:=H;⟨x,a,zDw h s⟩
theorem Hp.drew {k:Ko} {w:World} {L:List HP} (H:Hp k w L):Hp k w.drew L:=H.below ((Below.refl _ _).drew)
theorem Hp.new {k:Ko} {w:World} {L:List HP} (H:Hp k w L) (o:Obj):Hp k (w.alloc o) (pt w.heap.size o::L):=by
 have hb:Below w.heap.size w (w.alloc o):=(Below.refl _ _).alloc (yXl _) o
 obtain⟨hk,hs,hh⟩:=H
 refine⟨zOz hb hk,_,.cons rfl ?_ ?_ (hh.move fun _ s=>zDw hb s)⟩
 ·intro b o' e
  simp only[one]at e
  split at e
  ·rename_i hb';subst hb';cases e;exact heap_alloc_new w o
  ·cases e
 ·intro g hg
  have hsub:∀{L:List HP} {hs:List PH},Hs w L hs→∀g∈hs,Sub g w:=by
   intro L hs hh
   induction hh with
   |nil=>intro g hg;cases hg
   |cons _ hs _ _ ih=>
    intro g hg
    rcases yXe.1 hg with rfl|hg
    ·exact hs
    ·exact ih g hg
  intro b
  by_cases hb':b=w.heap.size
  ·right
   cases hgb:g b with
   |none=>rfl
   |some o'=>
    have:=(hsub hh g hg).lt (b:=b) (by rw[hgb];simp)
    omega
  ·left;simp[one,hb']
def World.setB (w:World) (b:Nat) (o:Obj):World:={w with heap:=w.heap.setIfInBounds b o}
theorem Hp.get {k:Ko} {w:World} {b:Nat} {o:Obj} {L:List HP} (H:Hp k w (pt b o::L)):w.heap[b]? =some o:=by
 obtain⟨h,rfl,s⟩:=H.sat
 exact s b o (by simp[one])
theorem Hp.upd {k:Ko} {w:World} {b:Nat} {o:Obj} {L:List HP} (H:Hp k w (pt b o::L)) (o':Obj):Hp k (World.setB w b o') (pt b o'::L):=by
 have hget:=H.get
 obtain⟨hk,hs,hh⟩:=H
 cases hh with
 |cons ha hsub hd hr=>
  cases ha
  have hlt:b<w.heap.size:=hsub.lt (b:=b) (by simp[one])
  rename_i hs
  have s0:Sub (one b o') (World.setB w b o'):=by
   intro x o2 e
   simp only[one]at e
   split at e
   ·rename_i hx;subst hx;cases e;simp[World.setB,y0f hlt]
   ·cases e
  have d0:∀g∈hs,Dj (one b o') g:=by
   intro g hg x
   rcases hd g hg x with e|e
   ·left;simp only[one]at e ⊢;split at e<;>simp_all
   ·exact .inr e
  have key:∀{L:List HP} {hs:List PH},Hs w L hs→(∀g∈hs,Dj (one b o) g)→Hs (World.setB w b o') L hs:=by
   intro L hs hh
   induction hh with
   |nil=>intro _;exact .nil
   |cons ha hs' hd' _ ih=>
    intro hdj
    refine .cons ha ?_ hd' (ih fun g hg=>hdj g (yWq _ hg))
    intro x o2 e
    have hne:x≠b:=by
     intro hx
     subst hx
     rcases hdj _ yWp x with e'|e'
     ·simp[one]at e'
     ·rw[e]at e';cases e'
    simp only[World.setB]
    rw[y1e (Ne.symm hne)]
    exact hs' x o2 e
  exact⟨hk,_,.cons rfl s0 d0 (key hr hd)⟩
def base (w0:World):HP:=fun h=>h=fun b=>w0.heap[b]?
theorem Hp.start (w:World):Hp (Cv.ko w) w [base w]:=⟨⟨rfl,rfl,rfl⟩,_,.cons rfl (fun _ _ e=>e) (fun g hg=>by cases hg) .nil⟩
end Cv
namespace Cv
set_option linter.unusedSimpArgs false
set_option linter.unusedVariables false
open Go Go.RowKit
theorem vM (b o n:Nat):(⟨b,o,none⟩:Addr).add n=⟨b,o+n,none⟩:=by
 unfold Addr.add;split
 ·rename_i h;subst h;rfl
 ·rfl
def lN (P:Program) (t:TypeId):Bool:=
 match P.underlying t with
 |some (.struct _)=>false
 |some (.array _ _)=>false
 |some _=>true
 |none=>false
def zGt (P:Program) (t:TypeId):Option Nat:=
 match P.underlying t with
 |some (.struct _)=>(P.info? t).map fun(x:TypeInfo)=>x.size
 |some (.array _ _)=>(P.info? t).map fun(x:TypeInfo)=>x.size
 |_=>none
theorem bD {P:Program} {t:TypeId} (h:lN P t=true) (w:World):(isAgg t).run P w= .ok false w:=by
 unfold lN at h
 cases hd:P.underlying t with
 |none=>rw[hd]at h;cases h
 |some d=>
  rw[hd]at h
  unfold isAgg
  simp only[bind,run_bind,run_underlying hd]
  cases d<;>first|rfl|(simp at h)
theorem f9 {P:Program} {t:TypeId} {n:Nat} (h:zGt P t=some n) (w:World):(isAgg t).run P w= .ok true w∧(Go.sizeOf t).run P w= .ok n w:=by
 unfold zGt at h
 cases hd:P.underlying t with
 |none=>rw[hd]at h;cases h
 |some d=>
  rw[hd]at h
  cases d<;>simp only[reduceCtorEq]at h
  all_goals
   cases hi:P.info? t with
   |none=>rw[hi]at h;cases h
   |some i=>
    rw[hi]at h
    simp only[yYk,Option.some.injEq]at h
    subst h
    refine⟨?_,run_sizeOf hi w⟩
    unfold isAgg
    simp only[bind,run_bind,run_underlying hd]
    rfl
theorem zWb {P:Program} {w:World} {a:Addr} {v:Value} (h:w.cell? a=some v):(load a).run P w= .ok v w:=by
 simp only[load,Sem.run,h]
theorem tT {w:World} {b o:Nat} {l:List Value} {T:TypeId} {fr:Nat×Nat} (hb:w.heap[b]? =some (.cells l.toArray T fr)):w.cell? ⟨b,o,none⟩=l[o]? :=by
 simp[World.cell?,hb]
theorem vJ {P:Program} {t:TypeId} {w:World} {b o:Nat} {l:List Value} {T:TypeId} {fr:Nat×Nat} {v:Value} (hs:lN P t=true)
 (hb:w.heap[b]? =some (.cells l.toArray T fr)) (hc:l[o]? =some v):aM P t ⟨b,o,none⟩ w v:=by
 unfold aM loadVar
 simp only[bind,run_bind,bD hs,yXb,if_false]
 exact zWb ((tT hb).trans hc)
theorem aA {P:Program} {w:World} {b o:Nat} {l:List Value} {T:TypeId} {fr:Nat×Nat} (hb:w.heap[b]? =some (.cells l.toArray T fr)):
 ∀(n i:Nat) (acc:Array Value),o+i+n≤l.length→(loadCellsFrom ⟨b,o,none⟩ i n acc).run P w= .ok (acc++((l.drop (o+i)).take n).toArray) w
 |0,i,acc,_=>by simp[loadCellsFrom,pure,Sem.run]
 |n+1,i,acc,h=>by
  have hlt:o+i<l.length:=by omega
  have hc:w.cell? ⟨b,o+i,none⟩=some l[o+i]:=by rw[tT hb];exact yXj hlt
  unfold loadCellsFrom
  simp only[bind,run_bind,vM,zWb hc]
  rw[aA hb n (i+1) _ (by omega)]
  congr 1
  rw[yYo hlt,yXw]
  simp[y0g]
theorem uN {P:Program} {w:World} {b o n:Nat} {l:List Value} {T:TypeId} {fr:Nat×Nat} (hb:w.heap[b]? =some (.cells l.toArray T fr)) (h:o+n≤l.length):
 (loadCells ⟨b,o,none⟩ n).run P w= .ok ((l.drop o).take n).toArray w:=by
 unfold loadCells
 rw[aA hb n 0 #[] (by omega)]
 simp
theorem eV {P:Program} {t:TypeId} {w:World} {b o n:Nat} {l vs:List Value} {T:TypeId} {fr:Nat×Nat} (hs:zGt P t=some n)
 (hb:w.heap[b]? =some (.cells l.toArray T fr)) (hc:(l.drop o).take n=vs) (hl:vs.length=n):aM P t ⟨b,o,none⟩ w (.agg vs.toArray):=by
 unfold aM loadVar
 have hlen:o+n≤l.length∨n=0:=by
  subst hc
  simp only[yXd,yXg]at hl
  omega
 simp only[bind,run_bind,(f9 hs w).1,if_true,(f9 hs w).2]
 rcases hlen with hlen|h0
 ·rw[uN hb hlen,hc]
  rfl
 ·subst h0
  have:vs=[]:=yXn hl
  subst this
  rfl
def _root_.Go.Value.oneC:Value→Bool
 | .agg _=>false
 | .tuple _=>false
 |_=>true
def spl (l:List Value) (o:Nat) (vs:List Value):List Value:=l.take o++vs++l.drop (o+vs.length)
theorem z6g (w:World) (b:Nat) (x y:Obj):World.setB (World.setB w b x) b y=World.setB w b y:=by
 simp[World.setB,Array.setIfInBounds_setIfInBounds]
theorem zXj {P:Program} {w:World} {b o:Nat} {l:List Value} {T:TypeId} {v:Value} (hb:w.heap[b]? =some (.cells l.toArray T (0,0))) (ho:o<l.length) (hv:v.oneC=true):
 (store ⟨b,o,none⟩ v).run P w= .ok () (World.setB w b (.cells (l.set o v).toArray T (0,0))):=by
 have hc:w.cell? ⟨b,o,none⟩=some l[o]:=by rw[tT hb];exact yXj ho
 have hf:w.frozen? ⟨b,o,none⟩=false:=by simp[World.frozen?,hb]
 have hset:w.setCell ⟨b,o,none⟩ v=World.setB w b (.cells (l.set o v).toArray T (0,0)):=by
  unfold World.setCell World.setB
  congr 1
  apply y2n
  intro i
  rw[Array.getElem?_modify,y0o]
  have hlt:b<w.heap.size:=by
   rcases yYy b w.heap.size with h|h
   ·exact h
   ·rw[yZi h]at hb;cases hb
  by_cases hi:b=i
  ·subst hi
   have hb2:w.heap[b]= .cells l.toArray T (0,0):=by rw[y1b hlt]at hb;exact Option.some.inj hb
   simp[hlt,hb2]
  ·simp[hi]
 unfold store
 cases v<;>first|(cases hv;done)|(simp only[Sem.run,hc,hf,yXb,if_false,hset])
theorem zHp {l:List Value} {p:Nat} {v:Value} {vs:List Value} (h:p<l.length):spl (l.set p v) (p+1) vs=spl l p (v::vs):=by
 have h1:(l.set p v).take (p+1)=l.take p++[v]:=by
  rw[yZg,yWl h]
  rw[List.take_append,yXd]
  simp[y0i (Nat.le_of_lt h),List.take_take]
 have h2:(l.set p v).drop (p+1+vs.length)=l.drop (p+(v::vs).length):=by
  rw[List.drop_set_of_lt (by omega)]
  congr 1
  simp only[yWr];omega
 simp only[spl,h1,h2,yWo,List.singleton_append]
theorem jU {P:Program} {b:Nat} {T:TypeId}:∀(vs:List Value) (i o:Nat) (l:List Value) (w:World),w.heap[b]? =some (.cells l.toArray T (0,0))→o+i+vs.length≤l.length→
 (∀v∈vs,v.oneC=true)→(storeCells ⟨b,o,none⟩ vs i).run P w= .ok () (World.setB w b (.cells (spl l (o+i) vs).toArray T (0,0)))
 |[],i,o,l,w,hb,h,_=>by
  have hlt:b<w.heap.size:=by
   rcases yYy b w.heap.size with h|h
   ·exact h
   ·rw[yZi h]at hb;cases hb
  have:World.setB w b (.cells (spl l (o+i) []).toArray T (0,0))=w:=by
   have e:spl l (o+i) []=l:=by simp[spl]
   rw[e]
   unfold World.setB
   have:w.heap.setIfInBounds b (.cells l.toArray T (0,0))=w.heap:=by
    apply y2n
    intro j
    rw[y0o]
    split
    ·rename_i hj;subst hj;rw[hb]
    ·rfl
   rw[this]
  unfold storeCells
  rw[this]
  rfl
 |v::vs,i,o,l,w,hb,h,hv=>by
  have hlt:b<w.heap.size:=by
   rcases yYy b w.heap.size with h|h
   ·exact h
   ·rw[yZi h]at hb;cases hb
  simp only[yWr]at h
  unfold storeCells
  simp only[bind,run_bind,vM,zXj hb (show o+i<l.length by omega) (hv v yWp)]
  have hb':(World.setB w b (.cells (l.set (o+i) v).toArray T (0,0))).heap[b]? =some (.cells (l.set (o+i) v).toArray T (0,0)):=by
   simp[World.setB,y0f hlt]
  rw[jU vs (i+1) o (l.set (o+i) v) _ hb' (by rw[yXf];omega) (fun u hu=>hv u (yWq _ hu)),z6g]
  rw[show o+(i+1)=o+i+1 by omega,zHp (show o+i<l.length by omega)]
end Cv
namespace Cv
set_option linter.unusedSimpArgs false
set_option linter.unusedVariables false
open Go Go.RowKit
def slO (e sz:Nat) (a:Option Addr) (n k:Nat) (xs:List Value):HP:=fun h=>
 (a=none∧n=0∧k=0∧xs=[]∧h=pe)∨
 ∃b r,a=some ⟨b,0,none⟩∧h=one b (.cells (xs++r).toArray e)∧xs.length=n*sz∧(xs++r).length=k*sz∧n≤k
def slR (sz:Nat) (a:Option Addr) (n k:Nat) (xs:List Value):HP:=fun h=>
 (n=0∧xs=[]∧h=pe)∨
 ∃(b o:Nat) (l:List Value) (T:TypeId) (fr:Nat×Nat),a=some ⟨b,o,none⟩∧h=one b (.cells l.toArray T fr)∧(l.drop o).take (n*sz)=xs∧xs.length=n*sz∧n≤k
theorem bN {e sz:Nat} {a:Option Addr} {n k:Nat} {xs:List Value} {h:PH} (H:slO e sz a n k xs h):slR sz a n k xs h:=by
 rcases H with⟨rfl,rfl,rfl,rfl,rfl⟩|⟨b,r,rfl,rfl,h1,h2,h3⟩
 ·exact .inl ⟨rfl,rfl,rfl⟩
 ·right
  exact⟨b,0,_,e,_,rfl,rfl,by rw[yZu,← h1];simp,h1,h3⟩
theorem Hp.satR {k:Ko} {w:World} {e sz:Nat} {a:Option Addr} {n c:Nat} {xs:List Value} {L:List HP} (H:Hp k w (slO e sz a n c xs::L)):Sat w (slR sz a n c xs):=by
 obtain⟨h,hh,s⟩:=H.sat
 exact⟨h,bN hh,s⟩
theorem Hp.slcases {k:Ko} {w:World} {e sz:Nat} {a:Option Addr} {n c:Nat} {xs:List Value} {L:List HP} (H:Hp k w (slO e sz a n c xs::L)):
 (a=none∧n=0∧c=0∧xs=[]∧Hp k w L)∨
 ∃b r,a=some ⟨b,0,none⟩∧xs.length=n*sz∧(xs++r).length=c*sz∧n≤c∧Hp k w (pt b (.cells (xs++r).toArray e)::L):=by
 obtain⟨hk,hs,hh⟩:=H
 cases hh with
 |cons ha hsub hd hr=>
  rcases ha with⟨h1,h2,h3,h4,h5⟩|⟨b,r,h1,h2,h3,h4,h5⟩
  ·exact .inl ⟨h1,h2,h3,h4,hk,_,hr⟩
  ·subst h2
   exact .inr ⟨b,r,h1,h3,h4,h5,hk,_,.cons rfl hsub hd hr⟩
theorem Hp.slmk {k:Ko} {w:World} {e sz b n c:Nat} {xs r:List Value} {L:List HP} (H:Hp k w (pt b (.cells (xs++r).toArray e)::L)) (h1:xs.length=n*sz) (h2:(xs++r).length=c*sz) (h3:n≤c):
 Hp k w (slO e sz (some ⟨b,0,none⟩) n c xs::L):=H.imp fun x hx=> .inr ⟨b,r,rfl,hx,h1,h2,h3⟩
theorem z0s (e sz:Nat):slO e sz none 0 0 [] pe:= .inl ⟨rfl,rfl,rfl,rfl,rfl⟩
theorem Hp.nil {k:Ko} {w:World} {L:List HP} (e sz:Nat) (H:Hp k w L):Hp k w (slO e sz none 0 0 []::L):=
 ((@vC k w True L).2 ⟨trivial,H⟩).imp fun x hx=>by rw[hx.2];exact z0s e sz
theorem Hp.lit {k:Ko} {w:World} {b e sz n:Nat} {l:List Value} {L:List HP} (H:Hp k w (pt b (.cells l.toArray e)::L)) (hl:l.length=n*sz):Hp k w (slO e sz (some ⟨b,0,none⟩) n n l::L):=
 H.imp fun x hx=> .inr ⟨b,[],rfl,by rw[hx,yXi],hl,by simpa using hl,yXl _⟩
theorem zBh {e sz:Nat} {a:Option Addr} {n k:Nat} {xs:List Value} {h:PH} (H:slO e sz a n k xs h):xs.length=n*sz∧n≤k:=by
 rcases H with⟨rfl,rfl,rfl,rfl,rfl⟩|⟨b,r,rfl,rfl,h1,h2,h3⟩
 ·simp
 ·exact⟨h1,h3⟩
theorem Hp.len {k:Ko} {w:World} {e sz:Nat} {a:Option Addr} {n c:Nat} {xs:List Value} {L:List HP} (H:Hp k w (slO e sz a n c xs::L)):xs.length=n*sz∧n≤c:=by
 obtain⟨h,hh,s⟩:=H.sat
 exact zBh hh
theorem z2o {w:World} {sz:Nat} {a:Option Addr} {n k:Nat} {xs:List Value} (H:Sat w (slR sz a n k xs)):xs.length=n*sz:=by
 obtain⟨h,hh,s⟩:=H
 rcases hh with⟨rfl,rfl,_⟩|⟨b,o,l,T,fr,rfl,rfl,h1,h2,_⟩
 ·simp
 ·exact h2
theorem zAa {w:World} {sz:Nat} {a:Option Addr} {n k:Nat} {xs:List Value} (H:Sat w (slR sz a n k xs)) (hn:0<n):
 ∃(b o:Nat) (l:List Value) (T:TypeId) (fr:Nat×Nat),a=some ⟨b,o,none⟩∧w.heap[b]? =some (.cells l.toArray T fr)∧(l.drop o).take (n*sz)=xs:=by
 obtain⟨h,hh,s⟩:=H
 rcases hh with⟨rfl,rfl,_⟩|⟨b,o,l,T,fr,rfl,rfl,h1,h2,_⟩
 ·omega
 ·exact⟨b,o,l,T,fr,rfl,s b _ (by simp[one]),h1⟩
theorem zNb (m:Nat) (hm:256≤m):∀(r c:Nat),c≤2*m→Builtin.growBy m r c≤2*m
 |0,c,h=>h
 |r+1,c,h=>by
  unfold Builtin.growBy
  split
  ·exact h
  ·exact zNb m hm r _ (by omega)
theorem zLh {need cap:Nat} (h:cap<need):Builtin.nextslicecap need cap≤2*need:=by
 unfold Builtin.nextslicecap
 split
 ·omega
 ·split
  ·omega
  ·exact zNb need (by omega) 4 cap (by omega)
def Src (sz:Nat) (w:World) (x:Value) (m:Nat) (ys:List Value):Prop:=
 (∃a k,x=.slice a m k∧Sat w (slR sz a m k ys))∨(∃s:ByteArray,x=.string s∧sz=1∧m=s.size∧ys=s.data.toList.map fun b=> .int .u8 b.toNat)
theorem zCk {P:Program} {sz:Nat} {w:World} {x:Value} {m:Nat} {ys:List Value} (h:Src sz w x m ys):
 (Builtin.lenOf x).run P w= .ok m w∧(Builtin.firstCells sz m x).run P w= .ok ys.toArray w∧ys.length=m*sz:=by
 rcases h with⟨a,k,rfl,H⟩|⟨s,rfl,rfl,rfl,rfl⟩
 ·refine⟨rfl,?_,z2o H⟩
  have hl:=z2o H
  obtain⟨h,hh,s⟩:=H
  rcases hh with⟨rfl,rfl,_⟩|⟨b,o,l,T,fr,rfl,rfl,h1,h2,_⟩
  ·cases a with
   |none=>rfl
   |some a=>simp[Builtin.firstCells,loadCells,loadCellsFrom,pure,Sem.run]
  ·have hb:=s b _ (show one b _ b=_ by simp[one];rfl)
   unfold Builtin.firstCells
   by_cases h0:m*sz=0
   ·rw[h0]at h1 hl ⊢
    have:ys=[]:=yXn hl
    subst this
    rfl
   ·have:o+m*sz≤l.length:=by
     rw[← h1,yXd,yXg]at h2
     omega
    rw[uN hb this,h1]
 ·refine⟨rfl,?_,by simp⟩
  simp only[Builtin.firstCells]
  have:s.extract 0 s.size=s:=by simp
  rw[this]
  simp only[pure,Sem.run]
  congr 1
  apply Array.ext'
  simp
def zYn (P:Program) (t:TypeId):Bool:=
 match P.underlying t with
 |some (.slice _)=>true
 |some .string=>true
 |_=>false
theorem zHz {P:Program} {t:TypeId} (h:zYn P t=true):(∃e,P.underlying t=some (.slice e))∨P.underlying t=some .string:=by
 unfold zYn at h
 cases hd:P.underlying t with
 |none=>rw[hd]at h;cases h
 |some d=>
  rw[hd]at h
  cases d<;>first|exact .inl ⟨_,rfl⟩|exact .inr rfl|(cases h)
theorem Hp.append {P:Program} {k:Ko} {w:World} {L:List HP} {t1 t2 rt e sz by_:Nat} {z:Array Value} (hi:uF P t1=some (e,sz,by_,z)) (h2:zYn P t2=true) {a:Option Addr} {n c:Nat} {xs:List Value}
 (H:Hp k w (slO e sz a n c xs::L)) {x:Value} {m:Nat} {ys:List Value} (hx:Src sz w x m ys) (hv:∀v∈ys,v.oneC=true) (hz:z.size=sz) (hby:0<by_) (hb:(n+m)*by_≤140737488355328):
 ∃a' c' w',u6 P (Builtin.append_ #[t1,t2] rt #[.slice a n c,x]) w (.slice a' (n+m) c') w'∧Hp k w' (slO e sz a' (n+m) c' (xs++ys)::L):=by
 obtain⟨i,zv,q1,q2,rfl,rfl,q5,rfl⟩:=kZ hi
 obtain⟨r1,r2,hylen⟩:=zCk (P:=P) hx
 obtain⟨hxlen,hnc⟩:=H.len
 have hnm:n+m≤140737488355328:=yZq (Nat.le_mul_of_pos_right _ hby) hb
 have hrow:(n+m)*i.size=n*i.size+m*i.size:=yZk _ _ _
 by_cases hfit:n+m≤c
 ·--zG the capacity
  rcases H.slcases with⟨rfl,rfl,rfl,rfl,H0⟩|⟨b,r,rfl,h3,h4,h5,H0⟩
  ·have hm:m=0:=by omega
   subst hm
   have hys:ys=[]:=yXn (by simpa using hylen)
   subst hys
   refine⟨none,0,w,?_,by simpa using H⟩
   unfold u6 Builtin.append_
   rcases zHz h2 with⟨e2,hd⟩|hd<;>
   simp only[yYj,yYp,yYf,bind,pure,run_bind,Sem.bind,Sem.run,run_underlying q1,run_sizeOf q2,run_underlying hd,yXb,if_false,r1,r2,y0u,yXl,if_true,y1p]
  ·have hroom:n*i.size+ys.length≤(xs++r).length:=by
    rw[h4,hylen,← hrow];exact yXu _ hfit
   have hst:=jU (P:=P) ys 0 (n*i.size) (xs++r) w H0.get (by omega) hv
   simp only[y0u]at hst
   have hspl:spl (xs++r) (n*i.size) ys=(xs++ys)++r.drop ys.length:=by
    simp only[spl]
    rw[← h3,y2t,y1q]
    simp
   rw[hspl]at hst
   refine⟨some ⟨b,0,none⟩,c,_,?_,(H0.upd _).slmk (r:=r.drop ys.length) (by rw[yWi,h3,hylen,hrow]) ?_ hfit⟩
   ·unfold u6 Builtin.append_
    rcases zHz h2 with⟨e2,hd⟩|hd<;>
    simp only[yYj,yYp,yYf,bind,pure,run_bind,Sem.bind,Sem.run,run_underlying q1,run_sizeOf q2,run_underlying hd,yXb,if_false,r1,r2,hfit,if_true,vM,yXk,hst,y1p]
   ·rw[← h4]
    simp only[yWi,yXg]at hroom ⊢
    omega
 ·have hc1:¬(((n+m:Nat):Int)>IntKind.i64.max∧(False∨i.bytes=0)):=by
   rintro⟨_,h|h⟩
   ·exact h
   ·omega
  have hc2:¬(Builtin.nextslicecap (n+m) c*i.bytes>2 ^ 48):=by
   have:=zLh (need:=n+m) (cap:=c) (by omega)
   have:=yXu i.bytes this
   have e:2*(n+m)*i.bytes=2*((n+m)*i.bytes):=by rw[Nat.mul_assoc]
   omega
  have hold:(Builtin.firstCells i.size n (.slice a n c)).run P w= .ok xs.toArray w:=(zCk (P:=P) (.inl ⟨a,c,rfl,H.satR⟩)).2.1
  have hzr:∀w,(zeroValue e).run P w= .ok zv w:=fun w=>zero_run (by unfold zero?;rw[q2];exact q5) w
  have hti:∀w,(typeInfo e).run P w= .ok i w:=fun w=>zDb q2 w
  generalize hcap:(Question.appendCap (n+m) c e).cut (w.tape w.drawn (.appendCap (n+m) c e))=nc
  have hge:n+m≤nc:=by
   rw[← hcap];simp only[Question.cut];omega
  have r2':(Builtin.firstCells i.size m x).run P w.drew= .ok ys.toArray w.drew:=by
   have hx':Src i.size w.drew x m ys:=by
    rcases hx with⟨a,kk,rfl,H⟩|h
    ·exact .inl ⟨a,kk,rfl,H.below ((Below.refl _ _).drew)⟩
    ·exact .inr h
   exact(zCk (P:=P) hx').2.1
  have hold':(Builtin.firstCells i.size n (.slice a n c)).run P w.drew= .ok xs.toArray w.drew:=(zCk (P:=P) (.inl ⟨a,c,rfl,H.satR.below ((Below.refl _ _).drew)⟩)).2.1
  have hch:(choose (.appendCap (n+m) c e)).run P w= .ok nc w.drew:=by
   simp only[choose,Sem.run,Question.forced,yXb,if_false,hcap]
   rfl
  have hnew:=(H.drop.drew).new (.cells (xs++(ys++(Builtin.zeroCells zv.cells (nc-(n+m))).toList)).toArray e)
  have hlen:(ys++(Builtin.zeroCells zv.cells (nc-(n+m))).toList).length=m*i.size+(nc-(n+m))*i.size:=by
   rw[yWi,hylen,y1n,size_zeroCells,hz]
  have harr:xs.toArray++ys.toArray++Builtin.zeroCells zv.cells (nc-(n+m))=(xs++(ys++(Builtin.zeroCells zv.cells (nc-(n+m))).toList)).toArray:=by
   apply Array.ext'
   simp
  refine⟨some ⟨w.drew.heap.size,0,none⟩,nc,w.drew.alloc (.cells (xs++(ys++(Builtin.zeroCells zv.cells (nc-(n+m))).toList)).toArray e),?_,?_⟩
  ·unfold u6 Builtin.append_
   rcases zHz h2 with⟨e2,hd⟩|hd<;>
   simp only[yYj,yYp,yYf,bind,pure,run_bind,Sem.bind,Sem.run,run_underlying q1,run_sizeOf q2,run_underlying hd,yXb,if_false,r1,hfit,hti,hc1,hc2,hch,zGb,hold',r2',hzr,y1p,if_true,harr,newRow,newObj]
   all_goals rfl
  ·have:=Hp.slmk (c:=nc) (n:=n+m) (sz:=i.size) (xs:=xs++ys) (r:=(Builtin.zeroCells zv.cells (nc-(n+m))).toList) (by rw[yWo];exact hnew) (by rw[yWi,hxlen,hylen,hrow]) ?_ hge
   ·exact this
   ·rw[yWo,yWi,hlen,hxlen,← yZk,← yZk]
    congr 1
    omega
end Cv
namespace Sx
set_option linter.unusedSimpArgs false
set_option linter.unusedVariables false
open Go Go.RowKit Cv
inductive D where
 |v (x:Value)
 |ro (sz:Nat) (els:List (List D))
inductive V where
 |top
 |d (x:D)
 |nm (n off:Nat)
 |el (n sz i f:Nat)
 |re (sz:Nat) (els:List (List D)) (i f:Nat)
 |na (n off i:Nat)
 |own (n:Nat)
 |mp (n:Nat)
 |sub (n i:Nat)
 |agg (l:List V)
 |tup (l:List V)
 |fn (f:Nat) (first cap:List V)
 |ifc (t:Nat) (x:V)
inductive AObj:Type 1 where
 |gone
 |nilo
 |cells (vs:List V) (t:TypeId)
 |own (t sz:Nat) (els:List (List D))
 |fro (sz:Nat) (els:List (List D))
 |mrk (t:TypeId) (els:List (List D))
 |vec (ds:List D) (t:TypeId)
 |map (es:List (Value×List D))
 |mapS (es:List (Value×List D)) (kv:Value) (b:Int)
 |iter (s:ByteArray) (pos:Nat)
 |adt (T:Type) (m:Nat) (unf:T→Nat→AObj) (x:T)
 |objs (t:Nat) (T:Type) (m:Nat) (unf:T→Nat→AObj) (l:List T) (hole:Option Nat)
 |hol (q:Bool) (t sz:Nat) (els:List (List D)) (i f:Nat) (b:Bool) (m:Option Nat)
@[reducible] def Hd:=Value×List Value
structure Ev where
 F:PH
 tab:List Hd
def FLe (F G:PH):Prop:=∀b o,F b=some o→G b=some o
def Ev.le (E E':Ev):Prop:=FLe E.F E'.F∧E.tab<+:E'.tab
theorem FLe.refl (F:PH):FLe F F:=fun _ _ h=>h
theorem FLe.trans {F G H:PH} (a:FLe F G) (b:FLe G H):FLe F H:=fun x o h=>b x o (a x o h)
theorem Ev.le.refl (E:Ev):E.le E:=⟨FLe.refl _,yZy _⟩
theorem Ev.le.trans {E E' E2:Ev} (a:E.le E') (b:E'.le E2):E.le E2:=⟨a.1.trans b.1,a.2.trans b.2⟩
theorem zHq {α:Type} {l l':List α} (h:l<+:l') {n:Nat} {x:α} (e:l[n]? =some x):l'[n]? =some x:=by
 obtain⟨t,rfl⟩:=h
 rw[yYv]
 ·exact e
 ·exact(yWn.1 e).1
theorem Ev.le.get {E E':Ev} (a:E.le E') {n:Nat} {x:Hd} (e:E.tab[n]? =some x):E'.tab[n]? =some x:=zHq a.2 e
mutual
def DR (F:PH):D→Value→Prop
 | .v x,y=>y=x∧x.oneC=true
 | .ro sz els,y=>∃a c,y= .slice a els.length c∧els.length≤c∧(∀el∈els,el.length=sz)∧
    (els=[]∨∃(b o:Nat) (l:List Value) (T:TypeId) (fr:Nat×Nat),a=some ⟨b,o,none⟩∧F b=some (.cells l.toArray T fr)∧DRS F els (l.drop o))
def DRL (F:PH):List D→List Value→Prop
 |[],l=>l=[]
 |d::ds,l=>∃x xs,l=x::xs∧DR F d x∧DRL F ds xs
def DRS (F:PH):List (List D)→List Value→Prop
 |[],_=>True
 |el::els,l=>∃l1 l2,l=l1++l2∧DRL F el l1∧DRS F els l2
end
mutual
theorem DR.mono {F G:PH} (h:FLe F G):∀{d:D} {y:Value},DR F d y→DR G d y
 | .v x,y,e=>by simpa only[DR]using e
 | .ro sz els,y,e=>by
   simp only[DR]at e ⊢
   obtain⟨a,c,h1,h2,h3,h4⟩:=e
   refine⟨a,c,h1,h2,h3,?_⟩
   rcases h4 with h4|⟨b,o,l,T,fr,q1,q2,q3⟩
   ·exact .inl h4
   ·exact .inr ⟨b,o,l,T,fr,q1,h _ _ q2,DRS.mono h q3⟩
theorem DRL.mono {F G:PH} (h:FLe F G):∀{ds:List D} {l:List Value},DRL F ds l→DRL G ds l
 |[],l,e=>by simpa only[DRL]using e
 |d::ds,l,e=>by
  simp only[DRL]at e ⊢
  obtain⟨x,xs,h1,h2,h3⟩:=e
  exact⟨x,xs,h1,DR.mono h h2,DRL.mono h h3⟩
theorem DRS.mono {F G:PH} (h:FLe F G):∀{els:List (List D)} {l:List Value},DRS F els l→DRS G els l
 |[],l,e=>by simp only[DRS]
 |el::els,l,e=>by
  simp only[DRS]at e ⊢
  obtain⟨x,xs,h1,h2,h3⟩:=e
  exact⟨x,xs,h1,DRL.mono h h2,DRS.mono h h3⟩
end
mutual
def VR (E:Ev):V→Value→Prop
 | .top,_=>True
 | .d d,y=>DR E.F d y
 | .nm n o,y=>∃(b oo:Nat) (l:List Value),E.tab[n]? =some (.pointer (some ⟨b,oo,none⟩),l)∧y= .pointer (some ⟨b,oo+o,none⟩)
 | .el n sz i f,y=>∃(b oo m c:Nat) (l:List Value),E.tab[n]? =some (.slice (some ⟨b,oo,none⟩) m c,l)∧y= .pointer (some ⟨b,oo+i*sz+f,none⟩)
 | .re sz els i f,y=>i<els.length∧(∀el∈els,el.length=sz)∧∃(b o:Nat) (l:List Value) (T:TypeId) (fr:Nat×Nat),y= .pointer (some ⟨b,o+i*sz+f,none⟩)∧E.F b=some (.cells l.toArray T fr)∧DRS E.F els (l.drop o)
 | .na n o i,y=>∃(b oo:Nat) (l:List Value),E.tab[n]? =some (.pointer (some ⟨b,oo,none⟩),l)∧y= .pointer (some ⟨b,oo+(o+i),none⟩)
 | .own n,y=>∃l,E.tab[n]? =some (y,l)∧∃a m c,y= .slice a m c
 | .mp n,y=>∃b l,E.tab[n]? =some (y,l)∧y= .map (some b)
 | .sub n i,y=>∃hd l b oo,E.tab[n]? =some (hd,l)∧l[i]? =some y∧y= .pointer (some ⟨b,oo,none⟩)
 | .agg l,y=>∃ys,y= .agg ys.toArray∧VRL E l ys
 | .tup l,y=>∃ys,y= .tuple ys.toArray∧VRL E l ys
 | .fn f a b,y=>∃as bs,y= .func (.func f) as.toArray bs.toArray∧VRL E a as∧VRL E b bs
 | .ifc t x,y=>∃z,y= .iface t z∧VR E x z
def VRL (E:Ev):List V→List Value→Prop
 |[],l=>l=[]
 |v::vs,l=>∃x xs,l=x::xs∧VR E v x∧VRL E vs xs
end
mutual
theorem VR.mono {E E':Ev} (h:E.le E'):∀{v:V} {y:Value},VR E v y→VR E' v y
 | .top,y,e=>by simp only[VR]
 | .d d,y,e=>by simp only[VR]at e ⊢;exact e.mono h.1
 | .nm n o,y,e=>by
   simp only[VR]at e ⊢
   obtain⟨b,oo,l,h1,h2⟩:=e
   exact⟨b,oo,l,h.get h1,h2⟩
 | .el n sz i f,y,e=>by
   simp only[VR]at e ⊢
   obtain⟨b,oo,m,c,l,h1,h2⟩:=e
   exact⟨b,oo,m,c,l,h.get h1,h2⟩
 | .re sz els i f,y,e=>by
   simp only[VR]at e ⊢
   obtain⟨h0,h1,b,o,l,T,fr,h2,h3,h4⟩:=e
   exact⟨h0,h1,b,o,l,T,fr,h2,h.1 _ _ h3,h4.mono h.1⟩
 | .na n o i,y,e=>by
   simp only[VR]at e ⊢
   obtain⟨b,oo,l,h1,h2⟩:=e
   exact⟨b,oo,l,h.get h1,h2⟩
 | .own n,y,e=>by
   simp only[VR]at e ⊢
   obtain⟨l,h1,h2⟩:=e
   exact⟨l,h.get h1,h2⟩
 | .mp n,y,e=>by
   simp only[VR]at e ⊢
   obtain⟨b,l,h1,h2⟩:=e
   exact⟨b,l,h.get h1,h2⟩
 | .sub n i,y,e=>by
   simp only[VR]at e ⊢
   obtain⟨hd,l,b,oo,h1,h2⟩:=e
   exact⟨hd,l,b,oo,h.get h1,h2⟩
 | .agg l,y,e=>by
   simp only[VR]at e ⊢
   obtain⟨ys,h1,h2⟩:=e
   exact⟨ys,h1,VRL.mono h h2⟩
 | .tup l,y,e=>by
   simp only[VR]at e ⊢
   obtain⟨ys,h1,h2⟩:=e
   exact⟨ys,h1,VRL.mono h h2⟩
 | .fn f a b,y,e=>by
   simp only[VR]at e ⊢
   obtain⟨as,bs,h1,h2,h3⟩:=e
   exact⟨as,bs,h1,VRL.mono h h2,VRL.mono h h3⟩
 | .ifc t x,y,e=>by
   simp only[VR]at e ⊢
   obtain⟨z,h1,h2⟩:=e
   exact⟨z,h1,VR.mono h h2⟩
theorem VRL.mono {E E':Ev} (h:E.le E'):∀{vs:List V} {l:List Value},VRL E vs l→VRL E' vs l
 |[],l,e=>by simpa only[VRL]using e
 |v::vs,l,e=>by
  simp only[VRL]at e ⊢
  obtain⟨x,xs,h1,h2,h3⟩:=e
  exact⟨x,xs,h1,VR.mono h h2,VRL.mono h h3⟩
end
def mC:List Value→Value
 |[y]=>y
 |ys=> .agg ys.toArray
def MR (F:PH):List (Value×List D)→List MapEntry→Prop
 |[],l=>l=[]
 |(k,ds)::es,l=>∃(m:MapEntry) (ms:List MapEntry),l=m::ms∧m.key=k∧(∃ys,DRL F ds ys∧m.val=mC ys)∧MR F es ms
theorem MR.mono {F G:PH} (h:FLe F G):∀{es:List (Value×List D)} {l:List MapEntry},MR F es l→MR G es l
 |[],l,e=>e
 |(k,ds)::es,l,e=>by
  obtain⟨m,ms,h1,h2,⟨ys,h3,h4⟩,h5⟩:=e
  exact⟨m,ms,h1,h2,⟨ys,h3.mono h,h4⟩,h5.mono h⟩
def wW (l:List MapEntry) (ck:Nat):Prop:=(l.map (·.born)).Nodup∧∀e∈l,e.born<ck
def zWl (kd:TypeDesc) (x:Value):Prop:=(∃ik k n,kd=.int ik∧x=.int k n)∨(∃s,kd=.string∧x=.string s)
def zHk (l:List MapEntry) (x:Value) (b:Int):Prop:=∃kd,zWl kd x∧∃q m,Instr.findNow kd x l 0=some (some (q,m.val))∧l[q]?=some m∧(m.born:Int)=b
def HolX (tab:List Hd) (p:Nat) (b:Bool) (ys xs:List Value):Option Nat→Prop
 |some m=>∃y l,tab[m]? =some (y,l)∧(∃a n c,y= .slice a n c)∧xs=bif b then ys.set p y else ys
 |none=>∃y,(∃a n c,y= .slice a n c)∧xs=bif b then ys.set p y else ys
def rowHP (F:PH):AObj→List Hd→Hd→HP
 | .gone,_,_=>fun h=>h=pe
 | .nilo,_,hd=>fun h=>h=pe∧hd.1= .slice none 0 0∧hd.2=[]
 | .cells vs t,tab,hd=>fun h=>∃b l,hd.1= .pointer (some ⟨b,0,none⟩)∧VRL ⟨F,tab⟩ vs l∧h=one b (.cells l.toArray t)
 | .own t sz els,tab,hd=>fun h=>∃a k xs,hd.1= .slice a els.length k∧DRL F els.flatten xs∧(∀el∈els,el.length=sz)∧slO t sz a els.length k xs h
 | .fro sz els,tab,hd=>fun h=>h=pe∧DR F (.ro sz els) hd.1
 | .mrk t els,tab,hd=>fun h=>∃b k xs r,hd.1= .slice (some ⟨b,0,none⟩) els.length k∧DRL F els.flatten xs∧(∀el∈els,el.length=1)∧els.length≤k∧h=one b (.cells (xs++r).toArray t ((xs++r).length,(xs++r).length+1))
 | .vec ds t,tab,hd=>fun h=>∃b l,hd.1= .pointer (some ⟨b,0,none⟩)∧DRL F ds l∧h=one b (.cells l.toArray t)
 | .map es,tab,hd=>fun h=>∃b ents ck,hd.1= .map (some b)∧MR F es ents∧wW ents ck∧h=one b (.map ents.toArray ck)
 | .mapS es kv x,tab,hd=>fun h=>∃b ents ck,hd.1= .map (some b)∧MR F es ents∧wW ents ck∧zHk ents kv x∧h=one b (.map ents.toArray ck)
 | .iter s pos,tab,hd=>fun h=>∃b,hd.1= .pointer (some ⟨b,0,none⟩)∧h=one b (.stringIter s pos)
 | .adt T m unf x,tab,hd=>fun h=>∃tab1,tab1[0]? =some hd∧tab1.length=m∧hS ((List.range m).map fun j=>fun h=>∃hd',tab1[j]? =some hd'∧rowHP F (unf x j) tab1 hd' h) h
 | .objs t T m unf l hole,tab,hd=>fun h=>∃a k,hd.1= .slice a l.length k∧hd.2.length=l.length∧(∀p∈hd.2,∃b oo,p= .pointer (some ⟨b,oo,none⟩))∧
    hS [slO t 1 a l.length k hd.2,hS ((List.range l.length).map fun i=>fun h=>if hole=some i then h=pe else ∃x p l0 tab1,l[i]? =some x∧hd.2[i]? =some p∧tab1[0]? =some (p,l0)∧tab1.length=m∧
     hS ((List.range m).map fun j=>fun h=>∃hd',tab1[j]? =some hd'∧rowHP F (unf x j) tab1 hd' h) h)] h
 | .hol q t sz els i f b m,tab,hd=>fun h=>∃a k ys xs,hd.1= .slice a els.length k∧DRL F els.flatten ys∧(∀el∈els,el.length=sz)∧HolX tab (i*sz+f) b ys xs m∧slO t sz a els.length k xs h
theorem zAd {α:Type} {f g:α→HP} (h:∀a x,f a x→g a x):∀{l:List α} {x:PH},hS (l.map f) x→hS (l.map g) x
 |[],x,e=>e
 |[a],x,e=>h a x e
 |a::b::l,x,e=>by
  obtain⟨g1,g2,h1,h2,h3,h4⟩:=e
  exact⟨g1,g2,h a _ h1,zAd h (l:=b::l) h2,h3,h4⟩
theorem HolX.mono {tab tab':List Hd} (h:∀(n:Nat) (hd:Hd),tab[n]? =some hd→tab'[n]? =some hd) {p:Nat} {b:Bool} {ys xs:List Value}:∀{m:Option Nat},HolX tab p b ys xs m→HolX tab' p b ys xs m
 |some m,⟨y,l,h1,h2⟩=>⟨y,l,h _ _ h1,h2⟩
 |none,e=>e
theorem rowHP.mono {F G:PH} (hF:FLe F G) (o:AObj):∀{tab tab':List Hd} (ht:tab<+:tab') {hd:Hd} {h:PH},rowHP F o tab hd h→rowHP G o tab' hd h:=by
 induction o with
 |gone=>intro _ _ _ _ _ e;exact e
 |nilo=>intro _ _ _ _ _ e;exact e
 |cells vs t=>
  intro tab tab' ht hd h e
  simp only[rowHP]at e ⊢
  obtain⟨b,l,h1,h2,h3⟩:=e
  exact⟨b,l,h1,h2.mono ⟨hF,ht⟩,h3⟩
 |own t sz els=>
  intro tab tab' ht hd h e
  simp only[rowHP]at e ⊢
  obtain⟨a,k,xs,h1,h2,h3⟩:=e
  exact⟨a,k,xs,h1,h2.mono hF,h3⟩
 |fro sz els=>
  intro tab tab' ht hd h e
  simp only[rowHP]at e ⊢
  exact⟨e.1,e.2.mono hF⟩
 |mrk t els=>
  intro tab tab' ht hd h e
  simp only[rowHP]at e ⊢
  obtain⟨b,k,xs,r,h1,h2,h3⟩:=e
  exact⟨b,k,xs,r,h1,h2.mono hF,h3⟩
 |vec ds t=>
  intro tab tab' ht hd h e
  simp only[rowHP]at e ⊢
  obtain⟨b,l,h1,h2,h3⟩:=e
  exact⟨b,l,h1,h2.mono hF,h3⟩
 |map es=>
  intro tab tab' ht hd h e
  simp only[rowHP]at e ⊢
  obtain⟨b,l,ck,h1,h2,h3⟩:=e
  exact⟨b,l,ck,h1,h2.mono hF,h3⟩
 |mapS es kv x=>
  intro tab tab' ht hd h e
  simp only[rowHP]at e ⊢
  obtain⟨b,l,ck,h1,h2,h3⟩:=e
  exact⟨b,l,ck,h1,h2.mono hF,h3⟩
 |iter s pos=>intro _ _ _ _ _ e;simpa only[rowHP]using e
 |adt T m unf x ih=>
  intro tab tab' ht hd h e
  simp only[rowHP]at e ⊢
  obtain⟨tab1,h1,h2,h3⟩:=e
  refine⟨tab1,h1,h2,zAd ?_ h3⟩
  rintro j y ⟨hd',q1,q2⟩
  exact⟨hd',q1,ih x j (yZy _) q2⟩
 |objs t T m unf l hole ih=>
  intro tab tab' ht hd h e
  simp only[rowHP]at e ⊢
  obtain⟨a,k,h1,h2,h3,h5⟩:=e
  refine⟨a,k,h1,h2,h3,?_⟩
  obtain⟨g1,g2,q1,q2,q3,q4⟩:=h5
  refine⟨g1,g2,q1,zAd ?_ q2,q3,q4⟩
  intro i y hy
  split
  ·rename_i hi;rw[yWl hi]at hy;exact hy
  ·rename_i hi
   rw[yWj hi]at hy
   obtain⟨x,p,l0,tab1,r1,r2,r3,r4,r5⟩:=hy
   refine⟨x,p,l0,tab1,r1,r2,r3,r4,zAd ?_ r5⟩
   rintro j y ⟨hd',s1,s2⟩
   exact⟨hd',s1,ih x j (yZy _) s2⟩
 |hol q t sz els i f b m=>
  intro tab tab' ht hd h e
  simp only[rowHP]at e ⊢
  obtain⟨a,k,ys,xs,h1,h2,h3,h4,h5⟩:=e
  exact⟨a,k,ys,xs,h1,h2.mono hF,h3,h4.mono fun n hd e=>zHq ht e,h5⟩
structure St where
 rows:List (Nat×AObj)
 nx:Nat
def rA (n:Nat):List (Nat×AObj)→Option AObj
 |[]=>none
 |(m,o)::l=>bif Nat.beq m n then some o else rA n l
def jZ (n:Nat):List (Nat×AObj)→List (Nat×AObj)
 |[]=>[]
 |(m,o)::l=>bif Nat.beq m n then l else(m,o)::jZ n l
def nA (n:Nat) (x:AObj):List (Nat×AObj)→List (Nat×AObj)
 |[]=>[]
 |(m,o)::l=>bif Nat.beq m n then(m,x)::l else(m,o)::nA n x l
def St.get (s:St) (n:Nat):Option AObj:=rA n s.rows
def St.set (s:St) (n:Nat) (o:AObj):St:=⟨nA n o s.rows,s.nx⟩
def St.del (s:St) (n:Nat):St:=⟨jZ n s.rows,s.nx⟩
def St.delF (s:St) (n:Nat):AObj→St
 | .fro _ _=>s
 |_=>s.del n
def St.new (s:St) (o:AObj):St:=⟨(s.nx,o)::s.rows,s.nx+1⟩
theorem vQ {n:Nat} {o:AObj}:∀{l:List (Nat×AObj)},rA n l=some o→l.Perm ((n,o)::jZ n l)∧∀x,(nA n x l).Perm ((n,x)::jZ n l)
 |[],h=>by cases h
 |(m,p)::l,h=>by
  simp only[rA,jZ,nA]at h ⊢
  cases hb:Nat.beq m n
  ·rw[hb]at h
   obtain⟨h1,h2⟩:=vQ (l:=l) h
   exact⟨(h1.cons _).trans (.swap _ _ _),fun x=>((h2 x).cons _).trans (.swap _ _ _)⟩
  ·rw[hb]at h
   have:=yWm hb
   subst this
   cases h
   exact⟨.refl _,fun x=> .refl _⟩
def rHP (E:Ev) (r:Nat×AObj):HP:=fun h=>r.2= .gone∧h=pe∨∃hd,E.tab[r.1]? =some hd∧rowHP E.F r.2 E.tab hd h
theorem rHP.mono {E E':Ev} (h:E.le E') (r:Nat×AObj) {x:PH} (e:rHP E r x):rHP E' r x:=by
 rcases e with e|⟨hd,h1,h2⟩
 ·exact .inl e
 ·exact .inr ⟨hd,h.get h1,h2.mono h.1 _ h.2⟩
def yWb:List (Nat×(Obj→Prop)):=[]
def GTab (F:PH):Prop:=∀g∈yWb,∃o,F g.1=some o∧g.2 o
theorem GTab.mono {F G:PH} (h:FLe F G) (e:GTab F):GTab G:=fun g hg=>let⟨o,h1,h2⟩:=e g hg;⟨o,h _ _ h1,h2⟩
def fz (F:PH):HP:=fun h=>h=F∧GTab F
structure Rel (k:Ko) (L:List HP) (E:Ev) (s:St) (w:World):Prop where
 nx:E.tab.length=s.nx
 hp:Hp k w (s.rows.map (rHP E)++fz E.F::L)
end Sx
namespace Cv
set_option linter.unusedSimpArgs false
set_option linter.unusedVariables false
open Go Go.RowKit
inductive Tr (α:Type) where
 |e
 |n (v:Option α) (l r:Tr α)
def Tr.get {α:Type}:List Bool→Tr α→Option α
 |_,.e=>none
 |[],.n v _ _=>v
 |b::p,.n _ l r=>bif b then Tr.get p l else Tr.get p r
def Tr.set {α:Type} (x:Option α):List Bool→Tr α→Tr α
 |[],.e=> .n x .e .e
 |[],.n _ l r=> .n x l r
 |b::p,.e=>bif b then .n none (Tr.set x p .e) .e else .n none .e (Tr.set x p .e)
 |b::p,.n v l r=>bif b then .n v (Tr.set x p l) r else .n v l (Tr.set x p r)
def ySu:Nat→Nat→List Bool
 |0,n=>List.replicate n true
 |f+1,n=>bif Nat.beq n 0 then[]else Nat.beq (n % 2) 1::ySu f (n / 2)
def pth (n:Nat):List Bool:=ySu 40 n
inductive Cap where
 |k (c:Nat)
 |r (l o0:Nat)
inductive V where
 |int (k:IntKind) (n:Int)
 |bool (b:Bool)
 |str (l:List Nat)
 |ptr (a:Option (Nat×Nat))
 |sl (a:Option (Nat×Nat)) (n:Nat) (c:Cap)
 |map (r:Option Nat)
 |agg (l:List V)
 |tup (l:List V)
 |fn (f:Nat) (first cap:List V)
 |nilfn
inductive AObj where
 |cells (xs:List V) (t:TypeId) (opn:Option Nat)
 |map (es:List (V×V×Nat)) (clock:Nat)
 |iter (s:List Nat) (pos:Nat)
structure St where
 h:Tr AObj
 nx:Nat
def St.get (s:St) (b:Nat):Option AObj:=Tr.get (pth b) s.h
def St.set (s:St) (b:Nat) (o:AObj):St:=⟨Tr.set (some o) (pth b) s.h,s.nx⟩
def St.del (s:St) (b:Nat):St:=⟨Tr.set none (pth b) s.h,s.nx⟩
def St.new (s:St) (o:AObj):St:=⟨Tr.set (some o) (pth s.nx) s.h,s.nx+1⟩
@[reducible] def Phi:=Nat→Nat×Nat
def cvs (φ:Phi) (b o n:Nat):Cap→Addr
 | .k _=>⟨(φ b).1,o,none⟩
 | .r l o0=>⟨(φ b).1,bif Nat.beq n 0 && Nat.beq (φ b).2 l then o0 else o,none⟩
def cvc (φ:Phi) (b:Nat):Cap→Nat
 | .k c=>c
 | .r l _=>(φ b).2-l
mutual
def cv (φ:Phi):V→Value
 | .int k n=> .int k n
 | .bool b=> .bool b
 | .str l=> .string (bs l)
 | .ptr none=> .pointer none
 | .ptr (some (b,o))=> .pointer (some ⟨(φ b).1,o,none⟩)
 | .sl none n c=> .slice none n (match c with| .k c=>c| .r _ _=>0)
 | .sl (some (b,o)) n c=> .slice (some (cvs φ b o n c)) n (cvc φ b c)
 | .map none=> .map none
 | .map (some b)=> .map (some (φ b).1)
 | .agg l=> .agg (cvl φ l).toArray
 | .tup l=> .tuple (cvl φ l).toArray
 | .fn f a b=> .func (.func f) (cvl φ a).toArray (cvl φ b).toArray
 | .nilfn=> .nilFunc
def cvl (φ:Phi):List V→List Value
 |[]=>[]
 |v::l=>cv φ v::cvl φ l
end
def yDo {α:Type}:List (Option α)→Option (List α)
 |[]=>some []
 |some a::l=>match yDo l with
  |some r=>some (a::r)
  |none=>none
 |none::_=>none
def zTu (ρ:Tr V):Option Nat→V→Tr V
 |none,_=>ρ
 |some d,v=>Tr.set (some v) (pth d) ρ
def keq:IntKind→IntKind→Bool
 | .i8,.i8=>true| .i16,.i16=>true| .i32,.i32=>true| .i64,.i64=>true
 | .u8,.u8=>true| .u16,.u16=>true| .u32,.u32=>true| .u64,.u64=>true
 |_,_=>false
def ieq:Int→Int→Bool
 | .ofNat a,.ofNat b=>Nat.beq a b
 | .negSucc a,.negSucc b=>Nat.beq a b
 |_,_=>false
def aeq:Option (Nat×Nat)→Option (Nat×Nat)→Bool
 |none,none=>true
 |some (a,b),some (c,d)=>Nat.beq a c && Nat.beq b d
 |_,_=>false
def lim:IntKind→Nat
 | .i8=>128| .i16=>32768| .i32=>2147483648| .i64=>9223372036854775808
 | .u8=>256| .u16=>65536| .u32=>4294967296| .u64=>18446744073709551616
def wr (k:IntKind):Int→Int
 | .ofNat n=>bif Nat.blt n (lim k)then .ofNat n else k.wrap (.ofNat n)
 |x=>k.wrap x
def yAf:IntKind→Nat
 | .i8=>256| .i16=>65536| .i32=>4294967296| .i64=>18446744073709551616
 | .u8=>256| .u16=>65536| .u32=>4294967296| .u64=>18446744073709551616
def yWh (k:IntKind):Int→Int→Int
 | .ofNat a,.ofNat b=>wr k (.ofNat (Nat.land (a % yAf k) (b % yAf k)))
 |a,b=>sW k a b
def fOr (k:IntKind):Int→Int→Int
 | .ofNat a,.ofNat b=>wr k (.ofNat (Nat.lor (a % yAf k) (b % yAf k)))
 |a,b=>iOr k a b
def yPl (k:IntKind):Int→Int→Int
 | .ofNat a,.ofNat b=>wr k (.ofNat (a*2 ^ (Nat.min b k.bits)))
 |a,b=>zSs k a b
def zQs (P:Program) (t:TypeId):Bool:=
 match P.underlying t with
 |some (.pointer _)=>true
 |_=>false
def zCp (P:Program) (t:TypeId):Bool:=
 match P.underlying t with
 |some (.slice _)=>true
 |_=>false
def zZq (P:Program) (t:TypeId):Bool:=
 match P.underlying t with
 |some (.map _ _)=>true
 |_=>false
def lS (P:Program) (t:TypeId):Bool:=
 match P.underlying t with
 |some .string=>true
 |_=>false
def yWg (P:Program) (t:TypeId):Option IntKind:=
 match P.underlying t with
 |some (.int k)=>some k
 |_=>none
def zJt (P:Program) (s:TypeId) (f:Nat):Option Nat:=
 match P.underlying s with
 |some (.struct fs)=>match fs[f]? with
  |some fd=>match P.info? fd.type with
   |some i=>bif Nat.beq i.size 0 then none else some fd.offset
   |none=>none
  |none=>none
 |_=>none
def zDm (P:Program) (s:TypeId) (f:Nat):Option (TypeId×Nat):=
 match P.underlying s with
 |some (.struct fs)=>match fs[f]? with
  |some fd=>some (fd.type,fd.offset)
  |none=>none
 |_=>none
def zHv (P:Program) (t:TypeId):Option (Nat×TypeId×Nat):=
 match P.underlying t with
 |some (.array n e)=>match P.info? e with
  |some i=>some (n,e,i.size)
  |none=>none
 |_=>none
def apart (P:Program) (t:TypeId) (cs:List V) (off:Nat):Option V:=
 match zGt P t with
 |some sz=>some (.agg ((cs.drop off).take sz))
 |none=>bif lN P t then cs[off]? else none
def zJw (i:Int) (n:Nat):Option Nat:=
 match i with
 | .ofNat j=>bif Nat.blt j n then some j else none
 |_=>none
def yDu (P:Program) (t:TypeId):Option (List (Option (Nat×Nat))):=
 match P.underlying t with
 |some (.struct fs)=>some (fs.toList.map fun fd=>match P.info? fd.type with
   |some i=>some (fd.offset,i.size)
   |none=>none)
 |_=>none
def zRu (l:List (Option (Nat×Nat))) (i:Nat):Option (Nat×Nat):=
 match l[i]? with
 |some r=>r
 |none=>none
def zMn (P:Program) (t:TypeId):Option (TypeId×TypeId):=
 match P.underlying t with
 |some (.map k e)=>some (k,e)
 |_=>none
def yBi (P:Program) (t:TypeId):Bool:=
 match P.underlying t with
 |some (.slice e)=>match P.underlying e with
  |some (.int .u8)=>true
  |_=>false
 |_=>false
def bY (P:Program) (t:TypeId):Option Nat:=
 match P.info? t with
 |some i=>some i.size
 |none=>none
end Cv
namespace Cv
set_option linter.unusedSimpArgs false
set_option linter.unusedVariables false
open Go Go.RowKit
def cme (φ:Phi) (e:V×V×Nat):MapEntry:={key:=cv φ e.1,val:=cv φ e.2.1,born:=e.2.2}
def coT (φ:Phi) (b:Nat):AObj→Obj→Prop
 | .cells xs t none,O=>O= .cells (cvl φ xs).toArray t
 | .cells xs t (some sz),O=>∃r,O= .cells (cvl φ xs++r).toArray t∧xs.length+r.length=(φ b).2*sz
 | .map es ck,O=>O= .map (es.map (cme φ)).toArray ck
 | .iter l pos,O=>O= .stringIter (bs l) pos
structure Rel (φ:Phi) (s:St) (w:World):Prop where
 obj:∀b o,s.get b=some o→∃O,w.heap[(φ b).1]? =some O∧coT φ b o O
 inj:∀b c,s.get b≠none→s.get c≠none→(φ b).1=(φ c).1→b=c
 lt:∀b,s.get b≠none→b<s.nx
theorem bs_toNat (s:ByteArray):bs (s.data.toList.map UInt8.toNat)=s:=by
 unfold bs
 rw[yZc]
 have:(Nat.toUInt8∘UInt8.toNat)=id:=by
  funext x
  simp[Nat.toUInt8]
 rw[this]
 simp
theorem zKd {off:Nat}:∀(vs:List Value) (k:Nat) (l:List Value),off+k+vs.length≤l.length→
 List.foldl (fun(cs:Array Value) (p:Value×Nat)=>cs.setIfInBounds (off+p.2) p.1) l.toArray (vs.zipIdx k)=(spl l (off+k) vs).toArray
 |[],k,l,_=>by simp[spl]
 |v::vs,k,l,h=>by
  simp only[yWr]at h
  simp only[List.zipIdx_cons,yZw,List.setIfInBounds_toArray]
  rw[zKd vs (k+1) (l.set (off+k) v) (by rw[yXf];omega),show off+(k+1)=off+k+1 by omega,zHp (by omega)]
end Cv
namespace Cv
set_option linter.unusedSimpArgs false
set_option linter.unusedVariables false
open Go Go.RowKit
theorem zOb {k k':IntKind} (h:keq k k'=true):k=k':=by cases k<;>cases k'<;>first|rfl|cases h
theorem zZs {k:IntKind} {n:Nat} (h:n<lim k):k.wrap (.ofNat n)= .ofNat n:=by
 cases k<;>simp only[lim]at h<;>simp[IntKind.wrap,IntKind.bits,IntKind.signed]<;>omega
theorem z0z (k:IntKind) (x:Int):wr k x=k.wrap x:=by
 cases x with
 |ofNat n=>
  simp only[wr]
  cases h:Nat.blt n (lim k)
  ·rfl
  ·exact(zZs (by simpa[yZj]using h)).symm
 |negSucc n=>rfl
theorem yEm (k:IntKind):yAf k=2 ^ k.bits:=by cases k<;>rfl
theorem zGd (w a:Nat):BitVec.ofInt w (Int.ofNat a)=BitVec.ofNat w a:=by
 apply BitVec.eq_of_toNat_eq
 simp
theorem yMa (k:IntKind) (a b:Int):fOr k a b=iOr k a b:=by
 unfold fOr
 split
 ·rename_i a b
  rw[z0z,yEm]
  unfold iOr
  rw[zGd,zGd]
  simp only[BitVec.toNat_or,BitVec.toNat_ofNat]
  rfl
 ·rfl
theorem yGq (k:IntKind) (a b:Int):yPl k a b=zSs k a b:=by
 unfold yPl
 split
 ·rename_i a b
  rw[z0z]
  unfold zSs
  congr 1
 ·rfl
end Cv
namespace Cv
set_option linter.unusedSimpArgs false
set_option linter.unusedVariables false
open Go Go.RowKit
theorem zVe {P:Program} {t:TypeId} (h:zQs P t=true):∃e,P.underlying t=some (.pointer e):=by
 unfold zQs at h;split at h
 ·exact⟨_,by assumption⟩
 ·cases h
theorem nS {P:Program} {t:TypeId} (h:zCp P t=true):∃e,P.underlying t=some (.slice e):=by
 unfold zCp at h;split at h
 ·exact⟨_,by assumption⟩
 ·cases h
theorem zUv {P:Program} {t:TypeId} (h:zZq P t=true):∃k e,P.underlying t=some (.map k e):=by
 unfold zZq at h;split at h
 ·exact⟨_,_,by assumption⟩
 ·cases h
theorem b6 {P:Program} {t:TypeId} (h:lS P t=true):P.underlying t=some .string:=by
 unfold lS at h;split at h
 ·assumption
 ·cases h
end Cv
namespace Cv
set_option linter.unusedSimpArgs false
set_option linter.unusedVariables false
open Go Go.RowKit
theorem yQ {α:Type} {b:Bool} {x:Option α} {v:α} (h:(bif b then x else none)=some v):b=true∧x=some v:=by
 cases b
 ·cases h
 ·exact⟨rfl,h⟩
theorem zIt {i:Int} {n j:Nat} (h:zJw i n=some j):i=(j:Int)∧j<n:=by
 unfold zJw at h
 split at h
 ·rename_i m
  obtain⟨hb,h⟩:=yQ h
  simp only[Option.some.injEq]at h
  subst h
  exact⟨rfl,by simpa[yZj]using hb⟩
 ·cases h
theorem zMo {P:Program} {s f off:Nat} (h:zJt P s f=some off):∃fs fd i,P.underlying s=some (.struct fs)∧fs[f]? =some fd∧P.info? fd.type=some i∧i.size≠0∧fd.offset=off:=by
 unfold zJt at h
 split at h<;>first|(cases h;done)|skip
 rename_i fs hfs
 split at h<;>first|(cases h;done)|skip
 rename_i fd hfd
 split at h<;>first|(cases h;done)|skip
 rename_i i hi
 cases hb:Nat.beq i.size 0
 ·rw[hb]at h
  simp only[cond_false,Option.some.injEq]at h
  exact⟨fs,fd,i,hfs,hfd,hi,(fun e=>by rw[e]at hb;cases hb),h⟩
 ·rw[hb]at h;cases h
theorem zJj {P:Program} {s f ft off:Nat} (h:zDm P s f=some (ft,off)):∃fs fd,P.underlying s=some (.struct fs)∧fs[f]? =some fd∧fd.type=ft∧fd.offset=off:=by
 unfold zDm at h
 split at h<;>first|(cases h;done)|skip
 rename_i fs hfs
 split at h<;>first|(cases h;done)|skip
 rename_i fd hfd
 simp only[Option.some.injEq,Prod.mk.injEq]at h
 exact⟨fs,fd,hfs,hfd,h.1,h.2⟩
theorem zCx {P:Program} {t n e sz:Nat} (h:zHv P t=some (n,e,sz)):∃i,P.underlying t=some (.array n e)∧P.info? e=some i∧i.size=sz:=by
 unfold zHv at h
 split at h<;>first|(cases h;done)|skip
 rename_i n' e' ht
 split at h<;>first|(cases h;done)|skip
 rename_i i hi
 simp only[Option.some.injEq,Prod.mk.injEq]at h
 obtain⟨rfl,rfl,rfl⟩:=h
 exact⟨i,ht,hi,rfl⟩
theorem zOq {α:Type}:∀{l:List (Option α)} {L:List α},yDo l=some L→l=L.map some
 |[],L,h=>by simp only[yDo,Option.some.injEq]at h;subst h;rfl
 |none::l,L,h=>by cases h
 |some a::l,L,h=>by
  simp only[yDo]at h
  split at h<;>first|(cases h;done)|skip
  rename_i r hr
  simp only[Option.some.injEq]at h
  subst h
  rw[yWz,← zOq hr]
theorem zKq {P:Program} (w:World):∀{fs:List Field} {L:List (Nat×Nat)},
 (fs.map fun fd=>match P.info? fd.type with|some i=>some (fd.offset,i.size)|none=>none)=L.map some→
 ((fs.mapM fun f=>(do pure (f.offset,← Go.sizeOf f.type):Sem (Nat×Nat))):Sem (List (Nat×Nat))).run P w= .ok L w
 |[],L,h=>by
  cases L with
  |nil=>rfl
  |cons a l=>cases h
 |fd::fs,L,h=>by
  cases L with
  |nil=>cases h
  |cons a l=>
   simp only[yWz,List.cons.injEq]at h
   obtain⟨h1,h2⟩:=h
   split at h1<;>first|(cases h1;done)|skip
   rename_i i hi
   simp only[Option.some.injEq]at h1
   subst h1
   have ih:=zKq w h2
   simp only[List.mapM_cons,bind,pure,run_bind,Sem.bind,Sem.run,run_sizeOf hi]at ih ⊢
   rw[ih]
theorem jC {ρ:Env} {o:Oper} {c:Call} {b:Builtin} (ho:o.op= .call c) (hc:c.callee= .builtin b):
 execOp (ev ρ) o=builtin b c.argTypes o.type (c.args.map fun| .const _=>true|_=>false) (c.args.map (ev ρ)):=by
 have hexec:execOp (ev ρ) o=(resolve (ev ρ) c o.type).bind fun d=>invoke d.target d.args:=by
  simp only[execOp,ho];rfl
 rw[hexec];unfold resolve;rw[hc];rfl
end Cv
