/- Texts of ours. No condition. -/
import Derived.Deep.LoopGhost
import Derived.KernelRfl
import Derived.Lib.Strings
import Derived.Orders
import Derived.WalkKit
set_option linter.all false
open Go renaming Program->aa,Value->ab,World->ac,TypeId->ae,execOp->af,IntKind->ag,Oper->aj,eqGuard->ak,Addr->am,undef->ao,Operand->ap,MapEntry->aq,resolve->ar,callFunc->au,FuncId->av,wp_mono->aw,convert->ax
open Option renaming some->ay,none->az,map_eq_some_iff->ba
open Go.Sem renaming run->bc,bind->be,pure->bg
open Bool renaming true->bo,false->bu,or_eq_true->bv
open Go.Builtin renaming firstCells->bz,zeroCells->cd,append_->ce,len_->cf,copy_->cg
open Go.Region renaming ready->ci,binds->cm,wanted->cn
open Go.Instr renaming sliceBounds->co,lookup->cp,typeAssert->cq
open Option.some renaming injEq->cr,inj->ct
open Nat renaming beq->cu,blt->cw,ble->cx
open Int renaming toNat->cy
open BitVec renaming ofInt->cz
open List renaming range->da,mapM_cons->db
open Array renaming replicate->dc,ext'->dd
open Go.IntKind renaming i64->de
open Prod.mk renaming injEq->df
def y5x:=@if_neg
def y5y:=@List.length_append
def y5z:=@List.length_map
def y6a:=@if_pos
def y6b:=@Nat.eq_of_beq_eq_true
def y6c:=@List.getElem?_eq_some_iff
def y6d:=@List.length_cons
def y6e:=@List.mem_cons_self
def y6f:=@List.append_assoc
def y6g:=@List.mem_cons_of_mem
def y6h:=@List.getD_eq_getElem?_getD
def y6i:=@List.map_append
def y6j:=@List.mem_of_getElem?
def y6k:=@List.take_of_length_le
def y6l:=@Bool.and_eq_true
def y6m:=@List.map_cons
def y6n:=@decide_eq_false
def y6o:=@List.perm_middle
def y6p:=@decide_eq_true
def y6q:=@List.mem_cons
def y6r:=@Int.toNat_natCast
def y6s:=@Bool.false_eq_true
def y6t:=@List.length_take
def y6u:=@List.length_drop
def y6v:=@Nat.le_refl
def y6w:=@List.append_nil
def y6x:=@Nat.zero_add
def y6y:=@List.eq_nil_of_length_eq_zero
def y6z:=@List.getElem?_eq_getElem
def y7a:=@List.take_append_of_le_length
def y7b:=@List.mem_map_of_mem
def y7c:=@List.getElem?_eq_none
def y7d:=@List.mem_append
def y7e:=@Nat.zero_le
def y7f:=@of_decide_eq_true
def y7g:=@List.length_set
def y7h:=@List.take_add_one
def y7i:=@List.map_congr_left
def y7j:=@List.mem_map
def y7k:=@List.take_succ_cons
def y7l:=@Nat.mul_le_mul_right
def y7m:=@decide_eq_true_eq
def y7n:=@List.sum_cons
def y7o:=@List.cons_append
def y7p:=@List.getElem?_map
def y7q:=@List.mem_singleton
def y7r:=@List.mem_append_left
def y7s:=@List.length_nil
def y7t:=@List.flatMap_cons
def y7u:=@List.mem_append_right
def y7v:=@Array.getD_eq_getD_getElem?
def y7w:=@List.flatMap_append
def y7x:=@List.getElem?_cons_succ
def y7y:=@List.mem_filter
def y7z:=@List.getElem?_toArray
def y8a:=@List.length_singleton
def y8b:=@Option.map_some
def y8c:=@List.getElem?_append_right
def y8d:=@List.perm_append_comm
def y8e:=@Nat.le_of_ble_eq_true
def y8f:=@List.take_append_drop
def y8g:=@List.drop_eq_getElem_cons
def y8h:=@Nat.lt_or_ge
def y8i:=@List.nodup_append
def y8j:=@List.getElem?_cons_zero
def y8k:=@Option.getD_some
def y8l:=@List.flatten_cons
def y8m:=@List.getElem?_drop
def y8n:=@List.map_map
def y8o:=@List.nodup_cons
def y8p:=@List.mem_iff_getElem?
def y8q:=@List.drop_append_of_le_length
def y8r:=@List.mem_flatMap
def y8s:=@List.nil_append
def y8t:=@List.getElem?_append_left
def y8u:=@Nat.le_trans
def y8v:=@Bool.true_and
def y8w:=@Nat.succ_mul
def y8x:=@List.take_length
def y8y:=@Array.getElem?_eq_none
def y8z:=@Nat.blt_eq
def y9a:=@Nat.add_mul
def y9b:=@Option.toList_some
def y9c:=@List.mem_range
def y9d:=@List.length_replicate
def y9e:=@List.all_eq_true
def y9f:=@List.set_eq_take_append_cons_drop
def y9g:=@List.drop_eq_nil_of_le
def y9h:=@List.findIdx?_eq_some_iff_getElem
def y9i:=@Int.le_refl
def y9j:=@List.drop_drop
def y9k:=@Bool.false_and
def y9l:=@List.length_filter_le
def y9m:=@Bool.not_eq_true'
def y9n:=@List.drop_zero
def y9o:=@List.getElem?_set
def y9p:=@Nat.add_assoc
def y9q:=@List.map_nil
def y9r:=@List.foldl_cons
def y9s:=@List.pairwise_cons
def y9t:=@List.mem_of_mem_drop
def y9u:=@Array.getElem?_setIfInBounds_self_of_lt
def y9v:=@List.ext_getElem?
def y9w:=@Array.length_toList
def y9x:=@Nat.min_eq_left
def y9y:=@List.getElem?_take
def y9z:=@List.prefix_append
def xAa:=@List.set_set
def xAb:=@List.filter_append
def xAc:=@Array.getElem?_setIfInBounds
def xAd:=@Bool.or_eq_false_iff
def xAe:=@List.size_toArray
def xAf:=@List.replicate_succ
def xAg:=@List.getElem?_range
def xAh:=@Nat.add_zero
def xAi:=@Int.mul_comm
def xAj:=@List.map_take
def xAk:=@List.perm_append_singleton
def xAl:=@List.prefix_refl
def xAm:=@List.take_zero
def xAn:=@of_decide_eq_false
def xAo:=@Array.getElem?_eq_getElem
def xAp:=@List.findIdx?_eq_none_iff
def xAq:=@List.getElem?_zip_eq_some
def xAr:=@Array.getElem?_setIfInBounds_ne
def xAs:=@List.mem_of_mem_take
def xAt:=@List.range_succ
def xAu:=@List.foldl_append
def xAv:=@Int.mul_le_mul_of_nonneg_left
def xAw:=@List.filter_cons_of_pos
def xAx:=@List.filter_cons_of_neg
def xAy:=@List.flatten_append
def xAz:=@List.length_flatMap
def xBa:=@Bool.not_false
def xBb:=@List.drop_append
def xBc:=@Bool.and_false
def xBd:=@List.flatMap_nil
def xBe:=@Nat.lt_succ_self
def xBf:=@List.mem_filterMap
def xBg:=@Nat.add_comm
def xBh:=@Option.map_none
def xBi:=@List.modify_succ_cons
def xBj:=@Int.tmod_eq_emod_of_nonneg
def xBk:=@List.map_drop
def xBl:=@List.mem_of_find?_eq_some
def xBm:=@Array.toArray_toList
def xBn:=@List.getElem?_of_mem
def xBo:=@Nat.sub_self
def xBp:=@Array.getElem?_replicate
def xBq:=@List.not_mem_nil
def xBr:=@Option.isSome_iff_exists
def xBs:=@List.eq_of_mem_replicate
def xBt:=@List.filter_eq_self
def xBu:=@List.filter_sublist
def xBv:=@List.takeWhile_append_dropWhile
def xBw:=@Bool.false_or
def xBx:=@Array.ext_getElem?
def xBy:=@List.set_cons_zero
def xBz:=@List.set_cons_succ
def xCa:=@Int.emod_nonneg
def xCb:=@Int.emod_lt_of_pos
def xCc:=@Bool.eq_iff_iff
def xCd:=@List.find?_cons
def xCe:=@List.sum_append
def xCf:=@List.any_eq_false
def xCg:=@List.take_left
def xCh:=@Int.mul_nonneg
namespace Cv
open Go
@[reducible] def Env:=Nat->ab
def put (ρ:Env):Option Nat->ab->Env
 |none,_=>ρ
 |some d,v=>λi=>bif cu i d then v else ρ i
def ev (ρ:Env):ap->ab
 | .tmp t=>ρ t
 | .const v=>v
 | .global g=> .pointer (ay ⟨g,0,az⟩)
 | .func f=> .func (.func f) #[] #[]
def uL {α:Type} (P:aa):Sem α->Option α
 | .pure a=>ay a
 | .program k=>uL P (k P)
 | .mark _ k=>uL P k
 |_=>az
def wP {α:Type} {P:aa}:∀{s:Sem α} {a:α},uL P s=ay a->∀w,s.run P w= .ok a w:=by
 intro s
 induction s with
 |pure a=>intro b h w;simp only[uL,cr]at h;subst h;rfl
 |program k ih=>intro b h w;simp only[uL]at h;exact ih _ h w
 |mark m k ih=>intro b h w;simp only[uL]at h;exact ih h w
 |_=>intro b h w;simp[uL]at h
def run_bind {α β:Type} (P:aa) (s:Sem α) (f:α->Sem β) (w:ac):(s.bind f).run P w=match s.run P w with| .ok a w'=>(f a).run P w'| .halt h w'=> .halt h w':=by
 induction s generalizing w with
 |pure a=>rfl
 |halt h=>rfl
 |load m a k ih=>simp only[be,bc];split<;>first|exact ih _ _|(split<;>first|exact ih _ _|rfl)
 |store m a v k ih=>
  cases v<;>simp only[be,bc]<;>first|rfl|(split<;>first|(split<;>first|exact ih _|rfl))
 |new o k ih=>exact ih _ _
 |shape r k ih=>exact ih _ _
 |freeze a n k ih=>exact ih _
 |frozen a k ih=>exact ih _ _
 |getObj r k ih=>simp only[be,bc];split<;>first|rfl|exact ih _ _
 |setObj r o k ih=>simp only[be,bc];split<;>first|rfl|exact ih _
 |choose q k ih=>simp only[be,bc];split<;>exact ih _ _
 |sys c k ih=>exact ih _ _
 |program k ih=>exact ih _ _
 |mark m k ih=>exact ih _
inductive Sh where
 |int (k:ag)|bool|str|ptr|sl|map|any
def yEd:ab->Sh
 | .int k _=> .int k
 | .bool _=> .bool
 | .string _=> .str
 | .pointer _=> .ptr
 | .slice _ _ _=> .sl
 | .map _=> .map
 |_=> .any
def exC:Sh->(ab->Prop)->Prop
 | .int k,K=>∃n:Int,K (.int k n)
 | .bool,K=>∃b:Bool,K (.bool b)
 | .str,K=>∃s:ByteArray,K (.string s)
 | .ptr,K=>∃a:Option am,K (.pointer a)
 | .sl,K=>∃(a:Option am) (n c:Nat),K (.slice a n c)
 | .map,K=>∃r:Option Nat,K (.map r)
 | .any,K=>∃v:ab,K v
def j6 {s:Sh} {K:ab->Prop} (h:exC s K):∃v,K v:=by
 cases s<;>simp only[exC]at h<;>first|(obtain⟨n,h⟩:=h;exact⟨_,h⟩)|(obtain⟨a,n,c,h⟩:=h;exact⟨_,h⟩)
def exL:List ab->(List ab->Prop)->Prop
 |[],K=>K []
 |z::zs,K=>exC (yEd z) λv=>exL zs λvs=>K (v::vs)
def z8o:∀{zs:List ab} {K:List ab->Prop},exL zs K->∃vs,K vs
 |[],_,h=>⟨_,h⟩
 |_::_,_,h=>let⟨_,h1⟩:=j6 h;let⟨_,h2⟩:=z8o h1;⟨_,h2⟩
structure Raw where
 i:Nat->Int
 b:Nat->Bool
 s:Nat->ByteArray
 p:Nat->Option am
 a:Nat->Option am
 n:Nat->Nat
 k:Nat->Nat
 m:Nat->Option Nat
 v:Nat->ab
def Raw.cell (r:Raw) (j:Nat):ab->ab
 | .int k _=> .int k (r.i j)
 | .bool _=> .bool (r.b j)
 | .string _=> .string (r.s j)
 | .pointer _=> .pointer (r.p j)
 | .slice _ _ _=> .slice (r.a j) (r.n j) (r.k j)
 | .map _=> .map (r.m j)
 |_=>r.v j
def y0m (r:Raw):List ab->Nat->List ab
 |[],_=>[]
 |z::zs,j=>r.cell j z::y0m r zs (j+1)
def y5s (z:ab) (r:Raw):ab:=
 match z with
 | .agg cs=> .agg (y0m r cs.toList 0).toArray
 |z=>z
def exV:ab->(ab->Prop)->Prop
 | .agg cs,K=>bif cx cs.size 9 then exL cs.toList λvs=>K (.agg vs.toArray)else ∃r:Raw,K (y5s (.agg cs) r)
 |z,K=>exC (yEd z) K
def wZ {z:ab} {K:ab->Prop} (h:exV z K):∃v,K v:=by
 cases z<;>simp only[exV]at h<;>first
  |exact j6 h
  |(revert h;cases cx _ 9<;>intro h
    ·obtain⟨r,h⟩:=h;exact⟨_,h⟩
    ·obtain⟨_,h⟩:=z8o h;exact⟨_,h⟩)
def yTd (P:aa) (t:ae):ab:=
 match P.info? t with
 |some i=>i.zero.getD ao
 |none=>ao
def exT (P:aa) (t:ae) (K:ab->Prop):Prop:=exV (yTd P t) K
def yYu (P:aa):List ae->(List ab->Prop)->Prop
 |[],K=>K []
 |t::ts,K=>exT P t λv=>yYu P ts λvs=>K (v::vs)
def zXh {P:aa}:∀{ts:List ae} {K:List ab->Prop},yYu P ts K->∃vs,K vs
 |[],_,h=>⟨_,h⟩
 |_::_,_,h=>let⟨_,h1⟩:=wZ h;let⟨_,h2⟩:=zXh h1;⟨_,h2⟩
def exR (P:aa) (t:ae) (K:ab->Prop):Prop:=
 match P.underlying t with
 |some (.tuple ts)=>yYu P ts.toList λvs=>K (.tuple vs.toArray)
 |_=>exT P t K
def z9y {P:aa} {t:ae} {K:ab->Prop} (h:exR P t K):∃v,K v:=by
 unfold exR at h;split at h
 ·obtain⟨_,h⟩:=zXh h;exact⟨_,h⟩
 ·exact wZ h
def u7 (P:aa) (t:ae):Option Nat:=
 match P.underlying t with
 |some (.slice e)=>(P.info? e).map λ(x:TypeInfo)=>x.size
 |_=>az
def bI (P:aa) (t:ae):Option (Nat×Nat):=
 match P.underlying t with
 |some (.array n e)=>(P.info? e).map λ(x:TypeInfo)=>(n,x.size)
 |_=>az
def zYq (p:Option am) (K:am->Prop):Prop:=
 match p with
 |some a=>K a
 |none=>False
def yUq (p:Option am) (n:Nat) (i:Int) (K:am->Prop):Prop:=
 match p with
 |some a=>(0<=i/\i<n)/\K a
 |none=>False
def yWb (s:ByteArray) (i:Int) (K:UInt8->Prop):Prop:=∃b:UInt8,(0<=i/\s[i.toNat]?=ay b)/\K b
def slN (p:Option am) (n c:Nat) (lo hi:Option Int) (sz:Nat) (K:Option am->Nat->Nat->Prop):Prop:=
 match lo,hi with
 |none,az=>(n<=c)/\K p n c
 |some l,az=>(0<=l/\l<=n/\n<=c)/\K (if c=l.toNat then p else p.map (·.add (l.toNat*sz))) (n-l.toNat) (c-l.toNat)
 |none,ay h=>(0<=h/\h<=c)/\K p h.toNat c
 |some l,ay h=>(0<=l/\l<=h/\h<=c)/\K (if c=l.toNat then p else p.map (·.add (l.toNat*sz))) (h.toNat-l.toNat) (c-l.toNat)
def yYf (p:Option am) (c:Nat) (l h m:Int) (sz:Nat) (K:Option am->Nat->Nat->Prop):Prop:=
 (0<=l/\l<=h/\h<=m/\m<=c)/\K (if m.toNat=l.toNat then p else p.map (·.add (l.toNat*sz))) (h.toNat-l.toNat) (m.toNat-l.toNat)
def ySd (s:ByteArray) (lo hi:Option Int) (K:ByteArray->Prop):Prop:=
 match lo,hi with
 |none,az=>K s
 |some l,az=>(0<=l/\l<=s.size)/\K (s.extract l.toNat s.size)
 |none,ay h=>(0<=h/\h<=s.size)/\K (s.extract 0 h.toNat)
 |some l,ay h=>(0<=l/\l<=h/\h<=s.size)/\K (s.extract l.toNat h.toNat)
def bnd (ρ:Env):Option ap->Option (Option Int)
 |none=>ay az
 |some x=>match ev ρ x with
  | .int _ n=>ay (ay n)
  |_=>az
def zKr (l h:Option (Option Int)) (K:Option Int->Option Int->Prop):Prop:=
 match l,h with
 |some l,ay h=>K l h
 |_,_=>False
def f9 (P:aa) (t:ae) (x:ab):Option Bool:=
 match P.underlying t,x with
 |some (.pointer _),.pointer p=>ay p.isNone
 |some (.slice _),.slice p _ _=>ay p.isNone
 |some (.map _ _),.map r=>ay r.isNone
 |_,_=>az
def y5u:ab->Bool
 | .pointer az=>bo
 | .slice az _ _=>bo
 | .map az=>bo
 |_=>bu
def yPl:ab->Bool
 | .pointer az=>bo
 |_=>bu
def z5u:ab->Bool
 | .slice az _ _=>bo
 |_=>bu
def yLs:ab->Bool
 | .map az=>bo
 |_=>bu
def zSs (P:aa) (s:Sem Next) (K:ab->Prop):Prop:=
 match uL P s with
 |some (.value v)=>K v
 |_=>False
def ySg (P:aa) (neg:Bool) (t:ae) (x y:ab) (K:Bool->Prop):Prop:=
 ∃b:Bool,uL P (Op.equal t x y)=ay b/\uL P (ak (if neg then .neq else .eql) t (.tmp 0) (.tmp 0) x y)=ay ()/\
  (match y with| .agg _=>bo|_=>bu)=bo/\K (if neg then !b else b)
def z4r (o:Option Bool) (K:Bool->Prop):Prop:=
 match o with
 |some r=>K r
 |none=>False
def pQ {o:Option Bool} {K:Bool->Prop} (h:z4r o K):∃r,o=ay r/\K r:=by
 cases o with
 |none=>exact h.elim
 |some r=>exact⟨r,rfl,h⟩
def yZm (k k':ag) (b:Int) (A:Prop):Prop:=k=k'/\b≠0/\A
def shN (b:Int) (A:Prop):Prop:=0<=b/\A
def y4s (a b:ByteArray) (A:Prop):Prop:=(((a.size+b.size:Nat):Int)<=de.max)/\A
def eqK (k k':ag) (A:Prop):Prop:=
 match k,k' with
 | .i8,.i8=>A
 | .i16,.i16=>A
 | .i32,.i32=>A
 | .i64,.i64=>A
 | .u8,.u8=>A
 | .u16,.u16=>A
 | .u32,.u32=>A
 | .u64,.u64=>A
 |_,_=>False
def zLj {k k':ag} {A:Prop} (h:eqK k k' A):k=k'/\A:=by
 cases k<;>cases k'<;>first|exact⟨rfl,h⟩|exact h.elim
def zYj (k:ag) (a b:Int):Int:=k.wrap (a*2 ^ (min b.toNat k.bits))
def mJ (k:ag) (a b:Int):Int:=a.fdiv (2 ^ (min b.toNat k.bits))
def zCj (k:ag) (a b:Int):Int:=k.wrap ((cz k.bits a &&& cz k.bits b).toNat:Int)
def iOr (k:ag) (a b:Int):Int:=k.wrap ((cz k.bits a|||BitVec.ofInt k.bits b).toNat:Int)
def zDl (k:ag) (a b:Int):Int:=k.wrap ((cz k.bits a ^^^ cz k.bits b).toNat:Int)
def zEb (k:ag) (a b:Int):Int:=k.wrap ((cz k.bits a &&& ~~~ cz k.bits b).toNat:Int)
def dM (P:aa) (o:aj) (ρ:Env) (K:ab->Prop):Prop:=
 match o.op with
 | .move x=>K (ev ρ x)
 | .assign x=>K (ev ρ x)
 | .pick c a b=>
   match ev ρ c with
   | .bool t=>K (bif t then ev ρ a else ev ρ b)
   |_=>False
 | .nilCheck x=>
   match ev ρ x with
   | .pointer p=>zYq p λa=>K (.pointer (ay a))
   |_=>zSs P (af (ev ρ) o) K
 | .indexAddr t x i=>
   match ev ρ x,ev ρ i with
   | .slice p n _,.int _ i=>match u7 P t with
     |some sz=>yUq p n i λa=>K (.pointer (ay (a.add (i.toNat*sz))))
     |none=>False
   | .pointer p,.int _ i=>match bI P t with
     |some (len,sz)=>yUq p len i λa=>K (.pointer (ay (a.add (i.toNat*sz))))
     |none=>False
   |_,_=>False
 | .index t x i=>
   match ev ρ x,ev ρ i with
   | .string s,.int _ i=>match P.underlying t with
     |some .string=>yWb s i λb=>K (.int .u8 b.toNat)
     |_=>False
   |x,j=>match i with
    | .const _=>zSs P (af (ev ρ) o) K
    |_=>exT P o.type λv=>uL P (Instr.index t x j)=ay v/\K v
 | .panic _=>False
 | .typeAssert x xT asserted ok=>
   match ok with
   |true=>exT P asserted λv=>exC .bool λb=>uL P (cq (ev ρ x) xT asserted bo)=ay (.tuple #[v,b])/\K (.tuple #[v,b])
   |false=>exT P asserted λv=>uL P (cq (ev ρ x) xT asserted bu)=ay v/\K v
 | .slice t x lo hi mx=>
   match ev ρ x,mx with
   | .slice p _ c,ay m=>match u7 P t,bnd ρ lo,bnd ρ hi,ev ρ m with
     |some sz,ay (ay l),ay (ay h),.int _ m=>yYf p c l h m sz λp n c=>K (.slice p n c)
     |_,_,_,_=>False
   | .slice p n c,az=>match u7 P t with
     |some sz=>zKr (bnd ρ lo) (bnd ρ hi) λl h=>slN p n c l h sz λp n c=>K (.slice p n c)
     |none=>False
   | .string s,az=>match P.underlying t with
     |some .string=>zKr (bnd ρ lo) (bnd ρ hi) λl h=>ySd s l h λs=>K (.string s)
     |_=>False
   | .pointer p,az=>match bI P t with
     |some (n,sz)=>zYq p λa=>zKr (bnd ρ lo) (bnd ρ hi) λl h=>slN (ay a) n n l h sz λp n c=>K (.slice p n c)
     |none=>False
   |_,_=>False
 | .binOp op t x y _=>
   match op,ev ρ x,ev ρ y with
   | .quo,.int k a,.int k' b=>yZm k k' b (K (.int k (k.wrap (a.tdiv b))))
   | .rem,.int k a,.int k' b=>yZm k k' b (K (.int k (a.tmod b)))
   | .shl,.int k a,.int _ b=>shN b (K (.int k (zYj k a b)))
   | .shr,.int k a,.int _ b=>shN b (K (.int k (mJ k a b)))
   | .and,.int k a,.int k' b=>eqK k k' (K (.int k (zCj k a b)))
   | .or,.int k a,.int k' b=>eqK k k' (K (.int k (iOr k a b)))
   | .xor,.int k a,.int k' b=>eqK k k' (K (.int k (zDl k a b)))
   | .andNot,.int k a,.int k' b=>eqK k k' (K (.int k (zEb k a b)))
   | .add,.string a,.string b=>y4s a b (K (.string (a++b)))
   | .eql,.pointer p,b=>bif yPl b then(z4r (f9 P t (.pointer p)) λr=>K (.bool r))else False
   | .neq,.pointer p,b=>bif yPl b then(z4r (f9 P t (.pointer p)) λr=>K (.bool !r))else False
   | .eql,.slice p n c,b=>bif z5u b then(z4r (f9 P t (.slice p n c)) λr=>K (.bool r))else False
   | .neq,.slice p n c,b=>bif z5u b then(z4r (f9 P t (.slice p n c)) λr=>K (.bool !r))else False
   | .eql,.map r,b=>bif yLs b then(z4r (f9 P t (.map r)) λr=>K (.bool r))else False
   | .neq,.map r,b=>bif yLs b then(z4r (f9 P t (.map r)) λr=>K (.bool !r))else False
   | .eql,.agg a,b=>ySg P bu t (.agg a) b λr=>K (.bool r)
   | .neq,.agg a,b=>ySg P bo t (.agg a) b λr=>K (.bool r)
   |_,_,_=>zSs P (af (ev ρ) o) K
 |_=>zSs P (af (ev ρ) o) K
def zQf (P:aa) (s:Sem Next) (v:ab):Prop:=∀w,s.run P w=.ok (.value v) w
def cD {P:aa} {s:Sem Next} {K:ab->Prop} (h:zSs P s K):∃v,K v/\zQf P s v:=by
 unfold zSs at h;split at h
 ·rename_i v hv;exact⟨v,h,wP hv⟩
 ·exact h.elim
def Addr.add_zero (a:am):a.add 0=a:=by simp[Addr.add]
def rC (p:Option am):p.map (·.add 0)=p:=by cases p<;>simp[Addr.add_zero]
def yB {P:aa} {s:Sem ab} {v:ab} (h:∀w,s.run P w= .ok v w):zQf P (do pure (Next.value (<- s))) v:=by
 intro w;show(s.bind λa=> .pure (Next.value a)).run P w=_;rw[run_bind,h w];rfl
def eQ {P:aa} {t:ae} {sz:Nat} (h:u7 P t=ay sz):∃e i,P.underlying t=ay (.slice e)/\P.info? e=ay i/\i.size=sz:=by
 unfold u7 at h;split at h
 ·rename_i e he;cases hi:P.info? e with
  |none=>simp[hi]at h
  |some i=>simp[hi]at h;exact⟨e,i,he,hi,h⟩
 ·cases h
def zGj {P:aa} {t:ae} {n sz:Nat} (h:bI P t=ay (n,sz)):∃e i,P.underlying t=ay (.array n e)/\P.info? e=ay i/\i.size=sz:=by
 unfold bI at h;split at h
 ·rename_i m e he;cases hi:P.info? e with
  |none=>simp[hi]at h
  |some i=>simp[hi]at h;obtain⟨rfl,h⟩:=h;exact⟨e,i,he,hi,h⟩
 ·cases h
def run_underlying {P:aa} {t:ae} {d:TypeDesc} (h:P.underlying t=ay d) (w:ac):(underlying t).run P w= .ok d w:=by
 show ((Sem.program Sem.pure).bind λp => match p.underlying t with | some d => Sem.pure d | none => stuck "no such type").run P w = _;simp only[be,bc,h]
def run_sizeOf {P:aa} {t:ae} {i:TypeInfo} (h:P.info? t=ay i) (w:ac):(Go.sizeOf t).run P w= .ok i.size w:=by
 have hti:(typeInfo t).run P w= .ok i w:=by
  unfold typeInfo;show((Sem.program bg).bind _).run P w=_;simp only[be,bc,h];rfl
 show((typeInfo t).bind λi=>bg i.size).run P w=_;rw[run_bind,hti];rfl
def jM {P:aa} {t:ae} {sz n c:Nat} {a:am} {k:ag} {i:Int} (h:u7 P t=ay sz) (hi:0<=i/\i<n) (w:ac):
 (Instr.indexAt t (.slice (ay a) n c) (.int k i)).run P w= .ok (.pointer (ay (a.add (i.toNat*sz)))) w:=by
 obtain⟨e,ti,h1,h2,rfl⟩:=eQ h;simp only[Instr.indexAt,asIntOf,bind,pure,run_bind,be,bc,run_underlying h1,y6a hi,run_sizeOf h2]
def fY {P:aa} {t:ae} {sz n:Nat} {a:am} {k:ag} {i:Int} (h:bI P t=ay (n,sz)) (hi:0<=i/\i<n) (w:ac):
 (Instr.indexAt t (.pointer (ay a)) (.int k i)).run P w= .ok (.pointer (ay (a.add (i.toNat*sz)))) w:=by
 obtain⟨e,ti,h1,h2,rfl⟩:=zGj h;simp only[Instr.indexAt,asIntOf,Instr.sureAddr,bind,pure,run_bind,be,bc,run_underlying h1,y6a hi,run_sizeOf h2]
def k0 {P:aa} {k:ag} {i:Int} {y:Nat} {code:BoundsCode} (h:0<=i/\i<=y) (w:ac):(Instr.sliceBound (.int k i) y code).run P w= .ok i.toNat w:=by
 simp only[Instr.sliceBound,asIntOf,bind,pure,be,bc,y6a h]
def zFx {ρ:Env} {x:Option ap} {r:Option Int} (h:bnd ρ x=ay r):(x=az/\r=az)\/∃y k n,x=ay y/\ev ρ y= .int k n/\r=ay n:=by
 unfold bnd at h;split at h
 ·left;exact⟨rfl,by simpa using h.symm⟩
 ·rename_i y;right;split at h
  ·rename_i k n hv;exact⟨y,k,n,rfl,hv,by simpa using h.symm⟩
  ·cases h
def pD {l h:Option (Option Int)} {K:Option Int->Option Int->Prop} (hh:zKr l h K):∃a b,l=ay a/\h=ay b/\K a b:=by
 unfold zKr at hh;split at hh
 ·rename_i a b;exact⟨a,b,rfl,rfl,hh⟩
 ·exact hh.elim
def zDb {P:aa} {ρ:Env} {lo hi:Option ap} {l h:Option Int} (isSlice:Bool) {len cap:Nat} (h1:bnd ρ lo=ay l) (h2:bnd ρ hi=ay h)
 (hlen:h=az->len<=cap) (hh:∀x,h=ay x->0<=x/\x<=cap) (hl:∀x,l=ay x->0<=x/\x<=((h.map cy).getD len:Nat)) (w:ac):
 (co isSlice len cap (lo.map (ev ρ)) (hi.map (ev ρ)) az).run P w= .ok ((l.map cy).getD 0,(h.map cy).getD len,cap) w:=by
 rcases zFx h1 with⟨rfl,rfl⟩|⟨x,k,n,rfl,hx,rfl⟩<;>rcases zFx h2 with⟨rfl,rfl⟩|⟨y,k',m,rfl,hy,rfl⟩
 ·simp only[co,xBh,bind,pure,be,bc,run_bind,Option.getD_none]
 ·have:=hh m rfl;simp only[co,xBh,y8b,hy,bind,pure,be,bc,run_bind,Option.getD_none,k0 this,y8k]
 ·have h3:=hl n rfl;simp only[xBh,Option.getD_none]at h3;simp only[co,xBh,y8b,hx,bind,pure,be,bc,run_bind,Option.getD_none,k0 h3,y8k]
 ·have h3:=hl n rfl;have h4:=hh m rfl;simp only[y8b,y8k]at h3;simp only[co,y8b,hx,hy,bind,pure,be,bc,run_bind,k0 h3,k0 h4,y8k]
def z9w {p:Option am} {n c:Nat} {l h:Option Int} {sz:Nat} {K:Option am->Nat->Nat->Prop} (hk:slN p n c l h sz K):
 (h=az->n<=c)/\(∀x,h=ay x->0<=x/\x<=c)/\(∀x,l=ay x->0<=x/\x<=((h.map cy).getD n:Nat))/\
 K (if c=(l.map cy).getD 0 then p else p.map (·.add ((l.map cy).getD 0*sz))) ((h.map cy).getD n-(l.map cy).getD 0) (c-(l.map cy).getD 0):=by
 unfold slN at hk;split at hk
 ·refine⟨λ_=>hk.1,by simp,by simp,?_⟩;simpa[rC]using hk.2
 ·refine⟨λ_=>hk.1.2.2,by simp,?_,by simpa using hk.2⟩;intro x hx;cases hx;simp;omega
 ·refine⟨by simp,?_,by simp,by simpa[rC]using hk.2⟩;intro x hx;cases hx;omega
 ·refine⟨by simp,?_,?_,by simpa using hk.2⟩
  ·intro x hx;cases hx;omega
  ·intro x hx;cases hx;simp;omega
def z3p {P:aa} {ρ:Env} {t:ae} {x:ap} {lo hi:Option ap} {o:aj} {K:ab->Prop} (ho:o.op= .slice t x lo hi az)
 (h:dM P o ρ K):∃v,K v/\zQf P (af (ev ρ) o) v:=by
 simp only[dM,ho]at h;split at h
 ·rename_i heq;cases heq
 ·rename_i p n c hx _;split at h
  ·rename_i sz hsz;obtain⟨l,u,h1,h2,h3⟩:=pD h;obtain⟨q1,q2,q3,q4⟩:=z9w h3;obtain⟨e,ti,e1,e2,rfl⟩:=eQ hsz;refine⟨_,q4,?_⟩;simp only[af,ho];refine yB λw=> ?_
   simp only[Instr.sliceAt,Instr.slice,hx,bind,pure,be,bc,run_bind,run_underlying e1,xBh,zDb bo h1 h2 q1 q2 q3,run_sizeOf e2]
  ·exact h.elim
 ·rename_i s hx _;split at h
  ·rename_i ht;obtain⟨l,u,h1,h2,h3⟩:=pD h;have q:(∀x,u=ay x->0<=x/\x<=s.size)/\(∀x,l=ay x->0<=x/\x<=((u.map cy).getD s.size:Nat))/\K (.string (s.extract ((l.map cy).getD 0) ((u.map cy).getD s.size))):=by
    unfold ySd at h3;split at h3
    ·refine⟨by simp,by simp,?_⟩;have:s.extract 0 s.size=s:=by simp
     simpa[this]using h3
    ·refine⟨by simp,?_,by simpa using h3.2⟩;intro x hx;cases hx;simp;omega
    ·refine⟨?_,by simp,by simpa using h3.2⟩;intro x hx;cases hx;omega
    ·refine⟨?_,?_,by simpa using h3.2⟩
     ·intro x hx;cases hx;omega
     ·intro x hx;cases hx;simp;omega
   obtain⟨q2,q3,q4⟩:=q;refine⟨_,q4,?_⟩;simp only[af,ho];refine yB λw=> ?_
   simp only[Instr.sliceAt,Instr.slice,hx,bind,pure,be,bc,run_bind,run_underlying ht,xBh,Option.isSome_none,y6s,if_false,zDb bu h1 h2 (λ_=>y6v _) q2 q3]
  ·exact h.elim
 ·rename_i p hx _;split at h
  ·rename_i n sz hsz;unfold zYq at h;split at h
   ·rename_i a;obtain⟨l,u,h1,h2,h3⟩:=pD h;obtain⟨q1,q2,q3,q4⟩:=z9w h3;obtain⟨e,ti,e1,e2,rfl⟩:=zGj hsz;refine⟨_,q4,?_⟩;simp only[af,ho];refine yB λw=> ?_
    simp only[Instr.sliceAt,Instr.sureAddr,hx,bind,pure,be,bc,run_bind,run_underlying e1,xBh,zDb bu h1 h2 q1 q2 q3,run_sizeOf e2];split<;>simp
   ·exact h.elim
  ·exact h.elim
 ·exact h.elim
def b9 (t:ae) (x y:ab):Op.equal t x y=Op.equalIn (9999+1) t x y:=rfl
def cF {P:aa} {t:ae} {p:Option am} {r:Bool} (h:f9 P t (.pointer p)=ay r) (w:ac):(Op.equal t (.pointer p) (.pointer az)).run P w= .ok r w:=by
 have hu:r=p.isNone/\∃d,P.underlying t=ay d/\(match d with| .pointer _=>True|_=>False):=by
  unfold f9 at h;cases hd:P.underlying t with
  |none=>simp[hd]at h
  |some d=>cases d<;>simp[hd]at h;exact⟨h.symm,_,rfl,trivial⟩
 obtain⟨rfl,d,hd,hm⟩:=hu;cases d<;>first|exact hm.elim|skip
 rw[b9];generalize 9999=d;unfold Op.equalIn;simp only[bind,pure,run_bind,run_underlying hd];cases p<;>rfl
def gI {P:aa} {t:ae} {p:Option am} {n c m k:Nat} {r:Bool} (h:f9 P t (.slice p n c)=ay r) (w:ac):(Op.equal t (.slice p n c) (.slice az m k)).run P w= .ok r w:=by
 have hu:r=p.isNone/\∃d,P.underlying t=ay d/\(match d with| .slice _=>True|_=>False):=by
  unfold f9 at h;cases hd:P.underlying t with
  |none=>simp[hd]at h
  |some d=>cases d<;>simp[hd]at h;exact⟨h.symm,_,rfl,trivial⟩
 obtain⟨rfl,d,hd,hm⟩:=hu;cases d<;>first|exact hm.elim|skip
 rw[b9];generalize 9999=d;unfold Op.equalIn;simp only[bind,pure,run_bind,run_underlying hd];cases p<;>rfl
def cE {P:aa} {t:ae} {p:Option Nat} {r:Bool} (h:f9 P t (.map p)=ay r) (w:ac):(Op.equal t (.map p) (.map az)).run P w= .ok r w:=by
 have hu:r=p.isNone/\∃d,P.underlying t=ay d/\(match d with| .map _ _=>True|_=>False):=by
  unfold f9 at h;cases hd:P.underlying t with
  |none=>simp[hd]at h
  |some d=>cases d<;>simp[hd]at h;exact⟨h.symm,_,rfl,trivial⟩
 obtain⟨rfl,d,hd,hm⟩:=hu;cases d<;>first|exact hm.elim|skip
 rw[b9];generalize 9999=d;unfold Op.equalIn;simp only[bind,pure,run_bind,run_underlying hd];cases p<;>rfl
def pH {p:Option am} {K:am->Prop} (h:zYq p K):∃a,p=ay a/\K a:=by
 cases p with
 |none=>exact h.elim
 |some a=>exact⟨a,rfl,h⟩
def z0q {p:Option am} {n:Nat} {i:Int} {K:am->Prop} (h:yUq p n i K):∃a,p=ay a/\(0<=i/\i<n)/\K a:=by
 cases p with
 |none=>exact h.elim
 |some a=>exact⟨a,rfl,h⟩
def xM {P:aa} {o:aj} {ρ:Env} {neg:Bool} {t:ae} {x y:ap} {u:ae} {r:Bool} (ho:o.op= .binOp (if neg then .neq else .eql) t x y u)
 (hx:match ev ρ x with| .pointer _=>True| .slice _ _ _=>True| .map _=>True| .agg _=>True|_=>False)
 (hy:match ev ρ y with| .pointer _=>True| .slice _ _ _=>True| .map _=>True| .agg _=>True|_=>False)
 (hg:∀w,(ak (if neg then .neq else .eql) t x y (ev ρ x) (ev ρ y)).run P w= .ok () w)
 (he:∀w,(Op.equal t (ev ρ x) (ev ρ y)).run P w= .ok r w):zQf P (af (ev ρ) o) (.bool (if neg then !r else r)):=by
 simp only[af,ho];refine yB λw=> ?_
 simp only[bind,run_bind,hg w];generalize ev ρ x=a at*;generalize ev ρ y=b at*;cases neg<;>cases a<;>(first|exact hx.elim|skip)<;>cases b<;>(first|exact hy.elim|skip)<;>simp only[binOp,y6s,if_false,if_true,bind,pure,run_bind,he w,bc]
def zKk {P:aa} {op:BinOp} {t:ae} {x y x' y':ap} {a b:ab} (ha:a≠.nilIface) (w:ac):
 (ak op t x y a b).run P w=(ak op t x' y' a b).run P w:=by
 cases a<;>first|exact(ha rfl).elim|skip
 all_goals cases op<;>first|rfl|(cases b<;>rfl)
def y6 {P:aa} {op:BinOp} {t:ae} {x y:ap} {a b:ab} (ha:match a with| .pointer _=>True| .slice _ _ _=>True| .map _=>True|_=>False) (w:ac):
 (ak op t x y a b).run P w= .ok () w:=by
 cases a<;>first|exact ha.elim|(cases op<;>rfl)
def z9t {y:ab} (h:yPl y=bo):y= .pointer az:=by
 cases y<;>simp[yPl]at h
 rename_i a;cases a<;>simp at h ⊢
def z9m {y:ab} (h:z5u y=bo):∃n c,y= .slice az n c:=by
 cases y<;>simp[z5u]at h
 rename_i a n c;cases a<;>simp at h ⊢
def z8p {y:ab} (h:yLs y=bo):y= .map az:=by
 cases y<;>simp[yLs]at h
 rename_i a;cases a<;>simp at h ⊢
def zL {b:Bool} {A:Prop} (h:bif b then A else False):b=bo/\A:=by
 cases b
 ·exact h.elim
 ·exact⟨rfl,h⟩
def yDq {P:aa} {ρ:Env} {op:BinOp} {t u:ae} {x y:ap} {o:aj} {K:ab->Prop} (ho:o.op= .binOp op t x y u)
 (h:dM P o ρ K):∃v,K v/\zQf P (af (ev ρ) o) v:=by
 simp only[dM,ho]at h;split at h
 ·rename_i k a k' b hx hy;obtain⟨rfl,hb,h⟩:=h;refine⟨_,h,?_⟩;simp only[af,ho];refine yB λw=> ?_
  simp[hx,hy,ak,binOp,Op.intDiv,hb,bind,pure,be,bc]
 ·rename_i k a k' b hx hy;obtain⟨rfl,hb,h⟩:=h;refine⟨_,h,?_⟩;simp only[af,ho];refine yB λw=> ?_
  simp[hx,hy,ak,binOp,Op.intDiv,hb,bind,pure,be,bc]
 ·rename_i k a k' b hx hy;obtain⟨hb,h⟩:=h;refine⟨_,h,?_⟩;simp only[af,ho];refine yB λw=> ?_
  simp[hx,hy,ak,binOp,Op.shift,Int.not_lt.2 hb,bind,pure,be,bc,zYj,mJ]
 ·rename_i k a k' b hx hy;obtain⟨hb,h⟩:=h;refine⟨_,h,?_⟩;simp only[af,ho];refine yB λw=> ?_
  simp[hx,hy,ak,binOp,Op.shift,Int.not_lt.2 hb,bind,pure,be,bc,zYj,mJ]
 ·rename_i k a k' b hx hy;obtain⟨hk,h'⟩:=zLj h;subst hk;refine⟨_,h',?_⟩;simp only[af,ho];refine yB λw=> ?_
  simp[hx,hy,ak,binOp,Op.intBits,bind,pure,be,bc,zCj,iOr,zDl,zEb]
 ·rename_i k a k' b hx hy;obtain⟨hk,h'⟩:=zLj h;subst hk;refine⟨_,h',?_⟩;simp only[af,ho];refine yB λw=> ?_
  simp[hx,hy,ak,binOp,Op.intBits,bind,pure,be,bc,zCj,iOr,zDl,zEb]
 ·rename_i k a k' b hx hy;obtain⟨hk,h'⟩:=zLj h;subst hk;refine⟨_,h',?_⟩;simp only[af,ho];refine yB λw=> ?_
  simp[hx,hy,ak,binOp,Op.intBits,bind,pure,be,bc,zCj,iOr,zDl,zEb]
 ·rename_i k a k' b hx hy;obtain⟨hk,h'⟩:=zLj h;subst hk;refine⟨_,h',?_⟩;simp only[af,ho];refine yB λw=> ?_
  simp[hx,hy,ak,binOp,Op.intBits,bind,pure,be,bc,zCj,iOr,zDl,zEb]
 ·rename_i a b hx hy;obtain⟨hb,h⟩:=h;refine⟨_,h,?_⟩;simp only[af,ho];refine yB λw=> ?_
  have hb':¬(((a.size+b.size:Nat):Int)>de.max):=Int.not_lt.2 hb;simp only[hx,hy,ak,binOp,Op.stringOp,y5x hb',bind,pure,be,bc];rfl
 ·rename_i p hx;generalize hy:ev ρ y=b at h;obtain⟨hn,h⟩:=zL h;obtain⟨r,hr,h⟩:=pQ h;have hb:=z9t hn;refine⟨_,h,?_⟩;exact xM (neg:=bu) ho (by simp[hx]) (by simp[hy,hb]) (λw=>by rw[hx];exact y6 trivial w) (λw=>by rw[hx,hy,hb];exact cF hr w)
 ·rename_i p hx;generalize hy:ev ρ y=b at h;obtain⟨hn,h⟩:=zL h;obtain⟨r,hr,h⟩:=pQ h;have hb:=z9t hn;refine⟨_,h,?_⟩;exact xM (neg:=bo) ho (by simp[hx]) (by simp[hy,hb]) (λw=>by rw[hx];exact y6 trivial w) (λw=>by rw[hx,hy,hb];exact cF hr w)
 ·rename_i p n c hx;generalize hy:ev ρ y=b at h;obtain⟨hn,h⟩:=zL h;obtain⟨r,hr,h⟩:=pQ h;obtain⟨m,d,hb⟩:=z9m hn;refine⟨_,h,?_⟩;exact xM (neg:=bu) ho (by simp[hx]) (by simp[hy,hb]) (λw=>by rw[hx];exact y6 trivial w) (λw=>by rw[hx,hy,hb];exact gI hr w)
 ·rename_i p n c hx;generalize hy:ev ρ y=b at h;obtain⟨hn,h⟩:=zL h;obtain⟨r,hr,h⟩:=pQ h;obtain⟨m,d,hb⟩:=z9m hn;refine⟨_,h,?_⟩;exact xM (neg:=bo) ho (by simp[hx]) (by simp[hy,hb]) (λw=>by rw[hx];exact y6 trivial w) (λw=>by rw[hx,hy,hb];exact gI hr w)
 ·rename_i p hx;generalize hy:ev ρ y=b at h;obtain⟨hn,h⟩:=zL h;obtain⟨r,hr,h⟩:=pQ h;have hb:=z8p hn;refine⟨_,h,?_⟩;exact xM (neg:=bu) ho (by simp[hx]) (by simp[hy,hb]) (λw=>by rw[hx];exact y6 trivial w) (λw=>by rw[hx,hy,hb];exact cE hr w)
 ·rename_i p hx;generalize hy:ev ρ y=b at h;obtain⟨hn,h⟩:=zL h;obtain⟨r,hr,h⟩:=pQ h;have hb:=z8p hn;refine⟨_,h,?_⟩;exact xM (neg:=bo) ho (by simp[hx]) (by simp[hy,hb]) (λw=>by rw[hx];exact y6 trivial w) (λw=>by rw[hx,hy,hb];exact cE hr w)
 ·rename_i a hx;generalize hy:ev ρ y=b at h;obtain⟨r,h1,h2,h3,h⟩:=h;refine⟨_,h,?_⟩;obtain⟨c,rfl⟩:∃c,b= .agg c:=by cases b<;>first|exact⟨_,rfl⟩|(simp at h3)
  exact xM (neg:=bu) ho (by simp[hx]) (by simp[hy]) (λw=>by rw[hx,hy];exact(zKk (by simp) w).trans (wP h2 w)) (λw=>by rw[hx,hy];exact wP h1 w)
 ·rename_i a hx;generalize hy:ev ρ y=b at h;obtain⟨r,h1,h2,h3,h⟩:=h;refine⟨_,h,?_⟩;obtain⟨c,rfl⟩:∃c,b= .agg c:=by cases b<;>first|exact⟨_,rfl⟩|(simp at h3)
  exact xM (neg:=bo) ho (by simp[hx]) (by simp[hy]) (λw=>by rw[hx,hy];exact(zKk (by simp) w).trans (wP h2 w)) (λw=>by rw[hx,hy];exact wP h1 w)
 ·exact cD h
def gK {P:aa} {ρ:Env} {o:aj} {K:ab->Prop} (h:dM P o ρ K):∃v,K v/\zQf P (af (ev ρ) o) v:=by
 cases ho:o.op
 case move x=>simp only[dM,ho]at h;exact⟨_,h,λw=>by simp only[af,ho];rfl⟩
 case assign x=>simp only[dM,ho]at h;exact⟨_,h,λw=>by simp only[af,ho];rfl⟩
 case pick c a b=>
  simp only[dM,ho]at h;split at h
  ·rename_i t hc;refine⟨_,h,λw=> ?_⟩;simp only[af,ho,hc,asBool,bind,pure,be,bc];cases t<;>rfl
  ·exact h.elim
 case nilCheck x=>
  simp only[dM,ho]at h;split at h
  ·rename_i p hx;obtain⟨a,rfl,h⟩:=pH h;exact⟨_,h,λw=>by simp only[af,ho,hx];rfl⟩
  ·exact cD h
 case indexAddr t x i=>
  simp only[dM,ho]at h;split at h
  ·rename_i p n c k i hx hi;split at h
   ·rename_i sz hsz;obtain⟨a,rfl,hb,h⟩:=z0q h;refine⟨_,h,?_⟩;simp only[af,ho];refine yB λw=> ?_
    rw[hx,hi];exact jM hsz hb w
   ·exact h.elim
  ·rename_i p k i hx hi;split at h
   ·rename_i n sz hsz;obtain⟨a,rfl,hb,h⟩:=z0q h;refine⟨_,h,?_⟩;simp only[af,ho];refine yB λw=> ?_
    rw[hx,hi];exact fY hsz hb w
   ·exact h.elim
  ·exact h.elim
 case index t x i=>
  simp only[dM,ho]at h;split at h
  ·rename_i s k i hx hi;split at h
   ·rename_i ht;obtain⟨b,⟨h0,h1⟩,h⟩:=h;refine⟨_,h,?_⟩;simp only[af,ho];refine yB λw=> ?_
    simp only[Instr.index,hx,hi,asIntOf,bind,pure,be,bc,run_bind,run_underlying ht,y6a h0,h1]
   ·exact h.elim
  ·split at h
   ·exact cD h
   ·obtain⟨v,hv,h⟩:=wZ h;refine⟨v,h,?_⟩;simp only[af,ho];exact yB (wP hv)
 case typeAssert x xT asserted ok=>
  cases ok
  ·simp only[dM,ho]at h;obtain⟨v,hv,h⟩:=wZ h;refine⟨v,h,?_⟩;simp only[af,ho];exact yB (wP hv)
  ·simp only[dM,ho]at h;obtain⟨v,h⟩:=wZ h;obtain⟨b,hv,h⟩:=j6 h;refine⟨_,h,?_⟩;simp only[af,ho];exact yB (wP hv)
 case slice t x lo hi mx=>
  cases mx with
  |none=>exact z3p ho h
  |some m=>
   simp only[dM,ho]at h;split at h<;>first|exact h.elim|contradiction|skip
   rename_i p n c m' hx hm;cases hm;split at h<;>first|exact h.elim|skip
   rename_i sz l u k m' hsz h1 h2 hm;obtain⟨⟨q1,q2,q3,q4⟩,h⟩:=h;obtain⟨e,ti,e1,e2,rfl⟩:=eQ hsz;rcases zFx h1 with⟨_,h1⟩|⟨y,ky,ny,rfl,hy,h1⟩
   ·cases h1
   cases h1;rcases zFx h2 with⟨_,h2⟩|⟨z,kz,nz,rfl,hz,h2⟩
   ·cases h2
   cases h2;refine⟨_,h,?_⟩;simp only[af,ho];refine yB λw=> ?_
   have b1:(0:Int)<=m'/\m'<=(c:Nat):=by omega
   have b2:0<=u/\u<=(m'.toNat:Nat):=by omega
   have b3:0<=l/\l<=(u.toNat:Nat):=by omega
   simp only[Instr.sliceAt,Instr.slice,co,hx,hm,hy,hz,y8b,bind,pure,be,bc,run_bind,run_underlying e1,k0 b1,k0 b2,k0 b3,run_sizeOf e2]
 case binOp op t x y u=>exact yDq ho h
 case panic x=>simp only[dM,ho]at h
 all_goals(simp only[dM,ho]at h;exact cD h)
def dH (P:aa) (s:Sem ab) (w:ac) (v:ab):Prop:=s.run P w=.ok v w
def u9 (P:aa) (s:Sem ab) (w:ac) (v:ab) (w':ac):Prop:=s.run P w=.ok v w'
def zBn (P:aa) (s:Sem Unit) (w:ac) (w':ac):Prop:=s.run P w=.ok () w'
def mY (P:aa) (t:ae) (a:am) (w:ac) (v:ab):Prop:=(loadVar t a).run P w=.ok v w
def z6v (P:aa) (t:ae):Option ae:=
 match P.underlying t with
 |some (.map _ e)=>ay e
 |_=>az
def tQ (P:aa) (o:aj) (ρ:Env) (w:ac) (K:ab->Prop):Prop:=
 match o.op with
 | .load t x=>
   match ev ρ x with
   | .pointer p=>zYq p λa=>exT P t λv=>mY P t a w v/\K v
   |_=>False
 | .lookup t m k ok=>
   match z6v P t with
   |some e=>exT P e λv=>exC .bool λb=>dH P (cp t (ev ρ m) (ev ρ k) bo) w (.tuple #[v,b])/\K (bif ok then .tuple #[v,b]else v)
   |none=>False
 | .convert s d x=>exT P d λv=>dH P (ax s d (ev ρ x)) w v/\K v
 | .binOp op t x y _=>
   match op with
   | .eql=>exC .bool λv=>dH P (binOp .eql t (ev ρ x) (ev ρ y)) w v/\(ak .eql t x y (ev ρ x) (ev ρ y)).run P w=.ok () w/\K v
   | .neq=>exC .bool λv=>dH P (binOp .neq t (ev ρ x) (ev ρ y)) w v/\(ak .neq t x y (ev ρ x) (ev ρ y)).run P w=.ok () w/\K v
   |_=>False
 | .call {callee:= .builtin .len,args,argTypes}=>exC (.int .i64) λv=>dH P (cf argTypes o.type (args.map (ev ρ))) w v/\K v
 | .entry x=>∃v,dH P (Instr.entry (ev ρ x)) w v/\K v
 |_=>False
def yF {P:aa} {s:Sem ab} {v:ab} {w:ac} (h:s.run P w= .ok v w):((do pure (Next.value (<- s)):Sem Next)).run P w= .ok (.value v) w:=by
 show(s.bind λa=> .pure (Next.value a)).run P w=_;rw[run_bind,h];rfl
def z5j {P:aa} {s:Sem ab} {v:ab} {w w':ac} (h:s.run P w= .ok v w'):((do pure (Next.value (<- s)):Sem Next)).run P w= .ok (.value v) w':=by
 show(s.bind λa=> .pure (Next.value a)).run P w=_;rw[run_bind,h];rfl
def yCs {P:aa} {s:Sem Unit} {w w':ac} (h:s.run P w= .ok () w'):((do s;pure Next.skip:Sem Next)).run P w= .ok .skip w':=by
 show(s.bind λ_=> .pure Next.skip).run P w=_;rw[run_bind,h];rfl
def Sim (P:aa) (s1 s2:Sem ab):Prop:=∀w v b w',s1.run P w=.ok (.tuple #[v,b]) w'->s2.run P w=.ok v w'
def cM {α:Type} {P:aa} (s:Sem α) {f g:α->Sem ab} (h:∀a,Sim P (f a) (g a)):Sim P (s.bind f) (s.bind g):=by
 intro w v b w' hr;rw[run_bind]at hr ⊢;cases hs:s.run P w with
 |ok a w1=>rw[hs]at hr;exact h a _ _ _ _ hr
 |halt x w1=>rw[hs]at hr;cases hr
def yCl {P:aa} {x y:String}:Sim P (stuck x) (stuck y):=by
 intro w v b w' hr;cases hr
def zYx {P:aa} {v b:ab}:Sim P (.pure (.tuple #[v,b])) (.pure v):=by
 intro w v b w' hr;simp only[bc,Result.ok.injEq,Value.tuple.injEq,Array.mk.injEq,List.cons.injEq]at hr ⊢;exact⟨hr.1.1,hr.2⟩
def sim_lookup {P:aa} {t:ae} {m k:ab}:Sim P (cp t m k bo) (cp t m k bu):=by
 unfold cp;refine cM _ λd=> ?_
 have tail:∀(key elem:ae) (es:Array aq),Sim P
  ((Instr.checkKey es.isEmpty 10000 key k).bind λ_=>(Instr.findKey key k es.toList).bind λr=>
    match r with
    |some (_,v)=>(bg (v,bo)).bind λx=>bg (if bo=bo then Value.tuple #[x.1,.bool x.2]else x.1)
    |none=>(zeroValue elem).bind λz=>(bg (z,bu)).bind λx=>bg (if bo=bo then Value.tuple #[x.1,.bool x.2]else x.1))
  ((Instr.checkKey es.isEmpty 10000 key k).bind λ_=>(Instr.findKey key k es.toList).bind λr=>
    match r with
    |some (_,v)=>(bg (v,bo)).bind λx=>bg (if bu=bo then Value.tuple #[x.1,.bool x.2]else x.1)
    |none=>(zeroValue elem).bind λz=>(bg (z,bu)).bind λx=>bg (if bu=bo then Value.tuple #[x.1,.bool x.2]else x.1)):=by
  intro key elem es;refine cM _ λ_=>cM _ λr=> ?_
  cases r with
  |some p=>obtain⟨i,v⟩:=p;exact zYx
  |none=>exact cM _ λz=>zYx
 cases d<;>first|exact yCl|skip
 rename_i key elem;cases m<;>first|exact cM _ (λes=>tail key elem es)|skip
 rename_i r;cases r with
 |none=>exact cM _ (λes=>tail key elem es)
 |some r=>
  refine cM _ λo=> ?_
  cases o<;>exact cM _ (λes=>tail key elem es)
def zJz {P:aa} {t:ae} {m k v b:ab} {w w':ac} (h:(cp t m k bo).run P w= .ok (.tuple #[v,b]) w'):(cp t m k bu).run P w= .ok v w':=
 sim_lookup w v b w' h
def z4m {P:aa} {ρ:Env} {o:aj} {w:ac} {K:ab->Prop} (h:tQ P o ρ w K):∃v,K v/\(af (ev ρ) o).run P w= .ok (.value v) w:=by
 cases ho:o.op
 case load t x=>
  simp only[tQ,ho]at h;split at h
  ·rename_i p hx;obtain⟨a,rfl,h⟩:=pH h;obtain⟨v,hv,h⟩:=wZ h;refine⟨v,h,?_⟩;simp only[af,ho,hx];exact yF hv
  ·exact h.elim
 case lookup t m k ok=>
  simp only[tQ,ho]at h;split at h
  ·rename_i e he;obtain⟨v,h⟩:=wZ h;obtain⟨b,hb,h⟩:=j6 h;refine⟨_,h,?_⟩;simp only[af,ho];cases ok
   ·exact yF (zJz hb)
   ·exact yF hb
  ·exact h.elim
 case convert s d x=>
  simp only[tQ,ho]at h;obtain⟨v,hv,h⟩:=wZ h;refine⟨v,h,?_⟩;simp only[af,ho];exact yF hv
 case binOp op t x y u=>
  simp only[tQ,ho]at h;split at h
  ·obtain⟨v,h1,h2,h⟩:=j6 h;refine⟨v,h,?_⟩;simp only[af,ho];refine yF ?_;simp only[bind,run_bind,h2];exact h1
  ·obtain⟨v,h1,h2,h⟩:=j6 h;refine⟨v,h,?_⟩;simp only[af,ho];refine yF ?_;simp only[bind,run_bind,h2];exact h1
  ·exact h.elim
 case call c=>
  simp only[tQ,ho]at h;split at h<;>first|exact h.elim|skip
  all_goals first|(exfalso;rename_i hh;cases hh;done)|skip
  rename_i args argTypes hh;cases hh;obtain⟨v,hv,h⟩:=j6 h;refine⟨v,h,?_⟩;simp only[af,ho];exact yF hv
 case entry x=>
  simp only[tQ,ho]at h;obtain⟨v,hv,h⟩:=h;refine⟨v,h,?_⟩;simp only[af,ho];exact yF hv
 all_goals(simp only[tQ,ho]at h)
def Does (P:aa) (s:Sem Next) (w:ac) (K:ab->ac->Prop):Prop:=
 match s.run P w with
 | .ok (.value v) w'=>K v w'
 | .ok .skip w'=>K ao w'
 | .ok (.enter f args) w'=>Calls P f args w' λe w''=>∃v,e=.returned v/\K v w''
 |_=>False
def z3a (w:ac) (o:Obj) (K:Nat->ac->Prop):Prop:=∀b w',b=w.heap.size->w'=w.alloc o->K b w'
def zero? (P:aa) (t:ae):Option ab:=
 match P.info? t with
 |some i=>i.zero
 |none=>az
def zBo (z:Array ab) (n:Nat):Array ab:=((da n).map λj=>z.toList.getD (j % z.size) default).toArray
def zNp (z:Array ab) (n:Nat):(Array.range n).map (z[·% z.size]!)=zBo z n:=by
 apply dd;simp only[zBo,Array.toList_map,Array.toList_range];refine y7i λj _=> ?_
 rw[Array.getElem!_eq_getD,y7v,y6h,Array.getElem?_toList]
def bsl (P:aa) (t:ae) (len:Nat) (parts:Array (Nat×ab)):Option (ae×Array ab):=
 match P.underlying t with
 |some (.slice e)=>
  match P.info? e with
  |some i=>
   if len*i.size>2 ^ 24 then az else
   match(if len*i.size=0 then ay #[]else i.zero.map Value.cells)with
   |some z=>(Instr.fill (λj=>ay (j*i.size,i.size)) (zBo z (len*i.size)) parts.toList).map λcs=>(e,cs)
   |none=>az
  |none=>az
 |_=>az
def vT (P:aa) (t:ae):Option (ae×Nat×Nat×Array ab):=
 match P.underlying t with
 |some (.slice e)=>
  match P.info? e with
  |some i=>i.zero.map λz=>(e,i.size,i.bytes,z.cells)
  |none=>az
 |_=>az
def uG (P:aa) (f:av):Bool:=
 match P.funcs[f]? with
 | some fn => !fn.body.isNone && !(fn.name == "runtime.NumGoroutine")
 |none=>bu
def yJq (P:aa) (f:av) (args:Array ab) (w:ac) (rt:ae) (K:ab->ac->Prop):Prop:=
 Calls P f args w λe w'=>exR P rt λv=>e=.returned v/\K v w'
def Ext (P:aa) (f:av) (args:Array ab) (w:ac) (v:ab) (w':ac):Prop:=(au f args).run P w=.ok (.value v) w'
def fS (P:aa) (o:aj) (ρ:Env) (w:ac) (K:ab->ac->Prop):Prop:=
 match o.op with
 | .alloc e=>
   match zero? P e with
   |some z=>z3a w (.cells z.cells e) λb w'=>K (.pointer (ay ⟨b,0,az⟩)) w'
   |none=>False
 | .box e x=>z3a w (.cells (ev ρ x).cells e) λb w'=>K (.pointer (ay ⟨b,0,az⟩)) w'
 | .buildSlice t len parts=>
   match bsl P t len (parts.map λ(i,x)=>(i,ev ρ x))with
   |some (e,cs)=>z3a w (.cells cs e) λb w'=>K (.slice (ay ⟨b,0,az⟩) len len) w'
   |none=>False
 | .makeMap _ az=>z3a w (.map #[] 0) λb w'=>K (.map (ay b)) w'
 | .makeSlice t l c=>
   match ev ρ l,ev ρ c with
   | .int _ l,.int _ c=>
     match vT P t with
     |some (e,sz,by_,z)=>(0<=l/\l<=c/\c<=9223372036854775807/\(by_:Int)*c<=2 ^ 48)/\
       z3a w (.cells (madeCells z (c.toNat*sz)) e) λb w'=>K (.slice (ay ⟨b,0,az⟩) l.toNat c.toNat) w'
     |none=>False
   |_,_=>False
 | .store t x v=>
   match ev ρ x with
   | .pointer p=>zYq p λa=>∃w',zBn P (storeVar t a (ev ρ v)) w w'/\K ao w'
   |_=>False
 | .mapUpdate t m k x=>∃w',zBn P (Instr.mapUpdate t (ev ρ m) (ev ρ k) (ev ρ x)) w w'/\K ao w'
 | .mapEntry t m k=>
   match z6v P t with
   |some e=>exT P e λv=>exC (.int .i64) λs=>∃w',u9 P (Instr.mapEntry t (ev ρ m) (ev ρ k)) w (.tuple #[v,s]) w'/\K (.tuple #[v,s]) w'
   |none=>False
 | .entryStore t m s x=>∃w',zBn P (Instr.entryStore t (ev ρ m) (ev ρ s) (ev ρ x)) w w'/\K ao w'
 | .range t x=>
   match P.underlying t,ev ρ x with
   |some .string,.string s=>z3a w (.stringIter s 0) λb w'=>K (.pointer (ay ⟨b,0,az⟩)) w'
   |_,x=>exC .ptr λv=>∃w',u9 P (Instr.range t x) w v w'/\K v w'
 | .next it bo=>
   (∃w',u9 P (Instr.next (ev ρ it) bo o.type) w (.tuple #[.bool bu]) w'/\K (.tuple #[.bool bu]) w')\/
   exC (.int .i64) λk=>exC (.int .i32) λv=>∃w',u9 P (Instr.next (ev ρ it) bo o.type) w (.tuple #[.bool bo,k,v]) w'/\K (.tuple #[.bool bo,k,v]) w'
 | .next it bu=>
   (∃w',u9 P (Instr.next (ev ρ it) bu o.type) w (.tuple #[.bool bu]) w'/\K (.tuple #[.bool bu]) w')\/
   ∃(k v:ab) (w':ac),u9 P (Instr.next (ev ρ it) bu o.type) w (.tuple #[.bool bo,k,v]) w'/\K (.tuple #[.bool bo,k,v]) w'
 | .convert s d x=>exT P d λv=>∃w',u9 P (ax s d (ev ρ x)) w v w'/\K v w'
 | .call c=>
   match c.callee with
   | .value (.func f)=>bif uG P f then yJq P f (c.args.map (ev ρ)) w o.type K else exR P o.type λv=>∃w',Ext P f (c.args.map (ev ρ)) w v w'/\K v w'
   | .value x=>
     match ev ρ x with
     | .func (.func f) first cap=>uG P f=bo/\yJq P f (first++c.args.map (ev ρ)++cap) w o.type K
     |_=>False
   | .builtin .append=>exT P o.type λv=>∃w',u9 P (ce c.argTypes o.type (c.args.map (ev ρ))) w v w'/\K v w'
   | .builtin .copy=>exC (.int .i64) λv=>∃w',u9 P (cg c.argTypes o.type (c.args.map (ev ρ))) w v w'/\K v w'
   | .builtin .delete=>∃w',u9 P (Builtin.delete_ c.argTypes o.type (c.args.map (ev ρ))) w (.tuple #[]) w'/\K (.tuple #[]) w'
   | .builtin .clear=>∃w',u9 P (Builtin.clear_ c.argTypes o.type (c.args.map (ev ρ))) w (.tuple #[]) w'/\K (.tuple #[]) w'
   |_=>False
 |_=>False
def yD {P:aa} {s:Sem ab} {w w':ac} {v:ab} {K:ab->ac->Prop} (h:s.run P w= .ok v w') (hk:K v w'):Does P (do pure (Next.value (<- s))) w K:=by
 unfold Does;rw[z5j h];exact hk
def wF {P:aa} {s:Sem Unit} {w w':ac} {K:ab->ac->Prop} (h:s.run P w= .ok () w') (hk:K ao w'):Does P (do s;pure Next.skip) w K:=by
 unfold Does;rw[yCs h];exact hk
def zTp {P:aa} {f:av} {args:Array ab} {w:ac} {rt:ae} {K:ab->ac->Prop} (hb:uG P f=bo) (h:yJq P f args w rt K):Does P (au f args) w K:=by
 unfold uG at hb;split at hb
 ·rename_i fn hfn;simp only[y6l,y9m,Bool.not_eq_eq_eq_not,Bool.not_true]at hb;unfold Does;have:(au f args).run P w= .ok (.enter f args) w:=by
   simp only[au,bind,pure,run_bind,program,bc,be,hfn,hb.1,hb.2,y6s,if_false]
  rw[this];exact h.mono λe w' hh=>by
   obtain⟨v,hv,hk⟩:=z9y hh;exact⟨v,hv,hk⟩
 ·cases hb
def zero_run {P:aa} {t:ae} {z:ab} (h:zero? P t=ay z) (w:ac):(zeroValue t).run P w= .ok z w:=by
 unfold zero? at h;split at h
 ·rename_i i hi;have hti:(typeInfo t).run P w= .ok i w:=by
   unfold typeInfo;show((Sem.program bg).bind _).run P w=_;simp only[be,bc,hi];rfl
  unfold zeroValue;simp only[bind,run_bind,hti,h];rfl
 ·cases h
def zMe {P:aa} {t:ae} {v:ab} (w:ac):(newVar t v).run P w= .ok ⟨w.heap.size,0,az⟩ (w.alloc (.cells v.cells t)):=rfl
def zFy {P:aa} {t:ae} {i:TypeInfo} (h:P.info? t=ay i) (w:ac):(typeInfo t).run P w= .ok i w:=by
 unfold typeInfo;show((Sem.program bg).bind _).run P w=_;simp only[be,bc,h];rfl
def mO {P:aa} {t:ae} {len:Nat} {parts:Array (Nat×ab)} {e:ae} {cs:Array ab} (h:bsl P t len parts=ay (e,cs)) (w:ac):
 (Instr.buildSlice t len parts).run P w= .ok (.slice (ay ⟨w.heap.size,0,az⟩) len len) (w.alloc (.cells cs e)):=by
 unfold bsl at h;split at h<;>first|(cases h;done)|skip
 rename_i e' ht;split at h<;>first|(cases h;done)|skip
 rename_i i hi;split at h<;>first|(cases h;done)|skip
 rename_i hlen;split at h<;>first|(cases h;done)|skip
 rename_i z hz;simp only[ba,df]at h;obtain⟨cs',hcs,rfl,rfl⟩:=h;by_cases h0:len*i.size=0
 ·simp only[h0,if_true,cr]at hz;subst hz;simp only[Instr.buildSlice,bind,pure,run_bind,be,bc,run_underlying ht,run_sizeOf hi,y5x hlen,y6a h0,zNp,hcs];rfl
 ·simp only[h0,if_false,ba]at hz;obtain⟨z',hz',rfl⟩:=hz;have hzr:∀w,(zeroValue e').run P w= .ok z' w:=λw=>zero_run (by unfold zero?;rw[hi];exact hz') w
  simp only[Instr.buildSlice,bind,pure,run_bind,be,bc,run_underlying ht,run_sizeOf hi,y5x hlen,y5x h0,hzr,zNp,hcs];rfl
def kM {P:aa} {t e:ae} {sz by_:Nat} {z:Array ab} (h:vT P t=ay (e,sz,by_,z)):
 ∃i zv,P.underlying t=ay (.slice e)/\P.info? e=ay i/\i.size=sz/\i.bytes=by_/\i.zero=ay zv/\zv.cells=z:=by
 unfold vT at h;split at h<;>first|(cases h;done)|skip
 rename_i e' ht;split at h<;>first|(cases h;done)|skip
 rename_i i hi;simp only[ba,df]at h;obtain⟨zv,hzv,rfl,rfl,rfl,rfl⟩:=h;exact⟨i,zv,ht,hi,rfl,rfl,hzv,rfl⟩
def wrap_i64 {x:Int} (h0: -9223372036854775808<=x) (h1:x<=9223372036854775807):de.wrap x=x:=IntWalk.i64_in x ⟨h0,h1⟩
def zKj (P:aa) (n:Nat) (w:ac):(askRoom n).run P w= .ok () w:=by
 unfold askRoom;split<;>rfl
def zOk {P:aa} {t e:ae} {sz by_:Nat} {z:Array ab} {k k':ag} {l c:Int} (h:vT P t=ay (e,sz,by_,z))
 (hb:0<=l/\l<=c/\c<=9223372036854775807/\(by_:Int)*c<=2 ^ 48) (w:ac):
 (Instr.makeSlice t (.int k l) (.int k' c)).run P w= .ok (.slice (ay ⟨w.heap.size,0,az⟩) l.toNat c.toNat) (w.alloc (.cells (madeCells z (c.toNat*sz)) e)):=by
 obtain⟨i,zv,ht,hi,rfl,rfl,hz,rfl⟩:=kM h;obtain⟨h1,h2,h3,h4⟩:=hb;have wl:de.wrap l=l:=wrap_i64 (by omega) (by omega);have wc:de.wrap c=c:=wrap_i64 (by omega) (by omega);have hc1:¬(((decide (c<0)||decide ((i.bytes:Int)*c>2 ^ 48))||decide (l<0)||decide (l>c))=bo):=by
  simp only[bv,y7m,not_or];omega
 have hzr:∀w,(zeroValue e).run P w= .ok zv w:=λw=>zero_run (by unfold zero?;rw[hi];exact hz) w
 simp only[Instr.makeSlice,asInt,asIntOf,bind,pure,run_bind,be,bc,run_underlying ht,zFy hi,run_sizeOf hi,wl,wc];rw[y5x hc1];simp only[run_bind,zKj,run_sizeOf hi];by_cases h0:c.toNat*i.size=0
 ·simp only[h0,if_true,bc,run_bind,madeCells];have e1:(Array.map (λx=>(#[]:Array ab)[x % (#[]:Array ab).size]!) (Array.range 0))= #[]:=by simp
  have e2:(Array.map (λx=>zv.cells[x % zv.cells.size]!) (Array.range 0))= #[]:=by simp
  rw[e1,e2];rfl
 ·simp only[y5x h0,run_bind,hzr,bc,madeCells];rfl
def zSn {P:aa} {ρ:Env} {o:aj} {w:ac} {K:ab->ac->Prop} (h:fS P o ρ w K):Does P (af (ev ρ) o) w K:=by
 cases ho:o.op
 case alloc e=>
  simp only[fS,ho]at h;split at h
  ·rename_i z hz;simp only[af,ho];refine yD (v:= .pointer (ay ⟨w.heap.size,0,az⟩)) (w':=w.alloc (.cells z.cells e)) ?_ (h _ _ rfl rfl);simp only[Instr.alloc,bind,pure,run_bind,zero_run hz,bc,zMe]
  ·exact h.elim
 case box e x=>
  simp only[fS,ho]at h;simp only[af,ho];exact yD (v:= .pointer (ay ⟨w.heap.size,0,az⟩)) (w':=w.alloc (.cells (ev ρ x).cells e)) rfl (h _ _ rfl rfl)
 case buildSlice t len parts=>
  simp only[fS,ho]at h;split at h
  ·rename_i e cs hcs;simp only[af,ho];exact yD (mO hcs w) (h _ _ rfl rfl)
  ·exact h.elim
 case makeMap t r=>
  cases r with
  |some r=>simp only[fS,ho]at h
  |none=>
   simp only[fS,ho]at h;simp only[af,ho];exact yD (v:= .map (ay w.heap.size)) (w':=w.alloc (.map #[] 0)) rfl (h _ _ rfl rfl)
 case makeSlice t l c=>
  simp only[fS,ho]at h;split at h<;>first|exact h.elim|skip
  rename_i k l' k' c' hl hc;split at h<;>first|exact h.elim|skip
  rename_i e sz by_ z hs;simp only[af,ho,hl,hc];exact yD (zOk hs h.1 w) (h.2 _ _ rfl rfl)
 case store t x v=>
  simp only[fS,ho]at h;split at h<;>first|exact h.elim|skip
  rename_i p hx;obtain⟨a,rfl,w',hw,hk⟩:=pH h;simp only[af,ho,hx];exact wF (w':=w') hw hk
 case mapUpdate t m k x=>
  simp only[fS,ho]at h;obtain⟨w',hw,hk⟩:=h;simp only[af,ho];exact wF hw hk
 case mapEntry t m k=>
  simp only[fS,ho]at h;split at h<;>first|exact h.elim|skip
  obtain⟨v,h⟩:=wZ h;obtain⟨s,w',hw,hk⟩:=j6 h;simp only[af,ho];exact yD hw hk
 case entryStore t m s x=>
  simp only[fS,ho]at h;obtain⟨w',hw,hk⟩:=h;simp only[af,ho];exact wF hw hk
 case range t x=>
  simp only[fS,ho]at h;split at h
  ·rename_i s ht hx;simp only[af,ho];refine yD (v:= .pointer (ay ⟨w.heap.size,0,az⟩)) (w':=w.alloc (.stringIter s 0)) ?_ (h _ _ rfl rfl);rw[hx];simp only[Instr.range,bind,pure,run_bind,be,run_underlying ht];rfl
  ·obtain⟨v,w',hw,hk⟩:=j6 h;simp only[af,ho];exact yD hw hk
 case next it isString=>
  simp only[af,ho];cases isString
  ·simp only[fS,ho]at h;rcases h with⟨w',hw,hk⟩|⟨k,v,w',hw,hk⟩
   ·exact yD hw hk
   ·exact yD hw hk
  ·simp only[fS,ho]at h;rcases h with⟨w',hw,hk⟩|h
   ·exact yD hw hk
   ·obtain⟨k,h⟩:=j6 h;obtain⟨v,w',hw,hk⟩:=j6 h;exact yD hw hk
 case convert s d x=>
  simp only[fS,ho]at h;obtain⟨v,w',hw,hk⟩:=wZ h;simp only[af,ho];exact yD hw hk
 case call c=>
  have hexec:af (ev ρ) o=(ar (ev ρ) c o.type).bind λd=>invoke d.target d.args:=by
   simp only[af,ho];rfl
  simp only[fS,ho]at h;split at h
  ·rename_i f hc;have hrun:(af (ev ρ) o)=au f (c.args.map (ev ρ)):=by
    rw[hexec];unfold ar;rw[hc];simp only[ev,Deferred.ofValue,pure,be,invoke,Array.append_empty,Array.empty_append]
   rw[hrun];revert h;cases hb:uG P f<;>intro h
   ·replace h:exR P o.type λv=>∃w',Ext P f (c.args.map (ev ρ)) w v w'/\K v w':=h
    obtain⟨v,w',hw,hk⟩:=z9y h;exact(by unfold Does;rw[show(au f (c.args.map (ev ρ))).run P w=_ from hw];exact hk)
   ·exact zTp hb h
  ·rename_i x hc;split at h<;>first|exact h.elim|skip
   rename_i f first cap hx
   have hrun:(af (ev ρ) o)=au f (first++c.args.map (ev ρ)++cap):=by
    rw[hexec];unfold ar;rw[hc];simp only[hx,Deferred.ofValue,pure,be,invoke]
   rw[hrun];exact zTp h.1 h.2
  all_goals first|exact h.elim|skip
  ·rename_i hc;have hrun:af (ev ρ) o=builtin .append c.argTypes o.type (c.args.map λ| .const _=>bo|_=>bu) (c.args.map (ev ρ)):=by
    rw[hexec];unfold ar;rw[hc];rfl
   rw[hrun];obtain⟨v,w',hw,hk⟩:=wZ h;exact yD hw hk
  ·rename_i hc;have hrun:af (ev ρ) o=builtin .copy c.argTypes o.type (c.args.map λ| .const _=>bo|_=>bu) (c.args.map (ev ρ)):=by
    rw[hexec];unfold ar;rw[hc];rfl
   rw[hrun];obtain⟨v,w',hw,hk⟩:=j6 h;exact yD hw hk
  ·rename_i hc;have hrun:af (ev ρ) o=builtin .delete c.argTypes o.type (c.args.map λ| .const _=>bo|_=>bu) (c.args.map (ev ρ)):=by
    rw[hexec];unfold ar;rw[hc];rfl
   rw[hrun];obtain⟨w',hw,hk⟩:=h;exact yD hw hk
  ·rename_i hc;have hrun:af (ev ρ) o=builtin .clear c.argTypes o.type (c.args.map λ| .const _=>bo|_=>bu) (c.args.map (ev ρ)):=by
    rw[hexec];unfold ar;rw[hc];rfl
   rw[hrun];obtain⟨w',hw,hk⟩:=h;exact yD hw hk
 all_goals(simp only[fS,ho]at h)
end Cv
namespace Cv
open Go
def zPi:ap->Bool
 | .const (.pointer az)=>bo
 |_=>bu
def zUv (P:aa) (op:Op):Nat:=
 match op with
 | .load _ _=>1
 | .lookup _ _ _ _=>1
 | .convert s d _=>
   match P.underlying s,P.underlying d with
   |some .string,ay (.slice _)=>2
   |some (.slice _),ay .string=>1
   |_,_=>0
 | .binOp op t x y _=>
   match op,P.underlying t with
   | .eql,ay (.pointer _)=>bif zPi y then 0 else 1
   | .neq,ay (.pointer _)=>bif zPi y then 0 else 1
   |_,_=>0
 | .call c=>
   match c.callee with
   | .builtin .len=>
     match(c.argTypes[0]?).bind P.underlying with
     |some (.map _ _)=>1
     |_=>0
   | .builtin .cap=>0
   | .builtin .min=>0
   | .builtin .max=>0
   |_=>2
 | .alloc _=>2
 | .box _ _=>2
 | .buildSlice _ _ _=>2
 | .makeMap _ _=>2
 | .makeSlice _ _ _=>2
 | .store _ _ _=>2
 | .mapUpdate _ _ _ _=>2
 | .mapEntry _ _ _=>2
 | .entryStore _ _ _ _=>2
 | .range _ _=>2
 | .entry _=>1
 | .next _ _=>2
 |_=>0
def opV (P:aa) (o:aj) (ρ:Env) (w:ac) (K:ab->ac->Prop):Prop:=
 match zUv P o.op with
 |0=>dM P o ρ λv=>K v w
 |1=>tQ P o ρ w λv=>K v w
 |_=>fS P o ρ w K
def jY {P:aa} {s:Sem Next} {w w':ac} {v:ab} {K:ab->ac->Prop} (h:s.run P w= .ok (.value v) w') (hk:K v w'):Does P s w K:=by
 unfold Does;rw[h];exact hk
def yBj {P:aa} {o:aj} {ρ:Env} {w:ac} {K:ab->ac->Prop} (h:opV P o ρ w K):Does P (af (ev ρ) o) w K:=by
 unfold opV at h;split at h
 ·obtain⟨v,hk,hf⟩:=gK h;exact jY (hf w) hk
 ·obtain⟨v,hk,hf⟩:=z4m h;exact jY hf hk
 ·exact zSn h
def z7q (ops:List aj) (j:Nat):Option Nat:=
 match ops[j]? with
 |some o=>o.dst
 |none=>az
def gd (c want:Bool) (Y N:Prop):Prop:=
 match c,want with
 |true,bo=>Y
 |false,bu=>Y
 |true,bu=>N
 |false,bo=>N
def zQa (ops:List aj) (g:Option (Nat×Bool)) (ρ:Env) (Y N:Env->Prop):Prop:=
 match g with
 |none=>Y ρ
 |some (j,want)=>
  match z7q ops j with
  |none=>N ρ
  |some d=>
   match ρ d with
   | .bool c=>gd c want (Y (put ρ (ay d) (.bool want))) (N (put ρ (ay d) (.bool !want)))
   |_=>N ρ
def zZo {ρ:Env} {d:Nat} {v:ab} (h:ρ d=v):put ρ (ay d) v=ρ:=by
 funext i;simp only[put];cases hb:cu i d
 ·rfl
 ·have:=y6b hb;subst this;exact h.symm
@[reducible] def yL (a:Act):Env:=λi=>a.tmps.getD i ao
def wB (a:Act):ev (yL a)=a.eval:=by
 funext x;cases x<;>rfl
def envOf_put {a:Act} {dst:Option Nat} {v:ab} (h:∀d,dst=ay d->d<a.tmps.size):yL (a.put dst v)=put (yL a) dst v:=by
 cases dst with
 |none=>rfl
 |some d=>
  funext i;have:=h d rfl;simp only[yL,Act.put,put];cases hb:cu i d
  ·have hne:i≠d:=λe=>by subst e;simp at hb
   simp[y7v,xAr (Ne.symm hne)]
  ·have e:=y6b hb;subst e;simp[y7v,y9u this]
def zFj (ops:List aj) (tmps:Array ab) (j:Nat):yielded ops.toArray tmps j=match z7q ops j with
 |none=>az
 |some d=>match tmps[d]? with|some (.bool b)=>ay b|_=>az:=by
 unfold yielded z7q;simp only[y7z];cases ops[j]? with
 |none=>rfl
 |some o=>
  obtain⟨dst,op,ty,pos,after,g⟩:=o;cases dst with
  |none=>rfl
  |some d=>
   simp only[Option.bind_some];cases tmps[d]? with
   |none=>rfl
   |some v=>cases v<;>rfl
def tG {ops:List aj} {o:aj} {a:Act} {Y N:Env->Prop} (h:zQa ops o.guard (yL a) Y N):
 if cn o (yielded ops.toArray a.tmps)then Y (yL a)else N (yL a):=by
 unfold zQa at h;unfold cn;split at h
 ·rename_i hg;rw[hg];exact h
 ·rename_i j want hg;rw[hg];have hy:=zFj ops a.tmps j;split at h
  ·rename_i hd;rw[hd]at hy;simp only[hy];simpa using h
  ·rename_i d hd;rw[hd]at hy;simp only[hy];have hv:yL a d=(a.tmps[d]?).getD ao:=by simp[yL,y7v]
   rw[hv]at h;cases ht:a.tmps[d]? with
   |none=>
    rw[ht]at h;simpa[ao]using h
   |some v=>
    rw[ht]at h hv;simp only[y8k]at h hv;cases v with
    |bool c=>
     simp only[]at h ⊢;have hs:∀b,c=b->put (yL a) (ay d) (.bool b)=yL a:=λb hb=>zZo (by rw[hv,hb])
     cases c<;>cases want<;>simp only[gd,Bool.not_true,xBa]at h<;>rw[hs _ rfl]at h<;>simpa using h
    |_=>simpa using h
def z1m (P:aa) (ops:List aj):List aj->Env->ac->(Env->ac->Prop)->Prop
 |[],ρ,w,K=>K ρ w
 |o::rest,ρ,w,K=>
  zQa ops o.guard ρ (λρ=>opV P o ρ w λv w'=>z1m P ops rest (put ρ o.dst v) w' K) (λρ=>z1m P ops rest (put ρ o.dst ao) w K)
def zJr (n:Nat) (A:Nat->Bool) (ops:List aj):Prop:=∀o∈ops,∀d,o.dst=ay d->d<n/\A d=bo
structure Good (n:Nat) (A:Nat->Bool) (e0:Env) (a:Act):Prop where
 size:a.tmps.size=n
 defers:a.defers=[]
 same:∀s,A s=bu->yL a s=e0 s
def z0o (a:Act) (d:Option Nat) (v:ab):(a.put d v).tmps.size=a.tmps.size/\(a.put d v).defers=a.defers:=by
 cases d<;>simp[Act.put]
def Good.envOf_put {n:Nat} {A:Nat->Bool} {e0:Env} {a:Act} (h:Good n A e0 a) {dst:Option Nat} (hd:∀d,dst=ay d->d<n/\A d=bo) (v:ab):
 yL (a.put dst v)=put (yL a) dst v:=Cv.envOf_put λd hd'=>by rw[h.size];exact(hd d hd').1
def Good.put {n:Nat} {A:Nat->Bool} {e0:Env} {a:Act} (h:Good n A e0 a) {dst:Option Nat} (hd:∀d,dst=ay d->d<n/\A d=bo) (v:ab):Good n A e0 (a.put dst v):=by
 refine⟨(z0o _ _ _).1.trans h.size,(z0o _ _ _).2.trans h.defers,λs hs=> ?_⟩;rw[h.envOf_put hd];cases dst with
 |none=>exact h.same s hs
 |some d=>
  simp only[Cv.put];cases hb:cu s d
  ·exact h.same s hs
  ·have e:=y6b hb;subst e;have:=(hd s rfl).2;rw[hs]at this;cases this
def zDc {P:aa} {o:aj} {a:Act} {w:ac} {K:Act->ac->Prop} {Q:Exit->Act->ac->Prop}
 (h:Does P (af a.eval o) w λv w'=>K (a.put o.dst v) w'):o.wp P a w K Q:=by
 unfold Does at h;unfold Oper.wp;split at h
 ·rename_i v w' hr;rw[hr];exact h
 ·rename_i w' hr;rw[hr];exact h
 ·rename_i f args w' hr;rw[hr];exact h.mono λe w'' ⟨v,he,hk⟩=>by subst he;exact hk
 ·exact h.elim
def zQb {P:aa} {ops:List aj} {n:Nat} {A:Nat->Bool} {e0:Env} {Q:Exit->Act->ac->Prop} {K:Env->ac->Prop}
 (hQ:∀a w,Good n A e0 a->K (yL a) w->Q .normal a w):
 ∀(l:List aj) (a:Act) (w:ac),zJr n A l->Good n A e0 a->z1m P ops l (yL a) w K->wpList P ops.toArray Q l a w
 |[],a,w,_,hg,h=>hQ a w hg h
 |o::l,a,w,hf,hgd,h=>by
  have hdst:=hf o y6e;have hf':zJr n A l:=λo' ho'=>hf o' (y6g _ ho')
  have hg:=tG h;have nx:∀{v:ab} {w:ac},z1m P ops l (put (yL a) o.dst v) w K->wpList P ops.toArray Q l (a.put o.dst v) w:=λ{v w} hh=>
   zQb hQ l _ _ hf' (hgd.put hdst v) (by rw[hgd.envOf_put hdst];exact hh)
  unfold wpList;split
  ·rename_i hw;rw[y6a hw]at hg;left;refine zDc ?_;have:=yBj hg;rw[wB]at this;unfold Does at this ⊢;split at this
   ·exact nx this
   ·exact nx this
   ·exact this.mono λe w'' ⟨v,he,hk⟩=>⟨v,he,nx hk⟩
   ·exact this
  ·rename_i hw;rw[y5x hw]at hg;exact nx hg
end Cv
namespace Cv
open Go
def yFf (acc:List Nat) (o:aj):Nat:=
 o.after.toList.foldl (λs e=>bif cm .any e then s|||2 ^ e.on|||acc.getD e.on 0 else s) 0
def uW:List aj->List Nat->List Nat
 |[],acc=>acc
 |o::rest,acc=>uW rest (acc++[yFf acc o])
def Bef (bf:List Nat) (i r:Nat):Bool:=(bf.getD i 0).testBit r
def sL (ops:List aj) (L:Nat->Prop):Prop:=∀i o,ops[i]?=ay o->L i->∀e∈o.after,cm .any e=bo->L e.on
def zTi {ops:List aj} {acc:List Nat} {L:Nat->Prop} (hacc:∀k,L k->∀r,(acc.getD k 0).testBit r=bo->L r):
 ∀(l:List Edge) (s:Nat),(∀r,s.testBit r=bo->L r)->(∀e∈l,cm .any e=bo->L e.on)->
  ∀r,(l.foldl (λs e=>bif cm .any e then s|||2 ^ e.on|||acc.getD e.on 0 else s) s).testBit r=bo->L r
 |[],s,hs,_,r,h=>hs r h
 |e::l,s,hs,hl,r,h=>by
  refine zTi (ops:=ops) hacc l _ ?_ (λe' he'=>hl e' (y6g _ he')) r h;intro r hr;dsimp only at hr;cases hb:cm .any e
  ·rw[hb]at hr;exact hs r hr
  ·have hon:=hl e (by simp) hb;rw[hb]at hr;simp only[cond_true,Nat.testBit_or,Nat.testBit_two_pow,bv,y7m]at hr;rcases hr with(hr|hr)|hr
   ·exact hs r hr
   ·exact hr▸hon
   ·exact hacc _ hon r hr
def befL_bits {ops:List aj} {L:Nat->Prop} (hc:sL ops L):∀(l:List aj) (acc:List Nat),(∀j,l[j]? =ops[acc.length+j]?)->
 (∀k o,k<acc.length->ops[k]? =ay o->(∀e∈o.after,cm .any e=bo->L e.on)->∀r,(acc.getD k 0).testBit r=bo->L r)->
 ∀k o,ops[k]? =ay o->(∀e∈o.after,cm .any e=bo->L e.on)->∀r,((uW l acc).getD k 0).testBit r=bo->L r
 |[],acc,hl,hacc,k,o,ho,hd,r,hr=>by
  by_cases hk:k<acc.length
  ·exact hacc k o hk ho hd r hr
  ·exfalso;have:=hl (k-acc.length);rw[show acc.length+(k-acc.length)=k by omega,ho]at this;simp at this
 |o::l,acc,hl,hacc,k,o',ho',hd,r,hr=>by
  refine befL_bits hc l (acc++[yFf acc o]) ?_ ?_ k o' ho' hd r hr
  ·intro j;have:=hl (j+1);simp only[y5y,y6d,y7s];rw[show acc.length+(0+1)+j=acc.length+(j+1)by omega];simpa using this
  ·intro k2 o2 hk2 ho2 hd2 r2 hr2;have hlook:∀k,L k->∀r,(acc.getD k 0).testBit r=bo->L r:=by
    intro k3 hL r3 h3;by_cases hk3:k3<acc.length
    ·cases ho3:ops[k3]? with
     |none=>
      exfalso;have:=hl 0;simp only[xAh]at this;rw[List.getElem?_eq_none_iff]at ho3;have h4:acc.length<ops.length:=by
       rcases y8h acc.length ops.length with h|h
       ·exact h
       ·rw[y7c h]at this;simp at this
      omega
     |some o3=>exact hacc k3 o3 hk3 ho3 (hc k3 o3 ho3 hL) r3 h3
    ·simp[y6h,y7c (Nat.not_lt.1 hk3)]at h3
   by_cases hk:k2<acc.length
   ·rw[y6h,y8t hk,<- y6h]at hr2;exact hacc k2 o2 hk ho2 hd2 r2 hr2
   ·have hk':k2=acc.length:=by simp at hk2;omega
    subst hk';rw[y6h,y8c (y6v _)]at hr2;simp only[xBo,y8j,y8k]at hr2;have h0:=hl 0;simp only[y8j,xAh]at h0;rw[ho2]at h0;cases h0;exact zTi (ops:=ops) hlook _ 0 (by simp) (λe he hb=>hd2 e (by simpa using he) hb) r2 hr2
def z5o {ops:List aj} {L:Nat->Prop} (hc:sL ops L) {i:Nat} {o:aj} (ho:ops[i]? =ay o) (hd:∀e∈o.after,cm .any e=bo->L e.on)
 {r:Nat} (h:Bef (uW ops []) i r=bo):L r:=
 befL_bits hc ops [] (by simp) (by simp) i o ho hd r h
@[reducible] def Mon:=Nat×(ac->Prop)
def jB (bf:List Nat) (i:Nat) (M:List Mon):List Mon:=M.filter λm=> !Bef bf i m.1
def zOc (M:List Mon) (w:ac):Prop:=∀m∈M,m.2 w
def zKw (P:aa) (ops:Array aj) (i:Nat) (K:Act->ac->Prop) (a:Act) (w:ac):Prop:=
 match ops[i]? with
 |none=>K a w
 |some o=>if cn o (yielded ops a.tmps)then Does P (af a.eval o) w (λv w'=>K (a.put o.dst v) w')else K (a.put o.dst ao) w
def Does.mono {P:aa} {s:Sem Next} {w:ac} {K K':ab->ac->Prop} (h:Does P s w K) (hk:∀v w',K v w'->K' v w'):Does P s w K':=by
 unfold Does at*;split at h
 ·exact hk _ _ h
 ·exact hk _ _ h
 ·exact h.mono λe w'' ⟨v,he,h⟩=>⟨v,he,hk _ _ h⟩
 ·exact h
def zBf {P:aa} {ops:Array aj} {i:Nat} {K K':Act->ac->Prop} {a:Act} {w:ac} (h:zKw P ops i K a w) (hk:∀a w,K a w->K' a w):zKw P ops i K' a w:=by
 unfold zKw at*;split
 ·rename_i ho;simp only[ho]at h;exact hk _ _ h
 ·rename_i o ho;simp only[ho]at h;split
  ·rename_i hw;rw[y6a hw]at h;exact h.mono λv w'=>hk _ _
  ·rename_i hw;rw[y5x hw]at h;exact hk _ _ h
def zEl (P:aa) (ops:Array aj) (bf:List Nat) (Q:Act->ac->Prop):Nat->List Mon->Array Bool->Act->ac->Prop
 |0,_,listed,a,w=>ci .any ops listed=[]/\Q a w
 |fuel+1,M,listed,a,w=>
  (ci .any ops listed=[]->Q a w)/\
  ∀i∈ci .any ops listed,zKw P ops i (λa' w'=>zOc (jB bf i M) w'/\zEl P ops bf Q fuel (jB bf i M) (listed.setIfInBounds i bo) a' w') a w
def zTm {bf:List Nat} {i:Nat} {M M':List Mon} (h:∀m∈M',m∈M):∀m∈jB bf i M',m∈jB bf i M:=by
 intro m hm;simp only[jB,y7y]at hm ⊢;exact⟨h m hm.1,hm.2⟩
def zXe {P:aa} {ops:Array aj} {bf:List Nat} {Q:Act->ac->Prop}:∀(fuel:Nat) {M M':List Mon} (listed:Array Bool) (a:Act) (w:ac),
 (∀m∈M',m∈M)->zEl P ops bf Q fuel M listed a w->zEl P ops bf Q fuel M' listed a w
 |0,_,_,_,_,_,_,h=>h
 |fuel+1,M,M',listed,a,w,hs,h=>⟨h.1,λi hi=>zBf (h.2 i hi) λa' w' hh=>
   ⟨λm hm=>hh.1 m (zTm hs m hm),zXe fuel _ _ _ (zTm hs) hh.2⟩⟩
def gE {P:aa} {ops:Array aj} {bf:List Nat} {Q:Act->ac->Prop} {Q':Exit->Act->ac->Prop} (hQ:∀a w,Q a w->Q' .normal a w):
 ∀(fuel:Nat) {M:List Mon} (listed:Array Bool) (a:Act) (w:ac),zEl P ops bf Q fuel M listed a w->wpAny P .any ops Q' fuel listed a w
 |0,_,_,_,_,h=>⟨h.1,hQ _ _ h.2⟩
 |fuel+1,M,listed,a,w,h=>⟨λh0=>hQ _ _ (h.1 h0),λi hi=>by
   have:=h.2 i hi;unfold zKw at this;unfold wpOp;split
   ·rename_i ho;simp only[ho]at this;exact gE hQ fuel _ _ _ this.2
   ·rename_i o ho;simp only[ho]at this;split
    ·rename_i hw;rw[y6a hw]at this;exact .inl (zDc (this.mono λv w' hh=>gE hQ fuel _ _ _ hh.2))
    ·rename_i hw;rw[y5x hw]at this;exact gE hQ fuel _ _ _ this.2⟩
def tF (P:aa) (ops:Array aj) (o:aj) (v:ab) (a:Act) (w:ac):Prop:=
 (cn o (yielded ops a.tmps)=bo/\(af a.eval o).run P w=.ok (.value v) w)\/(cn o (yielded ops a.tmps)=bu/\v=ao)
def zQy {P:aa} {ops:Array aj} {i:Nat} {o:aj} {v:ab} {a:Act} {w:ac} {K:Act->ac->Prop} (hi:ops[i]? =ay o) (h:tF P ops o v a w) (hk:K (a.put o.dst v) w):zKw P ops i K a w:=by
 unfold zKw;simp only[hi];rcases h with⟨hw,hr⟩|⟨hw,rfl⟩
 ·rw[y6a hw];exact jY hr hk
 ·rw[y5x (by rw[hw];simp)];exact hk
def yCp {listed:Array Bool} {i:Nat} (h:listed.getD i bo=bu):i<listed.size:=by
 rcases y8h i listed.size with h'|h'
 ·exact h'
 ·simp[y7v,y8y h']at h
def qE (listed:Array Bool) (i:Nat):Prop:=listed.getD i bu=bo
def zEf {listed:Array Bool} {i j:Nat} (h:qE listed j):qE (listed.setIfInBounds i bo) j:=by
 unfold qE at*;by_cases hij:i=j
 ·subst hij;have:i<listed.size:=by
   rcases y8h i listed.size with h'|h'
   ·exact h'
   ·simp[y7v,y8y h']at h
  simp[y7v,y9u this]
 ·simpa[y7v,xAr hij]using h
def zIl {listed:Array Bool} {i j:Nat} (h:qE (listed.setIfInBounds i bo) j):j=i\/qE listed j:=by
 unfold qE at*;by_cases hij:i=j
 ·exact .inl hij.symm
 ·right;simpa[y7v,xAr hij]using h
def zPf {listed:Array Bool} {i:Nat} (h:listed.getD i bo=bu):¬qE listed i:=by
 unfold qE;have:=yCp h;simp only[y7v,xAo this]at h ⊢;simp at h ⊢;exact h
def vW {ops:List aj} {listed:Array Bool} (hc:sL ops (qE listed)) {i:Nat} (hi:i∈ci .any ops.toArray listed):sL ops (qE (listed.setIfInBounds i bo)):=by
 intro j o ho hj e he hb;rcases zIl hj with rfl|hj
 ·obtain⟨_,o',ho',hall⟩:=mem_ready.1 hi;simp only[y7z]at ho';rw[ho]at ho';cases ho';exact zEf (hall e he hb)
 ·exact zEf (hc j o ho hj e he hb)
def sJ (ops:List aj) (bf:List Nat):Bool:=
 Region.noSelect ops.toArray && (da ops.length).all λi=>(da i).all λj=>
  match ops[i]?,ops[j]? with
  |some oi,ay oj=>Bef bf i j||(oi.apart ops.toArray oj && oj.apart ops.toArray oi)
  |_,_=>bo
def zZi {ops:List aj} {bf:List Nat} (h:sJ ops bf=bo) {i j:Nat} {oi oj:aj} (hi:ops[i]? =ay oi) (hj:ops[j]? =ay oj) (hne:i≠j)
 (h1:Bef bf i j=bu) (h2:Bef bf j i=bu):oi.apart ops.toArray oj=bo:=by
 simp only[sJ,y6l,y9e,y9c]at h;have lt:∀{k:Nat} {o:aj},ops[k]? =ay o->k<ops.length:=λ{k o} hk=>by
  rcases y8h k ops.length with h'|h'
  ·exact h'
  ·rw[y7c h']at hk;cases hk
 rcases Nat.lt_or_gt_of_ne hne with hlt|hlt
 ·have:=h.2 j (lt hj) i hlt;simp only[hi,hj,h2,xBw,y6l]at this;exact this.2
 ·have:=h.2 i (lt hi) j hlt;simp only[hi,hj,h1,xBw,y6l]at this;exact this.1
def yHi {P:aa} {ops:Array aj} {o:aj} {v u:ab} {a:Act} {w:ac} {d:Option Tmp} (hs:∀cs b,o.op≠.select cs b) (hd:∀t,d=ay t->t∉o.looksAt ops):
 tF P ops o v (a.put d u) w↔tF P ops o v a w:=by
 unfold tF;rw[execOp_put o hs a d u hd,wanted_put o a d u hd]
def yKt {P:aa} {ops:Array aj} {j:Nat} {oi oj:aj} {v:ab} (hj:ops[j]? =ay oj) (hap:oi.apart ops oj=bo) (hsj:∀cs b,oj.op≠.select cs b)
 {K:Act->ac->Prop} {a:Act} {w:ac} (h:zKw P ops j K (a.put oi.dst v) w):
 zKw P ops j (λa' w'=>(∃u,a'=a.put oj.dst u)/\K (a'.put oi.dst v) w') a w:=by
 obtain⟨h1,h2,h3⟩:=Oper.apart_spec hap;unfold zKw at*;simp only[hj]at*;rw[wanted_put oj a oi.dst v h1]at h;split
 ·rename_i hw;rw[y6a hw]at h;rw[execOp_put oj hsj a oi.dst v h1]at h;refine h.mono λu w' hk=>⟨⟨u,rfl⟩,?_⟩
  rw[<- Act.put_comm a v u h2];exact hk
 ·rename_i hw;rw[y5x hw]at h;exact⟨⟨_,rfl⟩,by rw[<- Act.put_comm a v ao h2];exact h⟩
def gN {P:aa} {ops:List aj} {Q:Act->ac->Prop} (hok:sJ ops (uW ops [])=bo) {r:Nat} {o:aj} {v:ab} (hr:ops[r]? =ay o):
 ∀(fuel:Nat) (M:List Mon) (listed:Array Bool) (a:Act) (w:ac),sL ops (qE listed)->r∈ci .any ops.toArray listed->
  tF P ops.toArray o v a w->zOc M w->
  zEl P ops.toArray (uW ops []) Q fuel ((r,λw=>tF P ops.toArray o v a w)::M) (listed.setIfInBounds r bo) (a.put o.dst v) w->
  zEl P ops.toArray (uW ops []) Q (fuel+1) M listed a w:=by
 have hns:∀(i:Nat) (o:aj),ops[i]? =ay o->∀cs b,o.op≠.select cs b:=by
  intro i o hi cs b;simp only[sJ,y6l]at hok;exact Region.noSelect_spec hok.1 i o cs b (by simpa using hi)
 intro fuel
 induction fuel with
 |zero=>
  intro M listed a w hc hrr hs hM H;refine⟨λh=>(by rw[h]at hrr;cases hrr),λi hi=> ?_⟩;by_cases hir:i=r
  ·subst hir;refine zQy (by simpa using hr) hs ⟨λm hm=>hM m (by simp only[jB,y7y]at hm;exact hm.1),?_⟩;exact H
  ·have:=ready_mono hi hir;rw[H.1]at this;cases this
 |succ fuel ih=>
  intro M listed a w hc hrr hs hM H;refine⟨λh=>(by rw[h]at hrr;cases hrr),λi hi=> ?_⟩;by_cases hir:i=r
  ·subst hir;refine zQy (by simpa using hr) hs ⟨λm hm=>hM m (by simp only[jB,y7y]at hm;exact hm.1),?_⟩;refine zXe _ _ _ _ ?_ H;intro m hm;simp only[jB,y7y]at hm;exact y6g _ hm.1
  ·have h1:=H.2 i (ready_mono hi hir);obtain⟨hiun,oi,hoi,hall⟩:=mem_ready.1 hi;obtain⟨hrun,o',ho',hrall⟩:=mem_ready.1 hrr;simp only[y7z]at hoi ho';rw[hr]at ho';cases ho';have hL:∀(k:Nat) (ok:aj),ops[k]? =ay ok->(∀e∈ok.after,cm .any e=bo->listed.getD e.on bu=bo)->∀q,Bef (uW ops []) k q=bo->qE listed q:=
    λk ok hk hd q hq=>z5o hc hk hd hq
   have nri:Bef (uW ops []) i r=bu:=by
    cases hb:Bef (uW ops []) i r with
    |false=>rfl
    |true=>exact absurd (hL i oi hoi hall r hb) (zPf hrun)
   have nir:Bef (uW ops []) r i=bu:=by
    cases hb:Bef (uW ops []) r i with
    |false=>rfl
    |true=>exact absurd (hL r o hr hrall i hb) (zPf hiun)
   have hap:=zZi hok hr hoi (Ne.symm hir) nir nri;have h2:=yKt (by simpa using hoi) hap (hns i oi hoi) h1;have hap':=(Oper.apart_spec hap).2.2;have hkeep:jB (uW ops []) i ((r,λw=>tF P ops.toArray o v a w)::M)=(r,λw=>tF P ops.toArray o v a w)::jB (uW ops []) i M:=by
    simp[jB,nri]
   refine zBf h2 λa' w' hh=> ?_
   obtain⟨⟨u,rfl⟩,hA,hB⟩:=hh;rw[hkeep]at hA hB;have hs':∀w,tF P ops.toArray o v (a.put oi.dst u) w↔tF P ops.toArray o v a w:=λw=>yHi (hns r o hr) hap'
   refine⟨λm hm=>hA m (y6g _ hm),?_⟩;have hfun:(λw=>tF P ops.toArray o v a w)=λw=>tF P ops.toArray o v (a.put oi.dst u) w:=by
    funext w;exact propext (hs' w).symm
   rw[hfun]at hA hB;refine ih _ _ _ _ (vW hc hi) (ready_mono hrr (Ne.symm hir)) (hA _ y6e) (λm hm=>hA m (y6g _ hm)) ?_;rw[Array.setIfInBounds_comm _ _ hir];exact hB
end Cv
namespace Cv
open Go
def tK (P:aa) (o:aj) (ρ:Env) (v:ab) (w:ac):Prop:=
 match o.op with
 | .load t x=>
   match ev ρ x with
   | .pointer p=>zYq p λa=>mY P t a w v
   |_=>False
 | .lookup t m k ok=>dH P (cp t (ev ρ m) (ev ρ k) ok) w v
 | .convert s d x=>dH P (ax s d (ev ρ x)) w v
 | .binOp op t x y _=>dH P (do ak op t x y (ev ρ x) (ev ρ y);binOp op t (ev ρ x) (ev ρ y)) w v
 | .call {callee:= .builtin .len,args,argTypes}=>dH P (cf argTypes o.type (args.map (ev ρ))) w v
 | .entry x=>dH P (Instr.entry (ev ρ x)) w v
 |_=>False
def yBs {P:aa} {o:aj} {ρ:Env} {v:ab} {w:ac} (h:tK P o ρ v w):(af (ev ρ) o).run P w= .ok (.value v) w:=by
 unfold tK at h;split at h
 ·rename_i t x ho;split at h
  ·rename_i p hx;obtain⟨a,rfl,h⟩:=pH h;simp only[af,ho,hx];exact yF h
  ·exact h.elim
 ·rename_i t m k ok ho;simp only[af,ho];exact yF h
 ·rename_i s d x ho;simp only[af,ho];exact yF h
 ·rename_i op t x y u ho;simp only[af,ho];exact yF h
 ·rename_i args argTypes ho;simp only[af,ho];exact yF h
 ·rename_i x ho;simp only[af,ho];exact yF h
 ·exact h.elim
def z4q {P:aa} {ρ:Env} {o:aj} {w:ac} {K:ab->Prop} (h:tQ P o ρ w K):∃v,K v/\tK P o ρ v w:=by
 cases ho:o.op
 case load t x=>
  simp only[tQ,ho]at h;split at h
  ·rename_i p hx;obtain⟨a,rfl,h⟩:=pH h;obtain⟨v,hv,h⟩:=wZ h;refine⟨v,h,?_⟩;simp only[tK,ho,hx];exact hv
  ·exact h.elim
 case lookup t m k ok=>
  simp only[tQ,ho]at h;split at h
  ·rename_i e he;obtain⟨v,h⟩:=wZ h;obtain⟨b,hb,h⟩:=j6 h;refine⟨_,h,?_⟩;simp only[tK,ho];cases ok
   ·exact zJz hb
   ·exact hb
  ·exact h.elim
 case convert s d x=>
  simp only[tQ,ho]at h;obtain⟨v,hv,h⟩:=wZ h;refine⟨v,h,?_⟩;simp only[tK,ho];exact hv
 case binOp op t x y u=>
  simp only[tQ,ho]at h;split at h
  ·obtain⟨v,h1,h2,h⟩:=j6 h;refine⟨v,h,?_⟩;simp only[tK,ho,dH,bind,run_bind,h2];exact h1
  ·obtain⟨v,h1,h2,h⟩:=j6 h;refine⟨v,h,?_⟩;simp only[tK,ho,dH,bind,run_bind,h2];exact h1
  ·exact h.elim
 case call c=>
  simp only[tQ,ho]at h;split at h<;>first|exact h.elim|skip
  all_goals first|(exfalso;rename_i hh;cases hh;done)|skip
  rename_i args argTypes hh;cases hh;obtain⟨v,hv,h⟩:=j6 h;refine⟨v,h,?_⟩;simp only[tK,ho];exact hv
 case entry x=>
  simp only[tQ,ho]at h;obtain⟨v,hv,h⟩:=h;refine⟨v,h,?_⟩;simp only[tK,ho];exact hv
 all_goals(simp only[tQ,ho]at h)
def z3g:List Mon->ac->Prop->Prop
 |[],_,X=>X
 |m::ms,w,X=>m.2 w/\z3g ms w X
def zMx:∀{M:List Mon} {w:ac} {X:Prop},z3g M w X->zOc M w/\X
 |[],_,_,h=>⟨λm hm=>(by cases hm),h⟩
 |m::ms,w,X,h=>by
  obtain⟨h1,h2⟩:=h;obtain⟨h3,h4⟩:=zMx h2;refine⟨λm' hm=> ?_,h4⟩;rcases y6q.1 hm with rfl|hm
  ·exact h1
  ·exact h3 _ hm
def yMy:List Nat->(Nat->Prop)->Prop
 |[],_=>True
 |[e],f=>f e
 |e::es,f=>f e/\yMy es f
def zMt:∀{l:List Nat} {f:Nat->Prop},yMy l f->∀i∈l,f i
 |[],_,_,i,hi=>by cases hi
 |[e],f,h,i,hi=>by rcases y7q.1 hi with rfl;exact h
 |e::e'::es,f,h,i,hi=>by
  rcases y6q.1 hi with rfl|hi
  ·exact h.1
  ·exact zMt h.2 i hi
def yNv (P:aa) (ops:List aj) (i:Nat):Bool:=
 match ops[i]? with
 |some o=>match zUv P o.op with
  |2=>bu
  |_=>bo
 |none=>bo
def zBp (P:aa) (ops:List aj) (bf:List Nat):Nat->Array Bool->List Mon->Env->ac->(Env->ac->Prop)->Prop
 |0,listed,_,ρ,w,K=>
  match ci .any ops.toArray listed with
  |[]=>K ρ w
  |_=>False
 |fuel+1,listed,M,ρ,w,K=>
  match ci .any ops.toArray listed with
  |[]=>K ρ w
  |r::rs=>
   match(r::rs).find? (yNv P ops)with
   |some i=>
    match ops[i]? with
    |none=>False
    |some o=>zQa ops o.guard ρ
      (λρ'=>match zUv P o.op with
        |0=>dM P o ρ' λv=>zBp P ops bf fuel (listed.setIfInBounds i bo) M (put ρ' o.dst v) w K
        |_=>tQ P o ρ' w λv=>zBp P ops bf fuel (listed.setIfInBounds i bo) ((i,tK P o ρ' v)::M) (put ρ' o.dst v) w K)
      (λρ'=>zBp P ops bf fuel (listed.setIfInBounds i bo) M (put ρ' o.dst ao) w K)
   |none=>yMy (r::rs) λi=>
    match ops[i]? with
    |none=>False
    |some o=>zQa ops o.guard ρ
      (λρ'=>fS P o ρ' w λv w'=>z3g (jB bf i M) w' (zBp P ops bf fuel (listed.setIfInBounds i bo) (jB bf i M) (put ρ' o.dst v) w' K))
      (λρ'=>zBp P ops bf fuel (listed.setIfInBounds i bo) (jB bf i M) (put ρ' o.dst ao) w K)
def aZ {n:Nat} {A:Nat->Bool} {l:List aj} (h:zJr n A l) {i:Nat} {o:aj} (ho:l[i]? =ay o):∀d,o.dst=ay d->d<n/\A d=bo:=
 h o (y6j ho)
def aH {P:aa} {ops:Array aj} {bf:List Nat} {Q:Act->ac->Prop} {i:Nat} {f:ac->Prop} (hf:∀w,f w):
 ∀(fuel:Nat) {M:List Mon} (listed:Array Bool) (a:Act) (w:ac),zEl P ops bf Q fuel M listed a w->zEl P ops bf Q fuel ((i,f)::M) listed a w
 |0,_,_,_,_,h=>h
 |fuel+1,M,listed,a,w,h=>⟨h.1,λj hj=>zBf (h.2 j hj) λa' w' hh=>by
   have hk:jB bf j ((i,f)::M)=if Bef bf j i then jB bf j M else(i,f)::jB bf j M:=by
    simp only[jB,List.filter_cons];cases Bef bf j i<;>simp
   rw[hk];cases Bef bf j i
   ·refine⟨λm hm=> ?_,aH hf fuel _ _ _ hh.2⟩;simp only[y6s,if_false,y6q]at hm;rcases hm with rfl|hm
    ·exact hf w'
    ·exact hh.1 m hm
   ·exact hh⟩
def zXr {P:aa} {ops:Array aj} {bf:List Nat} {Q:Act->ac->Prop} {i:Nat} {f g:ac->Prop} (hfg:∀w,f w->g w):
 ∀(fuel:Nat) {M:List Mon} (listed:Array Bool) (a:Act) (w:ac),zEl P ops bf Q fuel ((i,f)::M) listed a w->zEl P ops bf Q fuel ((i,g)::M) listed a w
 |0,_,_,_,_,h=>h
 |fuel+1,M,listed,a,w,h=>⟨h.1,λj hj=>zBf (h.2 j hj) λa' w' hh=>by
   have hk:∀f:ac->Prop,jB bf j ((i,f)::M)=if Bef bf j i then jB bf j M else(i,f)::jB bf j M:=by
    intro f;simp only[jB,List.filter_cons];cases Bef bf j i<;>simp
   rw[hk]at hh ⊢;cases hb:Bef bf j i
   ·rw[hb]at hh;simp only[y6s,if_false]at hh ⊢;refine⟨λm hm=> ?_,zXr hfg fuel _ _ _ hh.2⟩;rcases y6q.1 hm with rfl|hm
    ·exact hfg w' (hh.1 _ y6e)
    ·exact hh.1 m (y6g _ hm)
   ·rw[hb]at hh;exact hh⟩
def z3m {P:aa} {ops:List aj} {n:Nat} {A:Nat->Bool} {e0:Env} {K:Env->ac->Prop} {Q:Act->ac->Prop} (hok:sJ ops (uW ops [])=bo) (hf:zJr n A ops)
 (hQ:∀a w,Good n A e0 a->K (yL a) w->Q a w):
 ∀(fuel:Nat) (listed:Array Bool) (M:List Mon) (a:Act) (w:ac),sL ops (qE listed)->zOc M w->Good n A e0 a->
  zBp P ops (uW ops []) fuel listed M (yL a) w K->zEl P ops.toArray (uW ops []) Q fuel M listed a w:=by
 intro fuel
 induction fuel with
 |zero=>
  intro listed M a w hc hM hgd h;unfold zBp at h;split at h
  ·rename_i hr;exact⟨hr,hQ a w hgd h⟩
  ·exact h.elim
 |succ fuel ih=>
  intro listed M a w hc hM hgd h;unfold zBp at h;split at h
  ·rename_i hr;exact⟨λ_=>hQ a w hgd h,λi hi=>by rw[hr]at hi;cases hi⟩
  ·rename_i r rs hr;have hne:ci .any ops.toArray listed≠[]:=by rw[hr];simp
   split at h
   ·rename_i i hfind;have hi:i∈ci .any ops.toArray listed:=by rw[hr];exact xBl hfind
    split at h<;>first|exact h.elim|skip
    rename_i o ho;have hput:∀v,yL (a.put o.dst v)=put (yL a) o.dst v:=λv=>hgd.envOf_put (aZ hf ho) v
    have hg:=tG h;have nx:∀{M:List Mon} {v:ab},zOc M w->zBp P ops (uW ops []) fuel (listed.setIfInBounds i bo) M (put (yL a) o.dst v) w K->
     zEl P ops.toArray (uW ops []) Q fuel M (listed.setIfInBounds i bo) (a.put o.dst v) w:=λ{M v} hM hh=>
     ih _ _ _ _ (vW hc hi) hM (hgd.put (aZ hf ho) _) (by rw[hput];exact hh)
    by_cases hw:cn o (yielded ops.toArray a.tmps)=bo
    ·rw[y6a hw]at hg;split at hg
     ·obtain⟨v,hk,hfree⟩:=gK hg;rw[wB]at hfree;have hs:∀w,tF P ops.toArray o v a w:=λw=> .inl ⟨hw,hfree w⟩
      exact gN hok ho fuel M listed a w hc hi (hs w) hM (aH hs fuel _ _ _ (nx hM hk))
     ·obtain⟨v,hk,hst⟩:=z4q hg;have hw':∀w,tK P o (yL a) v w->tF P ops.toArray o v a w:=λw hst=> .inl ⟨hw,by rw[<- wB];exact yBs hst⟩
      refine gN hok ho fuel M listed a w hc hi (hw' w hst) hM (zXr hw' fuel _ _ _ (nx ?_ hk));intro m hm;rcases y6q.1 hm with rfl|hm
      ·exact hst
      ·exact hM m hm
    ·rw[y5x hw]at hg;have hs:∀w,tF P ops.toArray o ao a w:=λw=> .inr ⟨by simpa using hw,rfl⟩
     exact gN hok ho fuel M listed a w hc hi (hs w) hM (aH hs fuel _ _ _ (nx hM hg))
   ·refine⟨λh0=>absurd h0 hne,λi hi=> ?_⟩;have h1:=zMt h i (by rw[<- hr];exact hi);split at h1<;>first|exact h1.elim|skip
    rename_i o ho;have hput:∀v,yL (a.put o.dst v)=put (yL a) o.dst v:=λv=>hgd.envOf_put (aZ hf ho) v
    have hg:=tG h1;unfold zKw;simp only[y7z,ho];by_cases hw:cn o (yielded ops.toArray a.tmps)=bo
    ·rw[y6a hw]at hg ⊢;have hdoes:=zSn hg;rw[wB]at hdoes;refine hdoes.mono λv w' hh=> ?_
     obtain⟨hM',hh⟩:=zMx hh;exact⟨hM',ih _ _ _ _ (vW hc hi) hM' (hgd.put (aZ hf ho) _) (by rw[hput];exact hh)⟩
    ·rw[y5x hw]at hg ⊢;have hM':zOc (jB (uW ops []) i M) w:=λm hm=>hM m (by simp only[jB,y7y]at hm;exact hm.1)
     exact⟨hM',ih _ _ _ _ (vW hc hi) hM' (hgd.put (aZ hf ho) _) (by rw[hput];exact hg)⟩
end Cv
namespace Cv
open Go
structure yIq where
 ι:Type
 chg:ι->List (Nat×ab)
 fix:List Nat
def zYk:List (Nat×ab)->Env->Prop
 |[],_=>True
 |[p],ρ=>ρ p.1=p.2
 |p::l,ρ=>ρ p.1=p.2/\zYk l ρ
def satV_cons {p:Nat×ab} {l:List (Nat×ab)} {ρ:Env}:zYk (p::l) ρ↔ρ p.1=p.2/\zYk l ρ:=by
 cases l<;>simp[zYk]
def z9j:List (Nat×ab)->Env->Env
 |[],ρ=>ρ
 |p::l,ρ=>put (z9j l ρ) (ay p.1) p.2
def zRr:∀{l:List (Nat×ab)} {ρ:Env},zYk l ρ->z9j l ρ=ρ
 |[],_,_=>rfl
 |p::l,ρ,h=>by
  have h:=satV_cons.1 h;simp only[z9j];rw[zRr h.2];exact zZo h.1
def nD (s:Nat):List Nat->Bool
 |[]=>bu
 |x::l=>bif cu s x then bo else nD s l
def memN_iff {s:Nat}:∀{l:List Nat},nD s l=bo↔s∈l
 |[]=>by simp[nD]
 |x::l=>by
  simp only[nD];cases hb:cu s x
  ·have hne:s≠x:=λe=>by subst e;simp at hb
   simp[memN_iff,hne]
  ·have:=y6b hb;simp[this]
def yJx (fix:List Nat) (ρ j:Env):Env:=λs=>bif nD s fix then ρ s else j s
def z2o {fix:List Nat} {ρ j:Env} (h:∀s∈fix,j s=ρ s):yJx fix ρ j=j:=by
 funext s;simp only[yJx];cases hb:nD s fix
 ·rfl
 ·exact(h s (memN_iff.1 hb)).symm
def asg:Code->List Nat
 | .region _ ops _=>ops.toList.filterMap (·.dst)
 | .seq a b=>asg a++asg b
 | .cond _ a b=>asg a++asg b
 | .block _ a=>asg a
 | .loop a=>asg a
 |_=>[]
def nL:Code->Nat
 | .seq a b=>nL a+nL b
 | .cond _ a b=>nL a+nL b
 | .block _ a=>nL a
 | .loop a=>nL a+1
 |_=>0
def ySe (next:Env->ac->Prop) (Q:Exit->Env->ac->Prop):Exit->Env->ac->Prop
 | .normal,ρ,w=>next ρ w
 |e,ρ,w=>Q e ρ w
def yFc (id:Nat) (Q:Exit->Env->ac->Prop):Exit->Env->ac->Prop
 | .exit id',ρ,w=>bif cu id' id then Q .normal ρ w else Q (.exit id') ρ w
 |e,ρ,w=>Q e ρ w
def cnd (t:Bool) (A B:Prop):Prop:=
 match t with
 |true=>A
 |false=>B
def cnd.mk {t:Bool} {A B:Prop} (h1:t=bo->A) (h2:t=bu->B):cnd t A B:=by
 cases t
 ·exact h2 rfl
 ·exact h1 rfl
def z8y (w:ac) (K:ac->Prop):Prop:=∀w',w'=w.drew->K w'
def cwp (P:aa):List yIq->Code->(Exit->Env->ac->Prop)->Env->ac->Prop
 |_,.skip,Q,ρ,w=>Q .normal ρ w
 |an,.seq a b,Q,ρ,w=>cwp P (an.take (nL a)) a (ySe (λρ w=>cwp P (an.drop (nL a)) b Q ρ w) Q) ρ w
 |an,.cond c a b,Q,ρ,w=>
  match ev ρ c with
  | .bool t=>cnd t (cwp P (an.take (nL a)) a Q ρ w) (cwp P (an.drop (nL a)) b Q ρ w)
  |_=>False
 |an,.block id a,Q,ρ,w=>cwp P an a (yFc id Q) ρ w
 |an,.loop a,Q,ρ,w=>
  match an with
  |[]=>False
  |x::rest=>∃(I:x.ι->ac->Prop) (μ:x.ι->ac->Nat),(∃i0,zYk (x.chg i0) ρ/\I i0 w)/\
    ∀(j:Env) (i:x.ι) (w1:ac),I i w1->cwp P rest a (ySe (λρ' w'=>∃i',zYk (x.chg i') ρ'/\I i' w'/\μ i' w'<μ i w1) Q) (z9j (x.chg i) (yJx x.fix ρ j)) w1
 |_,.exit id,Q,ρ,w=>Q (.exit id) ρ w
 |_,.ret,Q,ρ,w=>Q .ret ρ w
 |_,.region _ ops d,Q,ρ,w=>bif d then z8y w λw=>zBp P ops.toList (uW ops.toList []) ops.toList.length (dc ops.toList.length bu) [] ρ w (Q .normal)
    else z1m P ops.toList ops.toList ρ w (Q .normal)
 |_,_,_,_,_=>False
def okC (n:Nat):Code->Bool
 | .region _ ops d=>(ops.toList.all λo=>match o.dst with|none=>bo|some d=>cw d n) && (bif d then sJ ops.toList (uW ops.toList [])else bo)
 | .seq a b=>okC n a && okC n b
 | .cond _ a b=>okC n a && okC n b
 | .block _ a=>okC n a
 | .loop a=>okC n a
 |_=>bo
def okF:List yIq->Code->Bool
 |an,.seq a b=>okF (an.take (nL a)) a && okF (an.drop (nL a)) b
 |an,.cond _ a b=>okF (an.take (nL a)) a && okF (an.drop (nL a)) b
 |an,.block _ a=>okF an a
 |an,.loop a=>match an with
  |[]=>bu
  |x::rest=>(x.fix.all λs=> !nD s (asg a)) && okF rest a
 |_,_=>bo
def z1d {n:Nat} {A:Nat->Bool} {ops:List aj} (h:(ops.all λo=>match o.dst with|none=>bo|some d=>cw d n)=bo) (hA:∀s∈ops.filterMap (·.dst),A s=bo):zJr n A ops:=by
 intro o ho d hd;have:=y9e.1 h o ho;rw[hd]at this;exact⟨by simpa[y8z]using this,hA d (xBf.2 ⟨o,ho,hd⟩)⟩
def z6n (n:Nat) (A:Nat->Bool) (e0:Env) (Q:Exit->Env->ac->Prop):Exit->Act->ac->Prop:=λe a w=>Good n A e0 a/\Q e (yL a) w
def yBp {P:aa} (hm:P.follows .mixedOrders=bo) {n:Nat}:∀(c:Code) (an:List yIq) (Q:Exit->Env->ac->Prop) (A:Nat->Bool) (e0:Env) (a:Act) (w:ac),
 okC n c=bo->okF an c=bo->(∀s∈asg c,A s=bo)->Good n A e0 a->cwp P an c Q (yL a) w->c.wp P (z6n n A e0 Q) a w:=by
 intro c
 induction c with
 |skip=>intro an Q A e0 a w _ _ _ hg h;exact wp_skip ⟨hg,h⟩
 |region id ops d=>
  intro an Q A e0 a w hc _ hA hg h;simp only[okC,y6l]at hc;have hdst:=z1d (A:=A) hc.1 hA;cases d
  ·refine wp_region_list ?_;exact zQb (Q:=z6n n A e0 Q) (K:=Q .normal) (λa w hg h=>⟨hg,h⟩) ops.toList a w hdst hg h
  ·refine wp_region_any hm ?_;have h':=h _ rfl;have hok:sJ ops.toList (uW ops.toList [])=bo:=hc.2;refine gE (Q:=λa w=>z6n n A e0 Q .normal a w) (λ_ _ h=>h) ops.size _ _ _ (M:=[]) (bf:=uW ops.toList []) ?_;have hclosed:sL ops.toList (qE (dc ops.toList.length bu)):=by
    intro i o ho hi;exfalso;unfold qE at hi;simp[y7v]at hi;rw[xBp]at hi;split at hi<;>simp at hi
   have:=z3m (P:=P) (K:=Q .normal) (Q:=λa w=>z6n n A e0 Q .normal a w) hok hdst (λa w hg h=>⟨hg,h⟩) ops.toList.length _ [] a _ hclosed (λm hm=>by cases hm) hg h';simpa using this
 |seq x y ihx ihy=>
  intro an Q A e0 a w hc hf hA hg h;simp only[okC,okF,y6l,asg,y7d]at hc hf hA;refine wp_seq (aw (ihx _ _ A e0 a w hc.1 hf.1 (λs hs=>hA s (.inl hs)) hg h) ?_);rintro e a' w' ⟨hg',h'⟩;cases e<;>first|exact ihy _ _ A e0 a' w' hc.2 hf.2 (λs hs=>hA s (.inr hs)) hg' h'|exact⟨hg',h'⟩
 |cond c x y ihx ihy=>
  intro an Q A e0 a w hc hf hA hg h;simp only[okC,okF,y6l,asg,y7d]at hc hf hA;simp only[cwp]at h;rw[wB]at h;split at h
  ·rename_i t ht;refine wp_cond_split ht (λe=> ?_) (λe=> ?_)
   ·subst e;exact ihx _ _ A e0 a w hc.1 hf.1 (λs hs=>hA s (.inl hs)) hg h
   ·subst e;exact ihy _ _ A e0 a w hc.2 hf.2 (λs hs=>hA s (.inr hs)) hg h
  ·exact h.elim
 |block id x ih=>
  intro an Q A e0 a w hc hf hA hg h;refine wp_block (aw (ih an _ A e0 a w hc hf hA hg h) ?_);rintro e a' w' ⟨hg',h'⟩;cases e<;>first|exact⟨hg',h'⟩|skip
  rename_i id';simp only[Exit.inBlock];simp only[yFc]at h';split
  ·rename_i heq;subst heq;rw[Nat.beq_refl]at h';exact⟨hg',h'⟩
  ·rename_i hne;have hb:cu id' id=bu:=by
    cases hb:cu id' id with
    |false=>rfl
    |true=>exact absurd (y6b hb) hne
   rw[hb]at h';exact⟨hg',h'⟩
 |loop x ih=>
  intro an Q A e0 a w hc hf hA hg h;cases an with
  |nil=>exact h.elim
  |cons an rest=>
   simp only[okF,y6l]at hf;obtain⟨I,μ,⟨i0,hs0,hi0⟩,hround⟩:=h;refine wp_loop_ghost (λm a' w'=>Good n A e0 a'/\(∀s∈an.fix,yL a' s=yL a s)/\∃i,zYk (an.chg i) (yL a')/\I i w'/\μ i w'=m) (μ i0 w) ⟨hg,λ_ _=>rfl,i0,hs0,hi0,rfl⟩ ?_;rintro m a' w' ⟨hg',hfix,i,hsat,hI,rfl⟩;have h1:=hround (yL a') i w' hI;rw[z2o hfix,zRr hsat]at h1;have hgB:Good n (λs=>A s && nD s (asg x)) (yL a') a':=⟨hg'.size,hg'.defers,λ_ _=>rfl⟩
   refine aw (ih rest _ (λs=>A s && nD s (asg x)) (yL a') a' w' hc hf.2 (λs hs=>by rw[hA s hs,memN_iff.2 hs];rfl) hgB h1) ?_;rintro e a2 w2 ⟨hg2,h2⟩;have hg3:Good n A e0 a2:=⟨hg2.size,hg2.defers,λs hs=>by rw[hg2.same s (by simp[hs]),hg'.same s hs]⟩
   cases e<;>first|exact⟨hg3,h2⟩|skip
   obtain⟨i',hs',hI',hlt⟩:=h2;refine⟨_,hlt,hg3,λs hs=> ?_,i',hs',hI',rfl⟩;have:=y9e.1 hf.1 s hs;rw[hg2.same s (by simp at this;simp[this]),hfix s hs]
 |exit id=>intro an Q A e0 a w _ _ _ hg h;exact wp_exit ⟨hg,h⟩
 |ret=>intro an Q A e0 a w _ _ _ hg h;exact wp_ret ⟨hg,h⟩
 |rangeFunc f ps x y ihx ihy=>intro an Q A e0 a w _ _ _ hg h;exact h.elim
 |scope x ih=>intro an Q A e0 a w _ _ _ hg h;exact h.elim
 |label l=>intro an Q A e0 a w _ _ _ hg h;exact h.elim
 |goto l=>intro an Q A e0 a w _ _ _ hg h;exact h.elim
 |refuse s=>intro an Q A e0 a w _ _ _ hg h;exact h.elim
end Cv
namespace Cv
open Go
def bs (l:List Nat):ByteArray:=⟨(l.map Nat.toUInt8).toArray⟩
def z3j (P:aa):List ResultVar->Env->ac->(List ab->Prop)->Prop
 |[],_,_,K=>K []
 | .tmp t::rs,ρ,w,K=>z3j P rs ρ w λvs=>K (ρ t::vs)
 | .cell a t::rs,ρ,w,K=>
   match ρ a with
   | .pointer p=>zYq p λad=>exT P t λv=>mY P t ad w v/\z3j P rs ρ w λvs=>K (v::vs)
   |_=>False
def zFi:List ab->ab
 |[v]=>v
 |vs=> .tuple vs.toArray
def zWu (P:aa) (fn:Func) (R:Ending->ac->Prop):Exit->Env->ac->Prop
 | .normal,ρ,w=>z3j P fn.results.toList ρ w λvs=>R (.returned (zFi vs)) w
 | .ret,ρ,w=>z3j P fn.results.toList ρ w λvs=>R (.returned (zFi vs)) w
 |_,_,_=>False
def uJ (args:List ab):Env:=λi=>args.getD i ao
def zWn (tmps:Array ab):ResultVar->Sem ab
 | .tmp t=>pure (tmps.getD t ao)
 | .cell a t=>(asAddr (tmps.getD a ao)).bind λad=>loadVar t ad
def zNc {P:aa} {tmps:Array ab} {w:ac}:∀{rs:List ResultVar} {K:List ab->Prop},z3j P rs (λi=>tmps.getD i ao) w K->
 ∃vs,(rs.mapM (zWn tmps)).run P w= .ok vs w/\K vs
 |[],K,h=>⟨[],rfl,h⟩
 | .tmp t::rs,K,h=>by
   obtain⟨vs,h1,h3⟩:=zNc (rs:=rs) h;refine⟨_::vs,?_,h3⟩;simp only[db,zWn,bind,pure,run_bind,be,bc]at h1 ⊢;rw[h1]
 | .cell a t::rs,K,h=>by
   simp only[z3j]at h;split at h
   ·rename_i p hp;obtain⟨ad,rfl,h⟩:=pH h;obtain⟨v,hv,h⟩:=wZ h;obtain⟨vs,h1,h3⟩:=zNc (rs:=rs) h;refine⟨v::vs,?_,h3⟩;simp only[db,zWn,bind,pure,run_bind,be,bc,hp,asAddr]at h1 ⊢;rw[hv];simp only[h1]
   ·exact h.elim
def zKe {P:aa} {tmps:Array ab} {w:ac} {vs:List ab} {rs:List ResultVar} (h:(rs.mapM (zWn tmps)).run P w= .ok vs w) (F:ResultVar->Sem ab) (hF:∀r,F r=zWn tmps r):
 ((rs.mapM F).bind λvs=>bg (if h:vs.toArray.size=1 then vs.toArray[0]else .tuple vs.toArray)).run P w= .ok (zFi vs) w:=by
 obtain rfl:F=zWn tmps:=funext hF;rw[run_bind,h];simp only[bc];cases vs with
 |nil=>rfl
 |cons v vs=>
  cases vs with
  |nil=>rfl
  |cons u us=>simp[zFi]
def zKb {P:aa} {fn:Func} {tmps:Array ab} {w:ac} {K:ab->Prop} (h:z3j P fn.results.toList (λi=>tmps.getD i ao) w λvs=>K (zFi vs)):
 ∃v,(results fn tmps).run P w= .ok v w/\K v:=by
 obtain⟨vs,h1,h3⟩:=zNc h;refine⟨zFi vs,?_,h3⟩;unfold results;rw[Array.mapM_eq_mapM_toList,map_eq_pure_bind,bind_assoc];exact zKe h1 _ (λr=>by cases r<;>rfl)
def calls_of_cwp {P:aa} {f:av} {fn:Func} {c:Code} {args:List ab} {w:ac} {R:Ending->ac->Prop} (hm:P.follows .mixedOrders=bo)
 (hf:P.funcs[f]? =ay fn) (hb:fn.body=ay c) (an:List yIq) (hok:okC fn.ntmps c=bo) (hfx:okF an c=bo) (hsz':cx args.length fn.ntmps=bo)
 (h:cwp P an c (zWu P fn R) (uJ args) w):Calls P f args.toArray w R:=by
 have hsz:=y8e hsz';refine calls_of_wp hf hb ?_;have hg:Good fn.ntmps (λ_=>bo) (uJ args) {tmps:=args.toArray++dc (fn.ntmps-args.toArray.size) ao,defers:=[]}:=
  ⟨by simp;omega,rfl,λs hs=>by cases hs⟩
 have henv:yL {tmps:=args.toArray++dc (fn.ntmps-args.toArray.size) ao,defers:=[]}=uJ args:=by
  funext i;simp only[yL,uJ,y7v,y6h,Array.getElem?_append];split
  ·simp
  ·rename_i hlt;simp at hlt;rw[y7c hlt,xBp];split<;>rfl
 refine aw (yBp hm c an _ (λ_=>bo) (uJ args) _ w hok hfx (λ_ _=>rfl) hg (henv▸h)) ?_;rintro e a' w' ⟨hg',h'⟩;cases e<;>first|exact h'.elim|skip
 ·obtain⟨v,hv,hk⟩:=zKb (K:=λv=>R (.returned v) w') h';exact⟨hg'.defers,v,hv,hk⟩
 ·obtain⟨v,hv,hk⟩:=zKb (K:=λv=>R (.returned v) w') h';exact⟨hg'.defers,v,hv,hk⟩
def zJt {P:aa} {f:av} {fn:Func} {c:Code} {args:List ab} {w:ac} {R:Ending->ac->Prop} {V:Prop} (hm:P.follows .mixedOrders=bo)
 (hf:P.funcs[f]? =ay fn) (hb:fn.body=ay c) (an:List yIq) (hok:okC fn.ntmps c=bo) (hfx:okF an c=bo) (hsz:cx args.length fn.ntmps=bo)
 (e:V=cwp P an c (zWu P fn R) (uJ args) w) (h:V):Calls P f args.toArray w R:=
 calls_of_cwp hm hf hb an hok hfx hsz (e▸h)
end Cv
namespace Cv
open Go Go.RowKit
@[reducible] def PH:=Nat->Option Obj
@[reducible] def HP:=PH->Prop
def pe:PH:=λ_=>az
def one (b:Nat) (o:Obj):PH:=λx=>if x=b then ay o else az
def Dj (g h:PH):Prop:=∀b,g b=az\/h b=az
def Sub (h:PH) (w:ac):Prop:=∀b o,h b=ay o->w.heap[b]?=ay o
def un (g h:PH):PH:=λb=>match g b with|some o=>ay o|none=>h b
def Dj.symm {g h:PH} (d:Dj g h):Dj h g:=λb=>(d b).symm
def Dj.pe (h:PH):Dj pe h:=λ_=> .inl rfl
def z9h {g g' h:PH} (d:Dj g h) (d':Dj g' h):Dj (un g g') h:=λb=>by
 rcases d b with e|e
 ·rcases d' b with e'|e'
  ·left;simp[un,e,e']
  ·exact .inr e'
 ·exact .inr e
def zOf {g g' h:PH} (d:Dj (un g g') h) (dg:Dj g g'):Dj g h/\Dj g' h:=by
 refine⟨λb=> ?_,λb=> ?_⟩
 ·rcases d b with e|e
  ·left;simp only[un]at e;cases hg:g b with
   |none=>rfl
   |some o=>rw[hg]at e;cases e
  ·exact .inr e
 ·rcases d b with e|e
  ·left;simp only[un]at e;cases hg:g b with
   |none=>rw[hg]at e;exact e
   |some o=>rw[hg]at e;cases e
  ·exact .inr e
def yHe {g h:PH} {w:ac} (a:Sub g w) (b:Sub h w):Sub (un g h) w:=λx o e=>by
 simp only[un]at e;cases hg:g x with
 |some o'=>rw[hg]at e;cases e;exact a x _ hg
 |none=>rw[hg]at e;exact b x o e
def yBn {g h:PH} {w:ac} (s:Sub (un g h) w) (d:Dj g h):Sub g w/\Sub h w:=by
 refine⟨λx o e=>s x o (by simp[un,e]),λx o e=>s x o ?_⟩;rcases d x with e'|e'
 ·simp[un,e',e]
 ·rw[e]at e';cases e'
def Sub.pe (w:ac):Sub Cv.pe w:=λ_ _ e=>by cases e
def Sub.lt {h:PH} {w:ac} (s:Sub h w) {b:Nat} (hb:h b≠az):b<w.heap.size:=by
 cases e:h b with
 |none=>exact absurd e hb
 |some o=>
  have:=s b o e;rcases y8h b w.heap.size with h'|h'
  ·exact h'
  ·rw[y8y h']at this;cases this
structure Ko where
 os:Os
 tape:Nat->Question->Nat
 output:Array (Nat×ByteArray)
def ko (w:ac):Ko:=⟨w.os,w.tape,w.output⟩
def Kon (k:Ko) (w:ac):Prop:=w.os=k.os/\w.tape=k.tape/\w.output=k.output
inductive Hs (w:ac):List HP->List PH->Prop
 |nil:Hs w [] []
 |cons {A:HP} {h:PH} {L:List HP} {hs:List PH}:A h->Sub h w->(∀g∈hs,Dj h g)->Hs w L hs->Hs w (A::L) (h::hs)
def Hp (k:Ko) (w:ac) (L:List HP):Prop:=Kon k w/\∃hs,Hs w L hs
def Sat (w:ac) (A:HP):Prop:=∃h,A h/\Sub h w
def Hs.perm {w:ac} {L L':List HP} (p:L.Perm L'):∀{hs:List PH},Hs w L hs->∃hs',Hs w L' hs'/\hs.Perm hs':=by
 induction p with
 |nil=>intro hs h;cases h;exact⟨[],.nil,.nil⟩
 |cons A _ ih=>
  intro hs h;cases h with
  |cons ha hsub hd hr=>
   obtain⟨hs',h1,h2⟩:=ih hr;exact⟨_,.cons ha hsub (λg hg=>hd g (h2.mem_iff.2 hg)) h1,.cons _ h2⟩
 |swap A B L=>
  intro hs h;cases h with
  |cons hb hbs hbd hr=>
   cases hr with
   |cons ha has had hr=>
    refine⟨_,.cons ha has ?_ (.cons hb hbs (λg hg=>hbd g (y6g _ hg)) hr),.swap _ _ _⟩;intro g hg;rcases y6q.1 hg with rfl|hg
    ·exact(hbd _ y6e).symm
    ·exact had g hg
 |trans _ _ ih1 ih2=>
  intro hs h;obtain⟨hs1,h1,p1⟩:=ih1 h;obtain⟨hs2,h2,p2⟩:=ih2 h1;exact⟨hs2,h2,p1.trans p2⟩
def Hp.perm {k:Ko} {w:ac} {L L':List HP} (H:Hp k w L) (p:L.Perm L'):Hp k w L':=
 ⟨H.1,let⟨_,h⟩:=H.2;let⟨hs',h',_⟩:=h.perm p;⟨hs',h'⟩⟩
def Hp.drop {k:Ko} {w:ac} {A:HP} {L:List HP} (H:Hp k w (A::L)):Hp k w L:=by
 obtain⟨hk,hs,hh⟩:=H;cases hh with
 |cons _ _ _ hr=>exact⟨hk,_,hr⟩
def Hp.sat {k:Ko} {w:ac} {A:HP} {L:List HP} (H:Hp k w (A::L)):Sat w A:=by
 obtain⟨hk,hs,hh⟩:=H;cases hh with
 |cons ha hsub _ _=>exact⟨_,ha,hsub⟩
def Hp.imp {k:Ko} {w:ac} {A B:HP} {L:List HP} (H:Hp k w (A::L)) (h:∀x,A x->B x):Hp k w (B::L):=by
 obtain⟨hk,hs,hh⟩:=H;cases hh with
 |cons ha hsub hd hr=>exact⟨hk,_,.cons (h _ ha) hsub hd hr⟩
def pt (b:Nat) (o:Obj):HP:=λh=>h=one b o
def hPu (p:Prop):HP:=λh=>p/\h=pe
def hS2 (A B:HP):HP:=λh=>∃g g',A g/\B g'/\Dj g g'/\h=un g g'
def hS:List HP->HP
 |[]=>λh=>h=pe
 |[A]=>A
 |A::L=>hS2 A (hS L)
def uV {k:Ko} {w:ac} {p:Prop} {L:List HP}:Hp k w (hPu p::L)↔p/\Hp k w L:=by
 constructor
 ·rintro⟨hk,hs,hh⟩;cases hh with
  |cons ha hsub hd hr=>exact⟨ha.1,hk,_,hr⟩
 ·rintro⟨hp,hk,hs,hh⟩;exact⟨hk,_,.cons ⟨hp,rfl⟩ (Sub.pe w) (λg _=>Dj.pe g) hh⟩
def hp_star2 {k:Ko} {w:ac} {A B:HP} {L:List HP}:Hp k w (hS2 A B::L)↔Hp k w (A::B::L):=by
 constructor
 ·rintro⟨hk,hs,hh⟩;cases hh with
  |cons ha hsub hd hr=>
   obtain⟨g,g',h1,h2,h3,rfl⟩:=ha;obtain⟨s1,s2⟩:=yBn hsub h3;refine⟨hk,_,.cons h1 s1 ?_ (.cons h2 s2 (λx hx=>(zOf (hd x hx) h3).2) hr)⟩;intro x hx;rcases y6q.1 hx with rfl|hx
   ·exact h3
   ·exact(zOf (hd x hx) h3).1
 ·rintro⟨hk,hs,hh⟩;cases hh with
  |cons h1 s1 d1 hr=>
   cases hr with
   |cons h2 s2 d2 hr=>
    exact⟨hk,_,.cons ⟨_,_,h1,h2,d1 _ y6e,rfl⟩ (yHe s1 s2) (λx hx=>z9h (d1 x (y6g _ hx)) (d2 x hx)) hr⟩
def yFj {k:Ko} {w:ac} {L:List HP}:Hp k w (hS []::L)↔Hp k w L:=by
 have e:hS []=hPu True:=by funext h;simp[hS,hPu]
 rw[e,uV];exact⟨λh=>h.2,λh=>⟨trivial,h⟩⟩
def yHt {k:Ko} {w:ac} {A B:HP} {l L:List HP}:Hp k w (hS (A::B::l)::L)↔Hp k w (A::hS (B::l)::L):=hp_star2
def Hp.swap {k:Ko} {w:ac} {A B:HP} {L:List HP} (H:Hp k w (A::B::L)):Hp k w (B::A::L):=H.perm (.swap _ _ _)
def Hp.cons {k:Ko} {w:ac} {A:HP} {L L':List HP} (H:Hp k w (A::L)) (p:L.Perm L'):Hp k w (A::L'):=H.perm (.cons _ p)
def hp_star {k:Ko} {w:ac}:∀{l L:List HP},Hp k w (hS l::L)↔Hp k w (l++L)
 |[],L=>yFj
 |[A],L=>Iff.rfl
 |A::B::l,L=>by
  rw[yHt];constructor
  ·intro h;have h1:=(hp_star (l:=B::l) (L:=A::L)).1 h.swap;refine h1.perm ?_;exact y6o
  ·intro h;have h1:Hp k w ((B::l)++(A::L)):=h.perm (y6o (l₁:=B::l)).symm;exact((hp_star (l:=B::l) (L:=A::L)).2 h1).swap
def Hs.move {w w':ac} (h:∀(x:PH),Sub x w->Sub x w'):∀{L:List HP} {hs:List PH},Hs w L hs->Hs w' L hs
 |_,_,.nil=> .nil
 |_,_,.cons ha hsub hd hr=> .cons ha (h _ hsub) hd (hr.move h)
def zJi {w w':ac} (h:Below w.heap.size w w') {x:PH} (s:Sub x w):Sub x w':=λb o e=>by
 rw[h.block b (s.lt (by rw[e];simp))];exact s b o e
def zQz {k:Ko} {B:Nat} {w w':ac} (h:Below B w w') (hk:Kon k w):Kon k w':=⟨h.os.trans hk.1,h.tape.trans hk.2.1,h.output.trans hk.2.2⟩
def Hp.below {k:Ko} {w w':ac} {L:List HP} (H:Hp k w L) (h:Below w.heap.size w w'):Hp k w' L:=
 ⟨zQz h H.1,let⟨hs,hh⟩:=H.2;⟨hs,hh.move λ_ s=>zJi h s⟩⟩
def Sat.below {w w':ac} {A:HP} (H:Sat w A) (h:Below w.heap.size w w'):Sat w' A:=let⟨x,a,s⟩:=H;⟨x,a,zJi h s⟩
def Hp.drew {k:Ko} {w:ac} {L:List HP} (H:Hp k w L):Hp k w.drew L:=H.below ((Below.refl _ _).drew)
def Hp.new {k:Ko} {w:ac} {L:List HP} (H:Hp k w L) (o:Obj):Hp k (w.alloc o) (pt w.heap.size o::L):=by
 have hb:Below w.heap.size w (w.alloc o):=(Below.refl _ _).alloc (y6v _) o;obtain⟨hk,hs,hh⟩:=H;refine⟨zQz hb hk,_,.cons rfl ?_ ?_ (hh.move λ_ s=>zJi hb s)⟩
 ·intro b o' e;simp only[one]at e;split at e
  ·rename_i hb';subst hb';cases e;exact heap_alloc_new w o
  ·cases e
 ·intro g hg;have hsub:∀{L:List HP} {hs:List PH},Hs w L hs->∀g∈hs,Sub g w:=by
   intro L hs hh
   induction hh with
   |nil=>intro g hg;cases hg
   |cons _ hs _ _ ih=>
    intro g hg;rcases y6q.1 hg with rfl|hg
    ·exact hs
    ·exact ih g hg
  intro b;by_cases hb':b=w.heap.size
  ·right;cases hgb:g b with
   |none=>rfl
   |some o'=>
    have:=(hsub hh g hg).lt (b:=b) (by rw[hgb];simp);omega
  ·left;simp[one,hb']
def World.setB (w:ac) (b:Nat) (o:Obj):ac:={w with heap:=w.heap.setIfInBounds b o}
def Hp.get {k:Ko} {w:ac} {b:Nat} {o:Obj} {L:List HP} (H:Hp k w (pt b o::L)):w.heap[b]? =ay o:=by
 obtain⟨h,rfl,s⟩:=H.sat;exact s b o (by simp[one])
def Hp.upd {k:Ko} {w:ac} {b:Nat} {o:Obj} {L:List HP} (H:Hp k w (pt b o::L)) (o':Obj):Hp k (World.setB w b o') (pt b o'::L):=by
 have hget:=H.get;obtain⟨hk,hs,hh⟩:=H;cases hh with
 |cons ha hsub hd hr=>
  cases ha;have hlt:b<w.heap.size:=hsub.lt (b:=b) (by simp[one]);rename_i hs;have s0:Sub (one b o') (World.setB w b o'):=by
   intro x o2 e;simp only[one]at e;split at e
   ·rename_i hx;subst hx;cases e;simp[World.setB,y9u hlt]
   ·cases e
  have d0:∀g∈hs,Dj (one b o') g:=by
   intro g hg x;rcases hd g hg x with e|e
   ·left;simp only[one]at e ⊢;split at e<;>simp_all
   ·exact .inr e
  have key:∀{L:List HP} {hs:List PH},Hs w L hs->(∀g∈hs,Dj (one b o) g)->Hs (World.setB w b o') L hs:=by
   intro L hs hh
   induction hh with
   |nil=>intro _;exact .nil
   |cons ha hs' hd' _ ih=>
    intro hdj;refine .cons ha ?_ hd' (ih λg hg=>hdj g (y6g _ hg));intro x o2 e;have hne:x≠b:=by
     intro hx;subst hx;rcases hdj _ y6e x with e'|e'
     ·simp[one]at e'
     ·rw[e]at e';cases e'
    simp only[World.setB];rw[xAr (Ne.symm hne)];exact hs' x o2 e
  exact⟨hk,_,.cons rfl s0 d0 (key hr hd)⟩
def base (w0:ac):HP:=λh=>h=λb=>w0.heap[b]?
def Hp.start (w:ac):Hp (Cv.ko w) w [base w]:=⟨⟨rfl,rfl,rfl⟩,_,.cons rfl (λ_ _ e=>e) (λg hg=>by cases hg) .nil⟩
end Cv
namespace Cv
open Go Go.RowKit
def vY (b o n:Nat):(⟨b,o,az⟩:am).add n=⟨b,o+n,az⟩:=by
 unfold Addr.add;split
 ·rename_i h;subst h;rfl
 ·rfl
def zCc (P:aa) (t:ae):Bool:=
 match P.underlying t with
 |some (.struct _)=>bu
 |some (.array _ _)=>bu
 |some _=>bo
 |none=>bu
def zKv (P:aa) (t:ae):Option Nat:=
 match P.underlying t with
 |some (.struct _)=>(P.info? t).map λ(x:TypeInfo)=>x.size
 |some (.array _ _)=>(P.info? t).map λ(x:TypeInfo)=>x.size
 |_=>az
def aO {P:aa} {t:ae} (h:zCc P t=bo) (w:ac):(isAgg t).run P w= .ok bu w:=by
 unfold zCc at h;cases hd:P.underlying t with
 |none=>rw[hd]at h;cases h
 |some d=>
  rw[hd]at h;unfold isAgg;simp only[bind,run_bind,run_underlying hd];cases d<;>first|rfl|(simp at h)
def dZ {P:aa} {t:ae} {n:Nat} (h:zKv P t=ay n) (w:ac):(isAgg t).run P w= .ok bo w/\(Go.sizeOf t).run P w= .ok n w:=by
 unfold zKv at h;cases hd:P.underlying t with
 |none=>rw[hd]at h;cases h
 |some d=>
  rw[hd]at h;cases d<;>simp only[reduceCtorEq]at h
  all_goals
   cases hi:P.info? t with
   |none=>rw[hi]at h;cases h
   |some i=>
    rw[hi]at h;simp only[y8b,cr]at h;subst h;refine⟨?_,run_sizeOf hi w⟩;unfold isAgg;simp only[bind,run_bind,run_underlying hd];rfl
def zXl {P:aa} {w:ac} {a:am} {v:ab} (h:w.cell? a=ay v):(load a).run P w= .ok v w:=by
 simp only[load,bc,h]
def zAr {w:ac} {b o:Nat} {l:List ab} {T:ae} {fr:Nat×Nat} (hb:w.heap[b]? =ay (.cells l.toArray T fr)):w.cell? ⟨b,o,az⟩=l[o]? :=by
 simp[World.cell?,hb]
def wV {P:aa} {t:ae} {w:ac} {b o:Nat} {l:List ab} {T:ae} {fr:Nat×Nat} {v:ab} (hs:zCc P t=bo)
 (hb:w.heap[b]? =ay (.cells l.toArray T fr)) (hc:l[o]? =ay v):mY P t ⟨b,o,az⟩ w v:=by
 unfold mY loadVar;simp only[bind,run_bind,aO hs,y6s,if_false];exact zXl ((zAr hb).trans hc)
def m5 {P:aa} {w:ac} {b o:Nat} {l:List ab} {T:ae} {fr:Nat×Nat} (hb:w.heap[b]? =ay (.cells l.toArray T fr)):
 ∀(n i:Nat) (acc:Array ab),o+i+n<=l.length->(loadCellsFrom ⟨b,o,az⟩ i n acc).run P w= .ok (acc++((l.drop (o+i)).take n).toArray) w
 |0,i,acc,_=>by simp[loadCellsFrom,pure,bc]
 |n+1,i,acc,h=>by
  have hlt:o+i<l.length:=by omega
  have hc:w.cell? ⟨b,o+i,az⟩=ay l[o+i]:=by rw[zAr hb];exact y6z hlt
  unfold loadCellsFrom;simp only[bind,run_bind,vY,zXl hc];rw[m5 hb n (i+1) _ (by omega)];congr 1;rw[y8g hlt,y7k];simp[y9p]
def hZ {P:aa} {w:ac} {b o n:Nat} {l:List ab} {T:ae} {fr:Nat×Nat} (hb:w.heap[b]? =ay (.cells l.toArray T fr)) (h:o+n<=l.length):
 (loadCells ⟨b,o,az⟩ n).run P w= .ok ((l.drop o).take n).toArray w:=by
 unfold loadCells;rw[m5 hb n 0 #[] (by omega)];simp
def zAk {P:aa} {t:ae} {w:ac} {b o n:Nat} {l vs:List ab} {T:ae} {fr:Nat×Nat} (hs:zKv P t=ay n)
 (hb:w.heap[b]? =ay (.cells l.toArray T fr)) (hc:(l.drop o).take n=vs) (hl:vs.length=n):mY P t ⟨b,o,az⟩ w (.agg vs.toArray):=by
 unfold mY loadVar;have hlen:o+n<=l.length\/n=0:=by
  subst hc;simp only[y6t,y6u]at hl;omega
 simp only[bind,run_bind,(dZ hs w).1,if_true,(dZ hs w).2];rcases hlen with hlen|h0
 ·rw[hZ hb hlen,hc];rfl
 ·subst h0;have:vs=[]:=y6y hl;subst this;rfl
def _root_.Go.Value.oneC:ab->Bool
 | .agg _=>bu
 | .tuple _=>bu
 |_=>bo
def spl (l:List ab) (o:Nat) (vs:List ab):List ab:=l.take o++vs++l.drop (o+vs.length)
def yDl (w:ac) (b:Nat) (x y:Obj):World.setB (World.setB w b x) b y=World.setB w b y:=by
 simp[World.setB,Array.setIfInBounds_setIfInBounds]
def z5r {P:aa} {w:ac} {b o:Nat} {l:List ab} {T:ae} {v:ab} (hb:w.heap[b]? =ay (.cells l.toArray T (0,0))) (ho:o<l.length) (hv:v.oneC=bo):
 (store ⟨b,o,az⟩ v).run P w= .ok () (World.setB w b (.cells (l.set o v).toArray T (0,0))):=by
 have hc:w.cell? ⟨b,o,az⟩=ay l[o]:=by rw[zAr hb];exact y6z ho
 have hf:w.frozen? ⟨b,o,az⟩=bu:=by simp[World.frozen?,hb]
 have hset:w.setCell ⟨b,o,az⟩ v=World.setB w b (.cells (l.set o v).toArray T (0,0)):=by
  unfold World.setCell World.setB;congr 1;apply xBx;intro i;rw[Array.getElem?_modify,xAc];have hlt:b<w.heap.size:=by
   rcases y8h b w.heap.size with h|h
   ·exact h
   ·rw[y8y h]at hb;cases hb
  by_cases hi:b=i
  ·subst hi;have hb2:w.heap[b]= .cells l.toArray T (0,0):=by rw[xAo hlt]at hb;exact ct hb
   simp[hlt,hb2]
  ·simp[hi]
 unfold store;cases v<;>first|(cases hv;done)|(simp only[bc,hc,hf,y6s,if_false,hset])
def zLr {l:List ab} {p:Nat} {v:ab} {vs:List ab} (h:p<l.length):spl (l.set p v) (p+1) vs=spl l p (v::vs):=by
 have h1:(l.set p v).take (p+1)=l.take p++[v]:=by
  rw[y9f,y6a h];rw[List.take_append,y6t];simp[y9x (Nat.le_of_lt h),List.take_take]
 have h2:(l.set p v).drop (p+1+vs.length)=l.drop (p+(v::vs).length):=by
  rw[List.drop_set_of_lt (by omega)];congr 1;simp only[y6d];omega
 simp only[spl,h1,h2,y6f,List.singleton_append]
def wI {P:aa} {b:Nat} {T:ae}:∀(vs:List ab) (i o:Nat) (l:List ab) (w:ac),w.heap[b]? =ay (.cells l.toArray T (0,0))->o+i+vs.length<=l.length->
 (∀v∈vs,v.oneC=bo)->(storeCells ⟨b,o,az⟩ vs i).run P w= .ok () (World.setB w b (.cells (spl l (o+i) vs).toArray T (0,0)))
 |[],i,o,l,w,hb,h,_=>by
  have hlt:b<w.heap.size:=by
   rcases y8h b w.heap.size with h|h
   ·exact h
   ·rw[y8y h]at hb;cases hb
  have:World.setB w b (.cells (spl l (o+i) []).toArray T (0,0))=w:=by
   have e:spl l (o+i) []=l:=by simp[spl]
   rw[e];unfold World.setB;have:w.heap.setIfInBounds b (.cells l.toArray T (0,0))=w.heap:=by
    apply xBx;intro j;rw[xAc];split
    ·rename_i hj;subst hj;rw[hb]
    ·rfl
   rw[this]
  unfold storeCells;rw[this];rfl
 |v::vs,i,o,l,w,hb,h,hv=>by
  have hlt:b<w.heap.size:=by
   rcases y8h b w.heap.size with h|h
   ·exact h
   ·rw[y8y h]at hb;cases hb
  simp only[y6d]at h;unfold storeCells;simp only[bind,run_bind,vY,z5r hb (show o+i<l.length by omega) (hv v y6e)];have hb':(World.setB w b (.cells (l.set (o+i) v).toArray T (0,0))).heap[b]? =ay (.cells (l.set (o+i) v).toArray T (0,0)):=by
   simp[World.setB,y9u hlt]
  rw[wI vs (i+1) o (l.set (o+i) v) _ hb' (by rw[y7g];omega) (λu hu=>hv u (y6g _ hu)),yDl];rw[show o+(i+1)=o+i+1 by omega,zLr (show o+i<l.length by omega)]
end Cv
namespace Cv
open Go Go.RowKit
def slO (e sz:Nat) (a:Option am) (n k:Nat) (xs:List ab):HP:=λh=>
 (a=az/\n=0/\k=0/\xs=[]/\h=pe)\/
 ∃b r,a=ay ⟨b,0,az⟩/\h=one b (.cells (xs++r).toArray e)/\xs.length=n*sz/\(xs++r).length=k*sz/\n<=k
def slR (sz:Nat) (a:Option am) (n k:Nat) (xs:List ab):HP:=λh=>
 (n=0/\xs=[]/\h=pe)\/
 ∃(b o:Nat) (l:List ab) (T:ae) (fr:Nat×Nat),a=ay ⟨b,o,az⟩/\h=one b (.cells l.toArray T fr)/\(l.drop o).take (n*sz)=xs/\xs.length=n*sz/\n<=k
def mH {e sz:Nat} {a:Option am} {n k:Nat} {xs:List ab} {h:PH} (H:slO e sz a n k xs h):slR sz a n k xs h:=by
 rcases H with⟨rfl,rfl,rfl,rfl,rfl⟩|⟨b,r,rfl,rfl,h1,h2,h3⟩
 ·exact .inl ⟨rfl,rfl,rfl⟩
 ·right;exact⟨b,0,_,e,_,rfl,rfl,by rw[y9n,<- h1];simp,h1,h3⟩
def Hp.satR {k:Ko} {w:ac} {e sz:Nat} {a:Option am} {n c:Nat} {xs:List ab} {L:List HP} (H:Hp k w (slO e sz a n c xs::L)):Sat w (slR sz a n c xs):=by
 obtain⟨h,hh,s⟩:=H.sat;exact⟨h,mH hh,s⟩
def Hp.slcases {k:Ko} {w:ac} {e sz:Nat} {a:Option am} {n c:Nat} {xs:List ab} {L:List HP} (H:Hp k w (slO e sz a n c xs::L)):
 (a=az/\n=0/\c=0/\xs=[]/\Hp k w L)\/
 ∃b r,a=ay ⟨b,0,az⟩/\xs.length=n*sz/\(xs++r).length=c*sz/\n<=c/\Hp k w (pt b (.cells (xs++r).toArray e)::L):=by
 obtain⟨hk,hs,hh⟩:=H;cases hh with
 |cons ha hsub hd hr=>
  rcases ha with⟨h1,h2,h3,h4,h5⟩|⟨b,r,h1,h2,h3,h4,h5⟩
  ·exact .inl ⟨h1,h2,h3,h4,hk,_,hr⟩
  ·subst h2;exact .inr ⟨b,r,h1,h3,h4,h5,hk,_,.cons rfl hsub hd hr⟩
def Hp.slmk {k:Ko} {w:ac} {e sz b n c:Nat} {xs r:List ab} {L:List HP} (H:Hp k w (pt b (.cells (xs++r).toArray e)::L)) (h1:xs.length=n*sz) (h2:(xs++r).length=c*sz) (h3:n<=c):
 Hp k w (slO e sz (ay ⟨b,0,az⟩) n c xs::L):=H.imp λx hx=> .inr ⟨b,r,rfl,hx,h1,h2,h3⟩
def yAg (e sz:Nat):slO e sz az 0 0 [] pe:= .inl ⟨rfl,rfl,rfl,rfl,rfl⟩
def Hp.nil {k:Ko} {w:ac} {L:List HP} (e sz:Nat) (H:Hp k w L):Hp k w (slO e sz az 0 0 []::L):=
 ((@uV k w True L).2 ⟨trivial,H⟩).imp λx hx=>by rw[hx.2];exact yAg e sz
def Hp.lit {k:Ko} {w:ac} {b e sz n:Nat} {l:List ab} {L:List HP} (H:Hp k w (pt b (.cells l.toArray e)::L)) (hl:l.length=n*sz):Hp k w (slO e sz (ay ⟨b,0,az⟩) n n l::L):=
 H.imp λx hx=> .inr ⟨b,[],rfl,by rw[hx,y6w],hl,by simpa using hl,y6v _⟩
def zLg {e sz:Nat} {a:Option am} {n k:Nat} {xs:List ab} {h:PH} (H:slO e sz a n k xs h):xs.length=n*sz/\n<=k:=by
 rcases H with⟨rfl,rfl,rfl,rfl,rfl⟩|⟨b,r,rfl,rfl,h1,h2,h3⟩
 ·simp
 ·exact⟨h1,h3⟩
def Hp.len {k:Ko} {w:ac} {e sz:Nat} {a:Option am} {n c:Nat} {xs:List ab} {L:List HP} (H:Hp k w (slO e sz a n c xs::L)):xs.length=n*sz/\n<=c:=by
 obtain⟨h,hh,s⟩:=H.sat;exact zLg hh
def z8w {w:ac} {sz:Nat} {a:Option am} {n k:Nat} {xs:List ab} (H:Sat w (slR sz a n k xs)):xs.length=n*sz:=by
 obtain⟨h,hh,s⟩:=H;rcases hh with⟨rfl,rfl,_⟩|⟨b,o,l,T,fr,rfl,rfl,h1,h2,_⟩
 ·simp
 ·exact h2
def zDk {w:ac} {sz:Nat} {a:Option am} {n k:Nat} {xs:List ab} (H:Sat w (slR sz a n k xs)) (hn:0<n):
 ∃(b o:Nat) (l:List ab) (T:ae) (fr:Nat×Nat),a=ay ⟨b,o,az⟩/\w.heap[b]? =ay (.cells l.toArray T fr)/\(l.drop o).take (n*sz)=xs:=by
 obtain⟨h,hh,s⟩:=H;rcases hh with⟨rfl,rfl,_⟩|⟨b,o,l,T,fr,rfl,rfl,h1,h2,_⟩
 ·omega
 ·exact⟨b,o,l,T,fr,rfl,s b _ (by simp[one]),h1⟩
def zRb (m:Nat) (hm:256<=m):∀(r c:Nat),c<=2*m->Builtin.growBy m r c<=2*m
 |0,c,h=>h
 |r+1,c,h=>by
  unfold Builtin.growBy;split
  ·exact h
  ·exact zRb m hm r _ (by omega)
def zOu {need cap:Nat} (h:cap<need):Builtin.nextslicecap need cap<=2*need:=by
 unfold Builtin.nextslicecap;split
 ·omega
 ·split
  ·omega
  ·exact zRb need (by omega) 4 cap (by omega)
def Src (sz:Nat) (w:ac) (x:ab) (m:Nat) (ys:List ab):Prop:=
 (∃a k,x=.slice a m k/\Sat w (slR sz a m k ys))\/(∃s:ByteArray,x=.string s/\sz=1/\m=s.size/\ys=s.data.toList.map λb=> .int .u8 b.toNat)
def zGd {P:aa} {sz:Nat} {w:ac} {x:ab} {m:Nat} {ys:List ab} (h:Src sz w x m ys):
 (Builtin.lenOf x).run P w= .ok m w/\(bz sz m x).run P w= .ok ys.toArray w/\ys.length=m*sz:=by
 rcases h with⟨a,k,rfl,H⟩|⟨s,rfl,rfl,rfl,rfl⟩
 ·refine⟨rfl,?_,z8w H⟩;have hl:=z8w H;obtain⟨h,hh,s⟩:=H;rcases hh with⟨rfl,rfl,_⟩|⟨b,o,l,T,fr,rfl,rfl,h1,h2,_⟩
  ·cases a with
   |none=>rfl
   |some a=>simp[bz,loadCells,loadCellsFrom,pure,bc]
  ·have hb:=s b _ (show one b _ b=_ by simp[one];rfl);unfold bz;by_cases h0:m*sz=0
   ·rw[h0]at h1 hl ⊢;have:ys=[]:=y6y hl;subst this;rfl
   ·have:o+m*sz<=l.length:=by
     rw[<- h1,y6t,y6u]at h2;omega
    rw[hZ hb this,h1]
 ·refine⟨rfl,?_,by simp⟩;simp only[bz];have:s.extract 0 s.size=s:=by simp
  rw[this];simp only[pure,bc];congr 1;apply dd;simp
def z4j (P:aa) (t:ae):Bool:=
 match P.underlying t with
 |some (.slice _)=>bo
 |some .string=>bo
 |_=>bu
def zLx {P:aa} {t:ae} (h:z4j P t=bo):(∃e,P.underlying t=ay (.slice e))\/P.underlying t=ay .string:=by
 unfold z4j at h;cases hd:P.underlying t with
 |none=>rw[hd]at h;cases h
 |some d=>
  rw[hd]at h;cases d<;>first|exact .inl ⟨_,rfl⟩|exact .inr rfl|(cases h)
def Hp.append {P:aa} {k:Ko} {w:ac} {L:List HP} {t1 t2 rt e sz by_:Nat} {z:Array ab} (hi:vT P t1=ay (e,sz,by_,z)) (h2:z4j P t2=bo) {a:Option am} {n c:Nat} {xs:List ab}
 (H:Hp k w (slO e sz a n c xs::L)) {x:ab} {m:Nat} {ys:List ab} (hx:Src sz w x m ys) (hv:∀v∈ys,v.oneC=bo) (hz:z.size=sz) (hby:0<by_) (hb:(n+m)*by_<=140737488355328):
 ∃a' c' w',u9 P (ce #[t1,t2] rt #[.slice a n c,x]) w (.slice a' (n+m) c') w'/\Hp k w' (slO e sz a' (n+m) c' (xs++ys)::L):=by
 obtain⟨i,zv,q1,q2,rfl,rfl,q5,rfl⟩:=kM hi;obtain⟨r1,r2,hylen⟩:=zGd (P:=P) hx;obtain⟨hxlen,hnc⟩:=H.len;have hnm:n+m<=140737488355328:=y8u (Nat.le_mul_of_pos_right _ hby) hb;have hrow:(n+m)*i.size=n*i.size+m*i.size:=y9a _ _ _;by_cases hfit:n+m<=c
 ·--zF the capacity
  rcases H.slcases with⟨rfl,rfl,rfl,rfl,H0⟩|⟨b,r,rfl,h3,h4,h5,H0⟩
  ·have hm:m=0:=by omega
   subst hm;have hys:ys=[]:=y6y (by simpa using hylen);subst hys;refine⟨az,0,w,?_,by simpa using H⟩;unfold u9 ce;rcases zLx h2 with⟨e2,hd⟩|hd<;>
   simp only[y7z,y8j,y7x,bind,pure,run_bind,be,bc,run_underlying q1,run_sizeOf q2,run_underlying hd,y6s,if_false,r1,r2,xAh,y6v,if_true,xBa]
  ·have hroom:n*i.size+ys.length<=(xs++r).length:=by
    rw[h4,hylen,<- hrow];exact y7l _ hfit
   have hst:=wI (P:=P) ys 0 (n*i.size) (xs++r) w H0.get (by omega) hv;simp only[xAh]at hst;have hspl:spl (xs++r) (n*i.size) ys=(xs++ys)++r.drop ys.length:=by
    simp only[spl];rw[<- h3,xCg,xBb];simp
   rw[hspl]at hst;refine⟨ay ⟨b,0,az⟩,c,_,?_,(H0.upd _).slmk (r:=r.drop ys.length) (by rw[y5y,h3,hylen,hrow]) ?_ hfit⟩
   ·unfold u9 ce;rcases zLx h2 with⟨e2,hd⟩|hd<;>
    simp only[y7z,y8j,y7x,bind,pure,run_bind,be,bc,run_underlying q1,run_sizeOf q2,run_underlying hd,y6s,if_false,r1,r2,hfit,if_true,vY,y6x,hst,xBa]
   ·rw[<- h4];simp only[y5y,y6u]at hroom ⊢;omega
 ·have hc1:¬(((n+m:Nat):Int)>de.max/\(False\/i.bytes=0)):=by
   rintro⟨_,h|h⟩
   ·exact h
   ·omega
  have hc2:¬(Builtin.nextslicecap (n+m) c*i.bytes>2 ^ 48):=by
   have:=zOu (need:=n+m) (cap:=c) (by omega);have:=y7l i.bytes this;have e:2*(n+m)*i.bytes=2*((n+m)*i.bytes):=by rw[Nat.mul_assoc]
   omega
  have hold:(bz i.size n (.slice a n c)).run P w= .ok xs.toArray w:=(zGd (P:=P) (.inl ⟨a,c,rfl,H.satR⟩)).2.1;have hzr:∀w,(zeroValue e).run P w= .ok zv w:=λw=>zero_run (by unfold zero?;rw[q2];exact q5) w
  have hti:∀w,(typeInfo e).run P w= .ok i w:=λw=>zFy q2 w
  generalize hcap:(Question.appendCap (n+m) c e).cut (w.tape w.drawn (.appendCap (n+m) c e))=nc;have hge:n+m<=nc:=by
   rw[<- hcap];simp only[Question.cut];omega
  have r2':(bz i.size m x).run P w.drew= .ok ys.toArray w.drew:=by
   have hx':Src i.size w.drew x m ys:=by
    rcases hx with⟨a,kk,rfl,H⟩|h
    ·exact .inl ⟨a,kk,rfl,H.below ((Below.refl _ _).drew)⟩
    ·exact .inr h
   exact(zGd (P:=P) hx').2.1
  have hold':(bz i.size n (.slice a n c)).run P w.drew= .ok xs.toArray w.drew:=(zGd (P:=P) (.inl ⟨a,c,rfl,H.satR.below ((Below.refl _ _).drew)⟩)).2.1;have hch:(choose (.appendCap (n+m) c e)).run P w= .ok nc w.drew:=by
   simp only[choose,bc,Question.forced,y6s,if_false,hcap];rfl
  have hnew:=(H.drop.drew).new (.cells (xs++(ys++(cd zv.cells (nc-(n+m))).toList)).toArray e);have hlen:(ys++(cd zv.cells (nc-(n+m))).toList).length=m*i.size+(nc-(n+m))*i.size:=by
   rw[y5y,hylen,y9w,size_zeroCells,hz]
  have harr:xs.toArray++ys.toArray++cd zv.cells (nc-(n+m))=(xs++(ys++(cd zv.cells (nc-(n+m))).toList)).toArray:=by
   apply dd;simp
  refine⟨ay ⟨w.drew.heap.size,0,az⟩,nc,w.drew.alloc (.cells (xs++(ys++(cd zv.cells (nc-(n+m))).toList)).toArray e),?_,?_⟩
  ·unfold u9 ce;rcases zLx h2 with⟨e2,hd⟩|hd<;>
   simp only[y7z,y8j,y7x,bind,pure,run_bind,be,bc,run_underlying q1,run_sizeOf q2,run_underlying hd,y6s,if_false,r1,hfit,hti,hc1,hc2,hch,zKj,hold',r2',hzr,xBa,if_true,harr,newRow,newObj]
   all_goals rfl
  ·have:=Hp.slmk (c:=nc) (n:=n+m) (sz:=i.size) (xs:=xs++ys) (r:=(cd zv.cells (nc-(n+m))).toList) (by rw[y6f];exact hnew) (by rw[y5y,hxlen,hylen,hrow]) ?_ hge
   ·exact this
   ·rw[y6f,y5y,hlen,hxlen,<- y9a,<- y9a];congr 1;omega
end Cv
namespace Sx
@[reducible] def dh.{u} {α:Sort u} (x:α):Prop:=x=x
open Go Go.RowKit Cv
inductive D where
 |v (x:ab)
 |ro (sz:Nat) (els:List (List D))
inductive V where
 |top
 |d (x:D)
 |nm (n off:Nat)
 |el (n sz i f:Nat)
 |re (sz:Nat) (els:List (List D)) (i f:Nat)
 |na (n off i:Nat)
 |own (n:Nat)
 |mp (n:Nat)
 |sub (n i:Nat)
 |agg (l:List V)
 |tup (l:List V)
 |fn (f:Nat) (first cap:List V)
 |ifc (t:Nat) (x:V)
inductive AObj:Type 1 where
 |gone
 |nilo
 |cells (vs:List V) (t:ae)
 |own (t sz:Nat) (els:List (List D))
 |fro (sz:Nat) (els:List (List D))
 |mrk (t:ae) (els:List (List D))
 |vec (ds:List D) (t:ae)
 |map (es:List (ab×List D))
 |mapS (es:List (ab×List D)) (kv:ab) (b:Int)
 |iter (s:ByteArray) (pos:Nat)
 |adt (T:Type) (m:Nat) (unf:T->Nat->AObj) (x:T)
 |objs (t:Nat) (T:Type) (m:Nat) (unf:T->Nat->AObj) (l:List T) (hole:Option Nat)
 |hol (q:Bool) (t sz:Nat) (els:List (List D)) (i f:Nat) (b:Bool) (m:Option Nat)
@[reducible] def Hd:=ab×List ab
structure Ev where
 F:PH
 tab:List Hd
def FLe (F G:PH):Prop:=∀b o,F b=ay o->G b=ay o
def Ev.le (E E':Ev):Prop:=FLe E.F E'.F/\E.tab<+:E'.tab
def FLe.refl (F:PH):FLe F F:=λ_ _ h=>h
def FLe.trans {F G H:PH} (a:FLe F G) (b:FLe G H):FLe F H:=λx o h=>b x o (a x o h)
def Ev.le.refl (E:Ev):E.le E:=⟨FLe.refl _,xAl _⟩
def Ev.le.trans {E E' E2:Ev} (a:E.le E') (b:E'.le E2):E.le E2:=⟨a.1.trans b.1,a.2.trans b.2⟩
def zLv {α:Type} {l l':List α} (h:l<+:l') {n:Nat} {x:α} (e:l[n]? =ay x):l'[n]? =ay x:=by
 obtain⟨t,rfl⟩:=h;rw[y8t]
 ·exact e
 ·exact(y6c.1 e).1
def Ev.le.get {E E':Ev} (a:E.le E') {n:Nat} {x:Hd} (e:E.tab[n]? =ay x):E'.tab[n]? =ay x:=zLv a.2 e
mutual
def DR (F:PH):D->ab->Prop
 | .v x,y=>y=x/\x.oneC=bo
 | .ro sz els,y=>∃a c,y= .slice a els.length c/\els.length<=c/\(∀el∈els,el.length=sz)/\
    (els=[]\/∃(b o:Nat) (l:List ab) (T:ae) (fr:Nat×Nat),a=ay ⟨b,o,az⟩/\F b=ay (.cells l.toArray T fr)/\DRS F els (l.drop o))
def DRL (F:PH):List D->List ab->Prop
 |[],l=>l=[]
 |d::ds,l=>∃x xs,l=x::xs/\DR F d x/\DRL F ds xs
def DRS (F:PH):List (List D)->List ab->Prop
 |[],_=>True
 |el::els,l=>∃l1 l2,l=l1++l2/\DRL F el l1/\DRS F els l2
end
mutual
theorem DR.mono {F G:PH} (h:FLe F G):∀{d:D} {y:ab},DR F d y->DR G d y
 | .v x,y,e=>by simpa only[DR]using e
 | .ro sz els,y,e=>by
   simp only[DR]at e ⊢;obtain⟨a,c,h1,h2,h3,h4⟩:=e;refine⟨a,c,h1,h2,h3,?_⟩;rcases h4 with h4|⟨b,o,l,T,fr,q1,q2,q3⟩
   ·exact .inl h4
   ·exact .inr ⟨b,o,l,T,fr,q1,h _ _ q2,DRS.mono h q3⟩
theorem DRL.mono {F G:PH} (h:FLe F G):∀{ds:List D} {l:List ab},DRL F ds l->DRL G ds l
 |[],l,e=>by simpa only[DRL]using e
 |d::ds,l,e=>by
  simp only[DRL]at e ⊢;obtain⟨x,xs,h1,h2,h3⟩:=e;exact⟨x,xs,h1,DR.mono h h2,DRL.mono h h3⟩
theorem DRS.mono {F G:PH} (h:FLe F G):∀{els:List (List D)} {l:List ab},DRS F els l->DRS G els l
 |[],l,e=>by simp only[DRS]
 |el::els,l,e=>by
  simp only[DRS]at e ⊢;obtain⟨x,xs,h1,h2,h3⟩:=e;exact⟨x,xs,h1,DRL.mono h h2,DRS.mono h h3⟩
end
mutual
def VR (E:Ev):V->ab->Prop
 | .top,_=>True
 | .d d,y=>DR E.F d y
 | .nm n o,y=>∃(b oo:Nat) (l:List ab),E.tab[n]? =ay (.pointer (ay ⟨b,oo,az⟩),l)/\y= .pointer (ay ⟨b,oo+o,az⟩)
 | .el n sz i f,y=>∃(b oo m c:Nat) (l:List ab),E.tab[n]? =ay (.slice (ay ⟨b,oo,az⟩) m c,l)/\y= .pointer (ay ⟨b,oo+i*sz+f,az⟩)
 | .re sz els i f,y=>i<els.length/\(∀el∈els,el.length=sz)/\∃(b o:Nat) (l:List ab) (T:ae) (fr:Nat×Nat),y= .pointer (ay ⟨b,o+i*sz+f,az⟩)/\E.F b=ay (.cells l.toArray T fr)/\DRS E.F els (l.drop o)
 | .na n o i,y=>∃(b oo:Nat) (l:List ab),E.tab[n]? =ay (.pointer (ay ⟨b,oo,az⟩),l)/\y= .pointer (ay ⟨b,oo+(o+i),az⟩)
 | .own n,y=>∃l,E.tab[n]? =ay (y,l)/\∃a m c,y= .slice a m c
 | .mp n,y=>∃b l,E.tab[n]? =ay (y,l)/\y= .map (ay b)
 | .sub n i,y=>∃hd l b oo,E.tab[n]? =ay (hd,l)/\l[i]? =ay y/\y= .pointer (ay ⟨b,oo,az⟩)
 | .agg l,y=>∃ys,y= .agg ys.toArray/\VRL E l ys
 | .tup l,y=>∃ys,y= .tuple ys.toArray/\VRL E l ys
 | .fn f a b,y=>∃as bs,y= .func (.func f) as.toArray bs.toArray/\VRL E a as/\VRL E b bs
 | .ifc t x,y=>∃z,y= .iface t z/\VR E x z
def VRL (E:Ev):List V->List ab->Prop
 |[],l=>l=[]
 |v::vs,l=>∃x xs,l=x::xs/\VR E v x/\VRL E vs xs
end
mutual
theorem VR.mono {E E':Ev} (h:E.le E'):∀{v:V} {y:ab},VR E v y->VR E' v y
 | .top,y,e=>by simp only[VR]
 | .d d,y,e=>by simp only[VR]at e ⊢;exact e.mono h.1
 | .nm n o,y,e=>by
   simp only[VR]at e ⊢;obtain⟨b,oo,l,h1,h2⟩:=e;exact⟨b,oo,l,h.get h1,h2⟩
 | .el n sz i f,y,e=>by
   simp only[VR]at e ⊢;obtain⟨b,oo,m,c,l,h1,h2⟩:=e;exact⟨b,oo,m,c,l,h.get h1,h2⟩
 | .re sz els i f,y,e=>by
   simp only[VR]at e ⊢;obtain⟨h0,h1,b,o,l,T,fr,h2,h3,h4⟩:=e;exact⟨h0,h1,b,o,l,T,fr,h2,h.1 _ _ h3,h4.mono h.1⟩
 | .na n o i,y,e=>by
   simp only[VR]at e ⊢;obtain⟨b,oo,l,h1,h2⟩:=e;exact⟨b,oo,l,h.get h1,h2⟩
 | .own n,y,e=>by
   simp only[VR]at e ⊢;obtain⟨l,h1,h2⟩:=e;exact⟨l,h.get h1,h2⟩
 | .mp n,y,e=>by
   simp only[VR]at e ⊢;obtain⟨b,l,h1,h2⟩:=e;exact⟨b,l,h.get h1,h2⟩
 | .sub n i,y,e=>by
   simp only[VR]at e ⊢;obtain⟨hd,l,b,oo,h1,h2⟩:=e;exact⟨hd,l,b,oo,h.get h1,h2⟩
 | .agg l,y,e=>by
   simp only[VR]at e ⊢;obtain⟨ys,h1,h2⟩:=e;exact⟨ys,h1,VRL.mono h h2⟩
 | .tup l,y,e=>by
   simp only[VR]at e ⊢;obtain⟨ys,h1,h2⟩:=e;exact⟨ys,h1,VRL.mono h h2⟩
 | .fn f a b,y,e=>by
   simp only[VR]at e ⊢;obtain⟨as,bs,h1,h2,h3⟩:=e;exact⟨as,bs,h1,VRL.mono h h2,VRL.mono h h3⟩
 | .ifc t x,y,e=>by
   simp only[VR]at e ⊢;obtain⟨z,h1,h2⟩:=e;exact⟨z,h1,VR.mono h h2⟩
theorem VRL.mono {E E':Ev} (h:E.le E'):∀{vs:List V} {l:List ab},VRL E vs l->VRL E' vs l
 |[],l,e=>by simpa only[VRL]using e
 |v::vs,l,e=>by
  simp only[VRL]at e ⊢;obtain⟨x,xs,h1,h2,h3⟩:=e;exact⟨x,xs,h1,VR.mono h h2,VRL.mono h h3⟩
end
def nM:List ab->ab
 |[y]=>y
 |ys=> .agg ys.toArray
def MR (F:PH):List (ab×List D)->List aq->Prop
 |[],l=>l=[]
 |(k,ds)::es,l=>∃(m:aq) (ms:List aq),l=m::ms/\m.key=k/\(∃ys,DRL F ds ys/\m.val=nM ys)/\MR F es ms
def MR.mono {F G:PH} (h:FLe F G):∀{es:List (ab×List D)} {l:List aq},MR F es l->MR G es l
 |[],l,e=>e
 |(k,ds)::es,l,e=>by
  obtain⟨m,ms,h1,h2,⟨ys,h3,h4⟩,h5⟩:=e;exact⟨m,ms,h1,h2,⟨ys,h3.mono h,h4⟩,h5.mono h⟩
def vO (l:List aq) (ck:Nat):Prop:=(l.map (·.born)).Nodup/\∀e∈l,e.born<ck
def zZs (kd:TypeDesc) (x:ab):Prop:=(∃ik k n,kd=.int ik/\x=.int k n)\/(∃s,kd=.string/\x=.string s)
def zLu (l:List aq) (x:ab) (b:Int):Prop:=∃kd,zZs kd x/\∃q m,Instr.findNow kd x l 0=ay (ay (q,m.val))/\l[q]?=ay m/\(m.born:Int)=b
def HolX (tab:List Hd) (p:Nat) (b:Bool) (ys xs:List ab):Option Nat->Prop
 |some m=>∃y l,tab[m]? =ay (y,l)/\(∃a n c,y= .slice a n c)/\xs=bif b then ys.set p y else ys
 |none=>∃y,(∃a n c,y= .slice a n c)/\xs=bif b then ys.set p y else ys
def rowHP (F:PH):AObj->List Hd->Hd->HP
 | .gone,_,_=>λh=>h=pe
 | .nilo,_,hd=>λh=>h=pe/\hd.1= .slice az 0 0/\hd.2=[]
 | .cells vs t,tab,hd=>λh=>∃b l,hd.1= .pointer (ay ⟨b,0,az⟩)/\VRL ⟨F,tab⟩ vs l/\h=one b (.cells l.toArray t)
 | .own t sz els,tab,hd=>λh=>∃a k xs,hd.1= .slice a els.length k/\DRL F els.flatten xs/\(∀el∈els,el.length=sz)/\slO t sz a els.length k xs h
 | .fro sz els,tab,hd=>λh=>h=pe/\DR F (.ro sz els) hd.1
 | .mrk t els,tab,hd=>λh=>∃b k xs r,hd.1= .slice (ay ⟨b,0,az⟩) els.length k/\DRL F els.flatten xs/\(∀el∈els,el.length=1)/\els.length<=k/\h=one b (.cells (xs++r).toArray t ((xs++r).length,(xs++r).length+1))
 | .vec ds t,tab,hd=>λh=>∃b l,hd.1= .pointer (ay ⟨b,0,az⟩)/\DRL F ds l/\h=one b (.cells l.toArray t)
 | .map es,tab,hd=>λh=>∃b ents ck,hd.1= .map (ay b)/\MR F es ents/\vO ents ck/\h=one b (.map ents.toArray ck)
 | .mapS es kv x,tab,hd=>λh=>∃b ents ck,hd.1= .map (ay b)/\MR F es ents/\vO ents ck/\zLu ents kv x/\h=one b (.map ents.toArray ck)
 | .iter s pos,tab,hd=>λh=>∃b,hd.1= .pointer (ay ⟨b,0,az⟩)/\h=one b (.stringIter s pos)
 | .adt T m unf x,tab,hd=>λh=>∃tab1,tab1[0]? =ay hd/\tab1.length=m/\hS ((da m).map λj=>λh=>∃hd',tab1[j]? =ay hd'/\rowHP F (unf x j) tab1 hd' h) h
 | .objs t T m unf l hole,tab,hd=>λh=>∃a k,hd.1= .slice a l.length k/\hd.2.length=l.length/\(∀p∈hd.2,∃b oo,p= .pointer (ay ⟨b,oo,az⟩))/\
    hS [slO t 1 a l.length k hd.2,hS ((da l.length).map λi=>λh=>if hole=ay i then h=pe else ∃x p l0 tab1,l[i]? =ay x/\hd.2[i]? =ay p/\tab1[0]? =ay (p,l0)/\tab1.length=m/\
     hS ((da m).map λj=>λh=>∃hd',tab1[j]? =ay hd'/\rowHP F (unf x j) tab1 hd' h) h)] h
 | .hol q t sz els i f b m,tab,hd=>λh=>∃a k ys xs,hd.1= .slice a els.length k/\DRL F els.flatten ys/\(∀el∈els,el.length=sz)/\HolX tab (i*sz+f) b ys xs m/\slO t sz a els.length k xs h
def zCl {α:Type} {f g:α->HP} (h:∀a x,f a x->g a x):∀{l:List α} {x:PH},hS (l.map f) x->hS (l.map g) x
 |[],x,e=>e
 |[a],x,e=>h a x e
 |a::b::l,x,e=>by
  obtain⟨g1,g2,h1,h2,h3,h4⟩:=e;exact⟨g1,g2,h a _ h1,zCl h (l:=b::l) h2,h3,h4⟩
def HolX.mono {tab tab':List Hd} (h:∀(n:Nat) (hd:Hd),tab[n]? =ay hd->tab'[n]? =ay hd) {p:Nat} {b:Bool} {ys xs:List ab}:∀{m:Option Nat},HolX tab p b ys xs m->HolX tab' p b ys xs m
 |some m,⟨y,l,h1,h2⟩=>⟨y,l,h _ _ h1,h2⟩
 |none,e=>e
def rowHP.mono {F G:PH} (hF:FLe F G) (o:AObj):∀{tab tab':List Hd} (ht:tab<+:tab') {hd:Hd} {h:PH},rowHP F o tab hd h->rowHP G o tab' hd h:=by
 induction o with
 |gone=>intro _ _ _ _ _ e;exact e
 |nilo=>intro _ _ _ _ _ e;exact e
 |cells vs t=>
  intro tab tab' ht hd h e;simp only[rowHP]at e ⊢;obtain⟨b,l,h1,h2,h3⟩:=e;exact⟨b,l,h1,h2.mono ⟨hF,ht⟩,h3⟩
 |own t sz els=>
  intro tab tab' ht hd h e;simp only[rowHP]at e ⊢;obtain⟨a,k,xs,h1,h2,h3⟩:=e;exact⟨a,k,xs,h1,h2.mono hF,h3⟩
 |fro sz els=>
  intro tab tab' ht hd h e;simp only[rowHP]at e ⊢;exact⟨e.1,e.2.mono hF⟩
 |mrk t els=>
  intro tab tab' ht hd h e;simp only[rowHP]at e ⊢;obtain⟨b,k,xs,r,h1,h2,h3⟩:=e;exact⟨b,k,xs,r,h1,h2.mono hF,h3⟩
 |vec ds t=>
  intro tab tab' ht hd h e;simp only[rowHP]at e ⊢;obtain⟨b,l,h1,h2,h3⟩:=e;exact⟨b,l,h1,h2.mono hF,h3⟩
 |map es=>
  intro tab tab' ht hd h e;simp only[rowHP]at e ⊢;obtain⟨b,l,ck,h1,h2,h3⟩:=e;exact⟨b,l,ck,h1,h2.mono hF,h3⟩
 |mapS es kv x=>
  intro tab tab' ht hd h e;simp only[rowHP]at e ⊢;obtain⟨b,l,ck,h1,h2,h3⟩:=e;exact⟨b,l,ck,h1,h2.mono hF,h3⟩
 |iter s pos=>intro _ _ _ _ _ e;simpa only[rowHP]using e
 |adt T m unf x ih=>
  intro tab tab' ht hd h e;simp only[rowHP]at e ⊢;obtain⟨tab1,h1,h2,h3⟩:=e;refine⟨tab1,h1,h2,zCl ?_ h3⟩;rintro j y ⟨hd',q1,q2⟩;exact⟨hd',q1,ih x j (xAl _) q2⟩
 |objs t T m unf l hole ih=>
  intro tab tab' ht hd h e;simp only[rowHP]at e ⊢;obtain⟨a,k,h1,h2,h3,h5⟩:=e;refine⟨a,k,h1,h2,h3,?_⟩;obtain⟨g1,g2,q1,q2,q3,q4⟩:=h5;refine⟨g1,g2,q1,zCl ?_ q2,q3,q4⟩;intro i y hy;split
  ·rename_i hi;rw[y6a hi]at hy;exact hy
  ·rename_i hi;rw[y5x hi]at hy;obtain⟨x,p,l0,tab1,r1,r2,r3,r4,r5⟩:=hy;refine⟨x,p,l0,tab1,r1,r2,r3,r4,zCl ?_ r5⟩;rintro j y ⟨hd',s1,s2⟩;exact⟨hd',s1,ih x j (xAl _) s2⟩
 |hol q t sz els i f b m=>
  intro tab tab' ht hd h e;simp only[rowHP]at e ⊢;obtain⟨a,k,ys,xs,h1,h2,h3,h4,h5⟩:=e;exact⟨a,k,ys,xs,h1,h2.mono hF,h3,h4.mono λn hd e=>zLv ht e,h5⟩
structure St where
 rows:List (Nat×AObj)
 nx:Nat
def tN (n:Nat):List (Nat×AObj)->Option AObj
 |[]=>az
 |(m,o)::l=>bif cu m n then ay o else tN n l
def vC (n:Nat):List (Nat×AObj)->List (Nat×AObj)
 |[]=>[]
 |(m,o)::l=>bif cu m n then l else(m,o)::vC n l
def sO (n:Nat) (x:AObj):List (Nat×AObj)->List (Nat×AObj)
 |[]=>[]
 |(m,o)::l=>bif cu m n then(m,x)::l else(m,o)::sO n x l
def St.get (s:St) (n:Nat):Option AObj:=tN n s.rows
def St.set (s:St) (n:Nat) (o:AObj):St:=⟨sO n o s.rows,s.nx⟩
def St.del (s:St) (n:Nat):St:=⟨vC n s.rows,s.nx⟩
def St.delF (s:St) (n:Nat):AObj->St
 | .fro _ _=>s
 |_=>s.del n
def St.new (s:St) (o:AObj):St:=⟨(s.nx,o)::s.rows,s.nx+1⟩
def vI {n:Nat} {o:AObj}:∀{l:List (Nat×AObj)},tN n l=ay o->l.Perm ((n,o)::vC n l)/\∀x,(sO n x l).Perm ((n,x)::vC n l)
 |[],h=>by cases h
 |(m,p)::l,h=>by
  simp only[tN,vC,sO]at h ⊢;cases hb:cu m n
  ·rw[hb]at h;obtain⟨h1,h2⟩:=vI (l:=l) h;exact⟨(h1.cons _).trans (.swap _ _ _),λx=>((h2 x).cons _).trans (.swap _ _ _)⟩
  ·rw[hb]at h;have:=y6b hb;subst this;cases h;exact⟨.refl _,λx=> .refl _⟩
def rHP (E:Ev) (r:Nat×AObj):HP:=λh=>r.2= .gone/\h=pe\/∃hd,E.tab[r.1]? =ay hd/\rowHP E.F r.2 E.tab hd h
def rHP.mono {E E':Ev} (h:E.le E') (r:Nat×AObj) {x:PH} (e:rHP E r x):rHP E' r x:=by
 rcases e with e|⟨hd,h1,h2⟩
 ·exact .inl e
 ·exact .inr ⟨hd,h.get h1,h2.mono h.1 _ h.2⟩
def y3h:List (Nat×(Obj->Prop)):=[]
def GTab (F:PH):Prop:=∀g∈y3h,∃o,F g.1=ay o/\g.2 o
def GTab.mono {F G:PH} (h:FLe F G) (e:GTab F):GTab G:=λg hg=>let⟨o,h1,h2⟩:=e g hg;⟨o,h _ _ h1,h2⟩
def fz (F:PH):HP:=λh=>h=F/\GTab F
structure Rel (k:Ko) (L:List HP) (E:Ev) (s:St) (w:ac):Prop where
 nx:E.tab.length=s.nx
 hp:Hp k w (s.rows.map (rHP E)++fz E.F::L)
end Sx
namespace Cv
open Go Go.RowKit
inductive Tr (α:Type) where
 |e
 |n (v:Option α) (l r:Tr α)
def Tr.get {α:Type}:List Bool->Tr α->Option α
 |_,.e=>az
 |[],.n v _ _=>v
 |b::p,.n _ l r=>bif b then Tr.get p l else Tr.get p r
def Tr.set {α:Type} (x:Option α):List Bool->Tr α->Tr α
 |[],.e=> .n x .e .e
 |[],.n _ l r=> .n x l r
 |b::p,.e=>bif b then .n az (Tr.set x p .e) .e else .n az .e (Tr.set x p .e)
 |b::p,.n v l r=>bif b then .n v (Tr.set x p l) r else .n v l (Tr.set x p r)
def y2c:Nat->Nat->List Bool
 |0,n=>List.replicate n bo
 |f+1,n=>bif cu n 0 then[]else cu (n % 2) 1::y2c f (n / 2)
def pth (n:Nat):List Bool:=y2c 40 n
inductive Cap where
 |k (c:Nat)
 |r (l o0:Nat)
inductive V where
 |int (k:ag) (n:Int)
 |bool (b:Bool)
 |str (l:List Nat)
 |ptr (a:Option (Nat×Nat))
 |sl (a:Option (Nat×Nat)) (n:Nat) (c:Cap)
 |map (r:Option Nat)
 |agg (l:List V)
 |tup (l:List V)
 |fn (f:Nat) (first cap:List V)
 |nilfn
inductive AObj where
 |cells (xs:List V) (t:ae) (opn:Option Nat)
 |map (es:List (V×V×Nat)) (clock:Nat)
 |iter (s:List Nat) (pos:Nat)
structure St where
 h:Tr AObj
 nx:Nat
def St.get (s:St) (b:Nat):Option AObj:=Tr.get (pth b) s.h
def St.set (s:St) (b:Nat) (o:AObj):St:=⟨Tr.set (ay o) (pth b) s.h,s.nx⟩
def St.del (s:St) (b:Nat):St:=⟨Tr.set az (pth b) s.h,s.nx⟩
def St.new (s:St) (o:AObj):St:=⟨Tr.set (ay o) (pth s.nx) s.h,s.nx+1⟩
@[reducible] def Phi:=Nat->Nat×Nat
def cvs (φ:Phi) (b o n:Nat):Cap->am
 | .k _=>⟨(φ b).1,o,az⟩
 | .r l o0=>⟨(φ b).1,bif cu n 0 && cu (φ b).2 l then o0 else o,az⟩
def cvc (φ:Phi) (b:Nat):Cap->Nat
 | .k c=>c
 | .r l _=>(φ b).2-l
mutual
def cv (φ:Phi):V->ab
 | .int k n=> .int k n
 | .bool b=> .bool b
 | .str l=> .string (bs l)
 | .ptr az=> .pointer az
 | .ptr (ay (b,o))=> .pointer (ay ⟨(φ b).1,o,az⟩)
 | .sl az n c=> .slice az n (match c with| .k c=>c| .r _ _=>0)
 | .sl (ay (b,o)) n c=> .slice (ay (cvs φ b o n c)) n (cvc φ b c)
 | .map az=> .map az
 | .map (ay b)=> .map (ay (φ b).1)
 | .agg l=> .agg (cvl φ l).toArray
 | .tup l=> .tuple (cvl φ l).toArray
 | .fn f a b=> .func (.func f) (cvl φ a).toArray (cvl φ b).toArray
 | .nilfn=> .nilFunc
def cvl (φ:Phi):List V->List ab
 |[]=>[]
 |v::l=>cv φ v::cvl φ l
end
def yKv {α:Type}:List (Option α)->Option (List α)
 |[]=>ay []
 |some a::l=>match yKv l with
  |some r=>ay (a::r)
  |none=>az
 |none::_=>az
def z1g (ρ:Tr V):Option Nat->V->Tr V
 |none,_=>ρ
 |some d,v=>Tr.set (ay v) (pth d) ρ
def keq:ag->ag->Bool
 | .i8,.i8=>bo| .i16,.i16=>bo| .i32,.i32=>bo| .i64,.i64=>bo
 | .u8,.u8=>bo| .u16,.u16=>bo| .u32,.u32=>bo| .u64,.u64=>bo
 |_,_=>bu
def ieq:Int->Int->Bool
 | .ofNat a,.ofNat b=>cu a b
 | .negSucc a,.negSucc b=>cu a b
 |_,_=>bu
def aeq:Option (Nat×Nat)->Option (Nat×Nat)->Bool
 |none,az=>bo
 |some (a,b),ay (c,d)=>cu a c && cu b d
 |_,_=>bu
def lim:ag->Nat
 | .i8=>128| .i16=>32768| .i32=>2147483648| .i64=>9223372036854775808
 | .u8=>256| .u16=>65536| .u32=>4294967296| .u64=>18446744073709551616
def wr (k:ag):Int->Int
 | .ofNat n=>bif cw n (lim k)then .ofNat n else k.wrap (.ofNat n)
 |x=>k.wrap x
def yEt:ag->Nat
 | .i8=>256| .i16=>65536| .i32=>4294967296| .i64=>18446744073709551616
 | .u8=>256| .u16=>65536| .u32=>4294967296| .u64=>18446744073709551616
def y5v (k:ag):Int->Int->Int
 | .ofNat a,.ofNat b=>wr k (.ofNat (Nat.land (a % yEt k) (b % yEt k)))
 |a,b=>zCj k a b
def fOr (k:ag):Int->Int->Int
 | .ofNat a,.ofNat b=>wr k (.ofNat (Nat.lor (a % yEt k) (b % yEt k)))
 |a,b=>iOr k a b
def yVn (k:ag):Int->Int->Int
 | .ofNat a,.ofNat b=>wr k (.ofNat (a*2 ^ (Nat.min b k.bits)))
 |a,b=>zYj k a b
def zVf (P:aa) (t:ae):Bool:=
 match P.underlying t with
 |some (.pointer _)=>bo
 |_=>bu
def zFb (P:aa) (t:ae):Bool:=
 match P.underlying t with
 |some (.slice _)=>bo
 |_=>bu
def z5k (P:aa) (t:ae):Bool:=
 match P.underlying t with
 |some (.map _ _)=>bo
 |_=>bu
def zDu (P:aa) (t:ae):Bool:=
 match P.underlying t with
 |some .string=>bo
 |_=>bu
def y5w (P:aa) (t:ae):Option ag:=
 match P.underlying t with
 |some (.int k)=>ay k
 |_=>az
def zMi (P:aa) (s:ae) (f:Nat):Option Nat:=
 match P.underlying s with
 |some (.struct fs)=>match fs[f]? with
  |some fd=>match P.info? fd.type with
   |some i=>bif cu i.size 0 then az else ay fd.offset
   |none=>az
  |none=>az
 |_=>az
def zHk (P:aa) (s:ae) (f:Nat):Option (ae×Nat):=
 match P.underlying s with
 |some (.struct fs)=>match fs[f]? with
  |some fd=>ay (fd.type,fd.offset)
  |none=>az
 |_=>az
def zLt (P:aa) (t:ae):Option (Nat×ae×Nat):=
 match P.underlying t with
 |some (.array n e)=>match P.info? e with
  |some i=>ay (n,e,i.size)
  |none=>az
 |_=>az
def apart (P:aa) (t:ae) (cs:List V) (off:Nat):Option V:=
 match zKv P t with
 |some sz=>ay (.agg ((cs.drop off).take sz))
 |none=>bif zCc P t then cs[off]? else az
def zMc (i:Int) (n:Nat):Option Nat:=
 match i with
 | .ofNat j=>bif cw j n then ay j else az
 |_=>az
def yHl (P:aa) (t:ae):Option (List (Option (Nat×Nat))):=
 match P.underlying t with
 |some (.struct fs)=>ay (fs.toList.map λfd=>match P.info? fd.type with
   |some i=>ay (fd.offset,i.size)
   |none=>az)
 |_=>az
def zUr (l:List (Option (Nat×Nat))) (i:Nat):Option (Nat×Nat):=
 match l[i]? with
 |some r=>r
 |none=>az
def zQt (P:aa) (t:ae):Option (ae×ae):=
 match P.underlying t with
 |some (.map k e)=>ay (k,e)
 |_=>az
def yJm (P:aa) (t:ae):Bool:=
 match P.underlying t with
 |some (.slice e)=>match P.underlying e with
  |some (.int .u8)=>bo
  |_=>bu
 |_=>bu
def mW (P:aa) (t:ae):Option Nat:=
 match P.info? t with
 |some i=>ay i.size
 |none=>az
end Cv
namespace Cv
open Go Go.RowKit
def cme (φ:Phi) (e:V×V×Nat):aq:={key:=cv φ e.1,val:=cv φ e.2.1,born:=e.2.2}
def coT (φ:Phi) (b:Nat):AObj->Obj->Prop
 | .cells xs t az,O=>O= .cells (cvl φ xs).toArray t
 | .cells xs t (ay sz),O=>∃r,O= .cells (cvl φ xs++r).toArray t/\xs.length+r.length=(φ b).2*sz
 | .map es ck,O=>O= .map (es.map (cme φ)).toArray ck
 | .iter l pos,O=>O= .stringIter (bs l) pos
structure Rel (φ:Phi) (s:St) (w:ac):Prop where
 obj:∀b o,s.get b=ay o->∃O,w.heap[(φ b).1]? =ay O/\coT φ b o O
 inj:∀b c,s.get b≠az->s.get c≠az->(φ b).1=(φ c).1->b=c
 lt:∀b,s.get b≠az->b<s.nx
def bs_toNat (s:ByteArray):bs (s.data.toList.map UInt8.toNat)=s:=by
 unfold bs;rw[y8n];have:(Nat.toUInt8∘UInt8.toNat)=id:=by
  funext x;simp[Nat.toUInt8]
 rw[this];simp
def zMh {off:Nat}:∀(vs:List ab) (k:Nat) (l:List ab),off+k+vs.length<=l.length->
 List.foldl (λ(cs:Array ab) (p:ab×Nat)=>cs.setIfInBounds (off+p.2) p.1) l.toArray (vs.zipIdx k)=(spl l (off+k) vs).toArray
 |[],k,l,_=>by simp[spl]
 |v::vs,k,l,h=>by
  simp only[y6d]at h;simp only[List.zipIdx_cons,y9r,List.setIfInBounds_toArray];rw[zMh vs (k+1) (l.set (off+k) v) (by rw[y7g];omega),show off+(k+1)=off+k+1 by omega,zLr (by omega)]
end Cv
namespace Cv
open Go Go.RowKit
def zSl {k k':ag} (h:keq k k'=bo):k=k':=by cases k<;>cases k'<;>first|rfl|cases h
def z4z {k:ag} {n:Nat} (h:n<lim k):k.wrap (.ofNat n)= .ofNat n:=by
 cases k<;>simp only[lim]at h<;>simp[IntKind.wrap,IntKind.bits,IntKind.signed]<;>omega
def z6t (k:ag) (x:Int):wr k x=k.wrap x:=by
 cases x with
 |ofNat n=>
  simp only[wr];cases h:cw n (lim k)
  ·rfl
  ·exact(z4z (by simpa[y8z]using h)).symm
 |negSucc n=>rfl
def yLp (k:ag):yEt k=2 ^ k.bits:=by cases k<;>rfl
def zKo (w a:Nat):cz w (Int.ofNat a)=BitVec.ofNat w a:=by
 apply BitVec.eq_of_toNat_eq;simp
def yUf (k:ag) (a b:Int):fOr k a b=iOr k a b:=by
 unfold fOr;split
 ·rename_i a b;rw[z6t,yLp];unfold iOr;rw[zKo,zKo];simp only[BitVec.toNat_or,BitVec.toNat_ofNat];rfl
 ·rfl
def yPv (k:ag) (a b:Int):yVn k a b=zYj k a b:=by
 unfold yVn;split
 ·rename_i a b;rw[z6t];unfold zYj;congr 1
 ·rfl
end Cv
namespace Cv
open Go Go.RowKit
def z1v {P:aa} {t:ae} (h:zVf P t=bo):∃e,P.underlying t=ay (.pointer e):=by
 unfold zVf at h;split at h
 ·exact⟨_,by assumption⟩
 ·cases h
def sX {P:aa} {t:ae} (h:zFb P t=bo):∃e,P.underlying t=ay (.slice e):=by
 unfold zFb at h;split at h
 ·exact⟨_,by assumption⟩
 ·cases h
def z1n {P:aa} {t:ae} (h:z5k P t=bo):∃k e,P.underlying t=ay (.map k e):=by
 unfold z5k at h;split at h
 ·exact⟨_,_,by assumption⟩
 ·cases h
def m8 {P:aa} {t:ae} (h:zDu P t=bo):P.underlying t=ay .string:=by
 unfold zDu at h;split at h
 ·assumption
 ·cases h
end Cv
namespace Cv
open Go Go.RowKit
def yV {α:Type} {b:Bool} {x:Option α} {v:α} (h:(bif b then x else az)=ay v):b=bo/\x=ay v:=by
 cases b
 ·cases h
 ·exact⟨rfl,h⟩
def zOs {i:Int} {n j:Nat} (h:zMc i n=ay j):i=(j:Int)/\j<n:=by
 unfold zMc at h;split at h
 ·rename_i m;obtain⟨hb,h⟩:=yV h;simp only[cr]at h;subst h;exact⟨rfl,by simpa[y8z]using hb⟩
 ·cases h
def zQu {P:aa} {s f off:Nat} (h:zMi P s f=ay off):∃fs fd i,P.underlying s=ay (.struct fs)/\fs[f]? =ay fd/\P.info? fd.type=ay i/\i.size≠0/\fd.offset=off:=by
 unfold zMi at h;split at h<;>first|(cases h;done)|skip
 rename_i fs hfs;split at h<;>first|(cases h;done)|skip
 rename_i fd hfd;split at h<;>first|(cases h;done)|skip
 rename_i i hi;cases hb:cu i.size 0
 ·rw[hb]at h;simp only[cond_false,cr]at h;exact⟨fs,fd,i,hfs,hfd,hi,(λe=>by rw[e]at hb;cases hb),h⟩
 ·rw[hb]at h;cases h
def zPz {P:aa} {s f ft off:Nat} (h:zHk P s f=ay (ft,off)):∃fs fd,P.underlying s=ay (.struct fs)/\fs[f]? =ay fd/\fd.type=ft/\fd.offset=off:=by
 unfold zHk at h;split at h<;>first|(cases h;done)|skip
 rename_i fs hfs;split at h<;>first|(cases h;done)|skip
 rename_i fd hfd;simp only[cr,df]at h;exact⟨fs,fd,hfs,hfd,h.1,h.2⟩
def zFr {P:aa} {t n e sz:Nat} (h:zLt P t=ay (n,e,sz)):∃i,P.underlying t=ay (.array n e)/\P.info? e=ay i/\i.size=sz:=by
 unfold zLt at h;split at h<;>first|(cases h;done)|skip
 rename_i n' e' ht;split at h<;>first|(cases h;done)|skip
 rename_i i hi;simp only[cr,df]at h;obtain⟨rfl,rfl,rfl⟩:=h;exact⟨i,ht,hi,rfl⟩
def zSr {α:Type}:∀{l:List (Option α)} {L:List α},yKv l=ay L->l=L.map ay
 |[],L,h=>by simp only[yKv,cr]at h;subst h;rfl
 |none::l,L,h=>by cases h
 |some a::l,L,h=>by
  simp only[yKv]at h;split at h<;>first|(cases h;done)|skip
  rename_i r hr;simp only[cr]at h;subst h;rw[y6m,<- zSr hr]
def zOe {P:aa} (w:ac):∀{fs:List Field} {L:List (Nat×Nat)},
 (fs.map λfd=>match P.info? fd.type with|some i=>ay (fd.offset,i.size)|none=>az)=L.map ay->
 ((fs.mapM λf=>(do pure (f.offset,<- Go.sizeOf f.type):Sem (Nat×Nat))):Sem (List (Nat×Nat))).run P w= .ok L w
 |[],L,h=>by
  cases L with
  |nil=>rfl
  |cons a l=>cases h
 |fd::fs,L,h=>by
  cases L with
  |nil=>cases h
  |cons a l=>
   simp only[y6m,List.cons.injEq]at h;obtain⟨h1,h2⟩:=h;split at h1<;>first|(cases h1;done)|skip
   rename_i i hi;simp only[cr]at h1;subst h1;have ih:=zOe w h2;simp only[db,bind,pure,run_bind,be,bc,run_sizeOf hi]at ih ⊢;rw[ih]
def jT {ρ:Env} {o:aj} {c:Call} {b:Builtin} (ho:o.op= .call c) (hc:c.callee= .builtin b):
 af (ev ρ) o=builtin b c.argTypes o.type (c.args.map λ| .const _=>bo|_=>bu) (c.args.map (ev ρ)):=by
 have hexec:af (ev ρ) o=(ar (ev ρ) c o.type).bind λd=>invoke d.target d.args:=by
  simp only[af,ho];rfl
 rw[hexec];unfold ar;rw[hc];rfl
end Cv
