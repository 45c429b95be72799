/- Texts of ours. No condition. -/
import Derived.Deep.LoopGhost
import Derived.KernelRfl
import Derived.Lib.Strings
import Derived.Orders
import Derived.WalkKit
set_option linter.all false
open Go renaming Program->aa,Value->ab,World->ac,TypeId->ae,execOp->af,IntKind->ag,Oper->aj,eqGuard->ak,Addr->am,undef->ao,Operand->ap,MapEntry->aq,resolve->ar,callFunc->au,FuncId->av,wp_mono->aw,convert->ax
open Option renaming some->ay,none->az,map_eq_some_iff->ba
open Go.Sem renaming run->bc,bind->be,pure->bg
open Bool renaming true->bo,false->bu,or_eq_true->bv
open Go.Builtin renaming firstCells->bz,zeroCells->cd,append_->ce,len_->cf,copy_->cg
open Go.Region renaming ready->ci,binds->cm,wanted->cn
open Go.Instr renaming sliceBounds->co,lookup->cp,typeAssert->cq
open Option.some renaming injEq->cr,inj->ct
open Nat renaming beq->cu,blt->cw,ble->cx
open Int renaming toNat->cy
open BitVec renaming ofInt->cz
open List renaming range->da,mapM_cons->db
open Array renaming replicate->dc,ext'->dd
open Go.IntKind renaming i64->de
open Prod.mk renaming injEq->df
def y5a:=@List.length_append
def y5b:=@if_neg
def y5c:=@List.length_map
def y5d:=@if_pos
def y5e:=@Nat.eq_of_beq_eq_true
def y5f:=@List.getElem?_eq_some_iff
def y5g:=@List.length_cons
def y5h:=@List.mem_cons_self
def y5i:=@List.append_assoc
def y5j:=@List.mem_cons_of_mem
def y5k:=@List.getD_eq_getElem?_getD
def y5l:=@List.map_append
def y5m:=@List.mem_of_getElem?
def y5n:=@List.take_of_length_le
def y5o:=@Bool.and_eq_true
def y5p:=@List.map_cons
def y5q:=@decide_eq_false
def y5r:=@List.perm_middle
def y5s:=@decide_eq_true
def y5t:=@List.length_take
def y5u:=@Int.toNat_natCast
def y5v:=@Bool.false_eq_true
def y5w:=@List.mem_cons
def y5x:=@Nat.le_refl
def y5y:=@List.take_append_of_le_length
def y5z:=@List.length_drop
def y6a:=@List.append_nil
def y6b:=@of_decide_eq_true
def y6c:=@Nat.zero_add
def y6d:=@List.eq_nil_of_length_eq_zero
def y6e:=@List.getElem?_eq_getElem
def y6f:=@List.mem_append
def y6g:=@List.mem_map_of_mem
def y6h:=@List.getElem?_eq_none
def y6i:=@Nat.zero_le
def y6j:=@List.length_set
def y6k:=@List.map_congr_left
def y6l:=@List.take_succ_cons
def y6m:=@List.take_add_one
def y6n:=@List.mem_map
def y6o:=@Nat.mul_le_mul_right
def y6p:=@decide_eq_true_eq
def y6q:=@List.getElem?_map
def y6r:=@List.mem_singleton
def y6s:=@List.sum_cons
def y6t:=@List.cons_append
def y6u:=@List.mem_append_left
def y6v:=@List.length_nil
def y6w:=@List.flatMap_cons
def y6x:=@List.mem_append_right
def y6y:=@Array.getD_eq_getD_getElem?
def y6z:=@List.length_singleton
def y7a:=@List.flatMap_append
def y7b:=@List.getElem?_cons_succ
def y7c:=@List.mem_filter
def y7d:=@List.getElem?_toArray
def y7e:=@Option.map_some
def y7f:=@List.getElem?_append_right
def y7g:=@List.take_append_drop
def y7h:=@List.perm_append_comm
def y7i:=@Nat.le_of_ble_eq_true
def y7j:=@List.drop_eq_getElem_cons
def y7k:=@Nat.lt_or_ge
def y7l:=@List.nodup_append
def y7m:=@List.getElem?_cons_zero
def y7n:=@Option.getD_some
def y7o:=@List.flatten_cons
def y7p:=@List.getElem?_drop
def y7q:=@List.map_map
def y7r:=@List.nodup_cons
def y7s:=@List.mem_iff_getElem?
def y7t:=@List.drop_append_of_le_length
def y7u:=@List.mem_flatMap
def y7v:=@List.nil_append
def y7w:=@Nat.le_trans
def y7x:=@List.getElem?_append_left
def y7y:=@List.take_length
def y7z:=@Bool.true_and
def y8a:=@Nat.succ_mul
def y8b:=@List.mem_range
def y8c:=@Array.getElem?_eq_none
def y8d:=@Nat.blt_eq
def y8e:=@Nat.add_mul
def y8f:=@Option.toList_some
def y8g:=@List.length_replicate
def y8h:=@List.all_eq_true
def y8i:=@List.set_eq_take_append_cons_drop
def y8j:=@List.drop_eq_nil_of_le
def y8k:=@List.findIdx?_eq_some_iff_getElem
def y8l:=@List.drop_drop
def y8m:=@Bool.false_and
def y8n:=@List.length_filter_le
def y8o:=@Bool.not_eq_true'
def y8p:=@Int.le_refl
def y8q:=@List.drop_zero
def y8r:=@List.getElem?_set
def y8s:=@Nat.add_assoc
def y8t:=@List.map_nil
def y8u:=@Nat.min_eq_left
def y8v:=@List.foldl_cons
def y8w:=@List.pairwise_cons
def y8x:=@List.mem_of_mem_take
def y8y:=@List.mem_of_mem_drop
def y8z:=@Array.getElem?_setIfInBounds_self_of_lt
def y9a:=@List.ext_getElem?
def y9b:=@Array.length_toList
def y9c:=@List.getElem?_range
def y9d:=@List.getElem?_take
def y9e:=@List.prefix_append
def y9f:=@List.set_set
def y9g:=@List.filter_append
def y9h:=@Array.getElem?_setIfInBounds
def y9i:=@Bool.or_eq_false_iff
def y9j:=@List.size_toArray
def y9k:=@List.foldl_append
def y9l:=@List.range_succ
def y9m:=@List.replicate_succ
def y9n:=@Nat.add_zero
def y9o:=@Int.mul_comm
def y9p:=@List.map_take
def y9q:=@List.perm_append_singleton
def y9r:=@List.prefix_refl
def y9s:=@List.take_zero
def y9t:=@of_decide_eq_false
def y9u:=@Array.getElem?_eq_getElem
def y9v:=@List.findIdx?_eq_none_iff
def y9w:=@List.getElem?_zip_eq_some
def y9x:=@Array.getElem?_setIfInBounds_ne
def y9y:=@Int.mul_le_mul_of_nonneg_left
def y9z:=@List.filter_cons_of_pos
def xAa:=@List.filter_cons_of_neg
def xAb:=@List.flatten_append
def xAc:=@List.length_flatMap
def xAd:=@Bool.not_false
def xAe:=@List.drop_append
def xAf:=@Bool.and_false
def xAg:=@List.flatMap_nil
def xAh:=@Nat.lt_succ_self
def xAi:=@List.mem_filterMap
def xAj:=@Nat.add_comm
def xAk:=@Option.map_none
def xAl:=@List.modify_succ_cons
def xAm:=@List.map_drop
def xAn:=@Array.toArray_toList
def xAo:=@List.getElem?_of_mem
def xAp:=@Nat.sub_self
def xAq:=@Array.getElem?_replicate
def xAr:=@List.not_mem_nil
def xAs:=@Option.isSome_iff_exists
def xAt:=@List.eq_of_mem_replicate
def xAu:=@List.filter_eq_self
def xAv:=@List.filter_sublist
def xAw:=@List.takeWhile_append_dropWhile
def xAx:=@Bool.false_or
def xAy:=@Array.ext_getElem?
def xAz:=@List.set_cons_zero
def xBa:=@List.set_cons_succ
def xBb:=@Int.emod_nonneg
def xBc:=@Int.emod_lt_of_pos
def xBd:=@Bool.eq_iff_iff
def xBe:=@List.find?_cons
def xBf:=@List.sum_append
def xBg:=@List.map_singleton
def xBh:=@List.any_eq_false
def xBi:=@List.take_take
def xBj:=@List.take_left
def xBk:=@Int.mul_nonneg
namespace Cv
open Go
@[reducible] def Env:=Nat->ab
def put (ρ:Env):Option Nat->ab->Env
 |none,_=>ρ
 |some d,v=>λi=>bif cu i d then v else ρ i
def ev (ρ:Env):ap->ab
 | .tmp t=>ρ t
 | .const v=>v
 | .global g=> .pointer (ay ⟨g,0,az⟩)
 | .func f=> .func (.func f) #[] #[]
def uM {α:Type} (P:aa):Sem α->Option α
 | .pure a=>ay a
 | .program k=>uM P (k P)
 | .mark _ k=>uM P k
 |_=>az
def wK {α:Type} {P:aa}:∀{s:Sem α} {a:α},uM P s=ay a->∀w,s.run P w= .ok a w:=by
 intro s
 induction s with
 |pure a=>intro b h w;simp only[uM,cr]at h;subst h;rfl
 |program k ih=>intro b h w;simp only[uM]at h;exact ih _ h w
 |mark m k ih=>intro b h w;simp only[uM]at h;exact ih h w
 |_=>intro b h w;simp[uM]at h
def run_bind {α β:Type} (P:aa) (s:Sem α) (f:α->Sem β) (w:ac):(s.bind f).run P w=match s.run P w with| .ok a w'=>(f a).run P w'| .halt h w'=> .halt h w':=by
 induction s generalizing w with
 |pure a=>rfl
 |halt h=>rfl
 |load m a k ih=>simp only[be,bc];split<;>first|exact ih _ _|(split<;>first|exact ih _ _|rfl)
 |store m a v k ih=>
  cases v<;>simp only[be,bc]<;>first|rfl|(split<;>first|(split<;>first|exact ih _|rfl))
 |new o k ih=>exact ih _ _
 |shape r k ih=>exact ih _ _
 |freeze a n k ih=>exact ih _
 |frozen a k ih=>exact ih _ _
 |getObj r k ih=>simp only[be,bc];split<;>first|rfl|exact ih _ _
 |setObj r o k ih=>simp only[be,bc];split<;>first|rfl|exact ih _
 |choose q k ih=>simp only[be,bc];split<;>exact ih _ _
 |sys c k ih=>exact ih _ _
 |program k ih=>exact ih _ _
 |mark m k ih=>exact ih _
inductive Sh where
 |int (k:ag)|bool|str|ptr|sl|map|any
def yGs:ab->Sh
 | .int k _=> .int k
 | .bool _=> .bool
 | .string _=> .str
 | .pointer _=> .ptr
 | .slice _ _ _=> .sl
 | .map _=> .map
 |_=> .any
def exC:Sh->(ab->Prop)->Prop
 | .int k,K=>∃n:Int,K (.int k n)
 | .bool,K=>∃b:Bool,K (.bool b)
 | .str,K=>∃s:ByteArray,K (.string s)
 | .ptr,K=>∃a:Option am,K (.pointer a)
 | .sl,K=>∃(a:Option am) (n c:Nat),K (.slice a n c)
 | .map,K=>∃r:Option Nat,K (.map r)
 | .any,K=>∃v:ab,K v
def jY {s:Sh} {K:ab->Prop} (h:exC s K):∃v,K v:=by
 cases s<;>simp only[exC]at h<;>first|(obtain⟨n,h⟩:=h;exact⟨_,h⟩)|(obtain⟨a,n,c,h⟩:=h;exact⟨_,h⟩)
def exL:List ab->(List ab->Prop)->Prop
 |[],K=>K []
 |z::zs,K=>exC (yGs z) λv=>exL zs λvs=>K (v::vs)
def z6z:∀{zs:List ab} {K:List ab->Prop},exL zs K->∃vs,K vs
 |[],_,h=>⟨_,h⟩
 |_::_,_,h=>let⟨_,h1⟩:=jY h;let⟨_,h2⟩:=z6z h1;⟨_,h2⟩
structure Raw where
 i:Nat->Int
 b:Nat->Bool
 s:Nat->ByteArray
 p:Nat->Option am
 a:Nat->Option am
 n:Nat->Nat
 k:Nat->Nat
 m:Nat->Option Nat
 v:Nat->ab
def Raw.cell (r:Raw) (j:Nat):ab->ab
 | .int k _=> .int k (r.i j)
 | .bool _=> .bool (r.b j)
 | .string _=> .string (r.s j)
 | .pointer _=> .pointer (r.p j)
 | .slice _ _ _=> .slice (r.a j) (r.n j) (r.k j)
 | .map _=> .map (r.m j)
 |_=>r.v j
def yZj (r:Raw):List ab->Nat->List ab
 |[],_=>[]
 |z::zs,j=>r.cell j z::yZj r zs (j+1)
def y4p (z:ab) (r:Raw):ab:=
 match z with
 | .agg cs=> .agg (yZj r cs.toList 0).toArray
 |z=>z
def exV:ab->(ab->Prop)->Prop
 | .agg cs,K=>bif cx cs.size 9 then exL cs.toList λvs=>K (.agg vs.toArray)else ∃r:Raw,K (y4p (.agg cs) r)
 |z,K=>exC (yGs z) K
def wR {z:ab} {K:ab->Prop} (h:exV z K):∃v,K v:=by
 cases z<;>simp only[exV]at h<;>first
  |exact jY h
  |(revert h;cases cx _ 9<;>intro h
    ·obtain⟨r,h⟩:=h;exact⟨_,h⟩
    ·obtain⟨_,h⟩:=z6z h;exact⟨_,h⟩)
def yTj (P:aa) (t:ae):ab:=
 match P.info? t with
 |some i=>i.zero.getD ao
 |none=>ao
def exT (P:aa) (t:ae) (K:ab->Prop):Prop:=exV (yTj P t) K
def yUf (P:aa):List ae->(List ab->Prop)->Prop
 |[],K=>K []
 |t::ts,K=>exT P t λv=>yUf P ts λvs=>K (v::vs)
def zYi {P:aa}:∀{ts:List ae} {K:List ab->Prop},yUf P ts K->∃vs,K vs
 |[],_,h=>⟨_,h⟩
 |_::_,_,h=>let⟨_,h1⟩:=wR h;let⟨_,h2⟩:=zYi h1;⟨_,h2⟩
def exR (P:aa) (t:ae) (K:ab->Prop):Prop:=
 match P.underlying t with
 |some (.tuple ts)=>yUf P ts.toList λvs=>K (.tuple vs.toArray)
 |_=>exT P t K
def z6j {P:aa} {t:ae} {K:ab->Prop} (h:exR P t K):∃v,K v:=by
 unfold exR at h;split at h
 ·obtain⟨_,h⟩:=zYi h;exact⟨_,h⟩
 ·exact wR h
def uT (P:aa) (t:ae):Option Nat:=
 match P.underlying t with
 |some (.slice e)=>(P.info? e).map λ(x:TypeInfo)=>x.size
 |_=>az
def c8 (P:aa) (t:ae):Option (Nat×Nat):=
 match P.underlying t with
 |some (.array n e)=>(P.info? e).map λ(x:TypeInfo)=>(n,x.size)
 |_=>az
def z0f (p:Option am) (K:am->Prop):Prop:=
 match p with
 |some a=>K a
 |none=>False
def yXo (p:Option am) (n:Nat) (i:Int) (K:am->Prop):Prop:=
 match p with
 |some a=>(0<=i/\i<n)/\K a
 |none=>False
def ySi (s:ByteArray) (i:Int) (K:UInt8->Prop):Prop:=∃b:UInt8,(0<=i/\s[i.toNat]?=ay b)/\K b
def slN (p:Option am) (n c:Nat) (lo hi:Option Int) (sz:Nat) (K:Option am->Nat->Nat->Prop):Prop:=
 match lo,hi with
 |none,az=>(n<=c)/\K p n c
 |some l,az=>(0<=l/\l<=n/\n<=c)/\K (if c=l.toNat then p else p.map (·.add (l.toNat*sz))) (n-l.toNat) (c-l.toNat)
 |none,ay h=>(0<=h/\h<=c)/\K p h.toNat c
 |some l,ay h=>(0<=l/\l<=h/\h<=c)/\K (if c=l.toNat then p else p.map (·.add (l.toNat*sz))) (h.toNat-l.toNat) (c-l.toNat)
def ySs (p:Option am) (c:Nat) (l h m:Int) (sz:Nat) (K:Option am->Nat->Nat->Prop):Prop:=
 (0<=l/\l<=h/\h<=m/\m<=c)/\K (if m.toNat=l.toNat then p else p.map (·.add (l.toNat*sz))) (h.toNat-l.toNat) (m.toNat-l.toNat)
def yQr (s:ByteArray) (lo hi:Option Int) (K:ByteArray->Prop):Prop:=
 match lo,hi with
 |none,az=>K s
 |some l,az=>(0<=l/\l<=s.size)/\K (s.extract l.toNat s.size)
 |none,ay h=>(0<=h/\h<=s.size)/\K (s.extract 0 h.toNat)
 |some l,ay h=>(0<=l/\l<=h/\h<=s.size)/\K (s.extract l.toNat h.toNat)
def bnd (ρ:Env):Option ap->Option (Option Int)
 |none=>ay az
 |some x=>match ev ρ x with
  | .int _ n=>ay (ay n)
  |_=>az
def zKo (l h:Option (Option Int)) (K:Option Int->Option Int->Prop):Prop:=
 match l,h with
 |some l,ay h=>K l h
 |_,_=>False
def f9 (P:aa) (t:ae) (x:ab):Option Bool:=
 match P.underlying t,x with
 |some (.pointer _),.pointer p=>ay p.isNone
 |some (.slice _),.slice p _ _=>ay p.isNone
 |some (.map _ _),.map r=>ay r.isNone
 |_,_=>az
def y4x:ab->Bool
 | .pointer az=>bo
 | .slice az _ _=>bo
 | .map az=>bo
 |_=>bu
def yLe:ab->Bool
 | .pointer az=>bo
 |_=>bu
def z1w:ab->Bool
 | .slice az _ _=>bo
 |_=>bu
def yPk:ab->Bool
 | .map az=>bo
 |_=>bu
def zRy (P:aa) (s:Sem Next) (K:ab->Prop):Prop:=
 match uM P s with
 |some (.value v)=>K v
 |_=>False
def ySa (P:aa) (neg:Bool) (t:ae) (x y:ab) (K:Bool->Prop):Prop:=
 ∃b:Bool,uM P (Op.equal t x y)=ay b/\uM P (ak (if neg then .neq else .eql) t (.tmp 0) (.tmp 0) x y)=ay ()/\
  (match y with| .agg _=>bo|_=>bu)=bo/\K (if neg then !b else b)
def z2w (o:Option Bool) (K:Bool->Prop):Prop:=
 match o with
 |some r=>K r
 |none=>False
def nJ {o:Option Bool} {K:Bool->Prop} (h:z2w o K):∃r,o=ay r/\K r:=by
 cases o with
 |none=>exact h.elim
 |some r=>exact⟨r,rfl,h⟩
def y0k (k k':ag) (b:Int) (A:Prop):Prop:=k=k'/\b≠0/\A
def shN (b:Int) (A:Prop):Prop:=0<=b/\A
def y3v (a b:ByteArray) (A:Prop):Prop:=(((a.size+b.size:Nat):Int)<=de.max)/\A
def eqK (k k':ag) (A:Prop):Prop:=
 match k,k' with
 | .i8,.i8=>A
 | .i16,.i16=>A
 | .i32,.i32=>A
 | .i64,.i64=>A
 | .u8,.u8=>A
 | .u16,.u16=>A
 | .u32,.u32=>A
 | .u64,.u64=>A
 |_,_=>False
def zLd {k k':ag} {A:Prop} (h:eqK k k' A):k=k'/\A:=by
 cases k<;>cases k'<;>first|exact⟨rfl,h⟩|exact h.elim
def z0b (k:ag) (a b:Int):Int:=k.wrap (a*2 ^ (min b.toNat k.bits))
def mL (k:ag) (a b:Int):Int:=a.fdiv (2 ^ (min b.toNat k.bits))
def zCc (k:ag) (a b:Int):Int:=k.wrap ((cz k.bits a &&& cz k.bits b).toNat:Int)
def iOr (k:ag) (a b:Int):Int:=k.wrap ((cz k.bits a|||BitVec.ofInt k.bits b).toNat:Int)
def zCa (k:ag) (a b:Int):Int:=k.wrap ((cz k.bits a ^^^ cz k.bits b).toNat:Int)
def zEb (k:ag) (a b:Int):Int:=k.wrap ((cz k.bits a &&& ~~~ cz k.bits b).toNat:Int)
def cA (P:aa) (o:aj) (ρ:Env) (K:ab->Prop):Prop:=
 match o.op with
 | .move x=>K (ev ρ x)
 | .assign x=>K (ev ρ x)
 | .pick c a b=>
   match ev ρ c with
   | .bool t=>K (bif t then ev ρ a else ev ρ b)
   |_=>False
 | .nilCheck x=>
   match ev ρ x with
   | .pointer p=>z0f p λa=>K (.pointer (ay a))
   |_=>zRy P (af (ev ρ) o) K
 | .indexAddr t x i=>
   match ev ρ x,ev ρ i with
   | .slice p n _,.int _ i=>match uT P t with
     |some sz=>yXo p n i λa=>K (.pointer (ay (a.add (i.toNat*sz))))
     |none=>False
   | .pointer p,.int _ i=>match c8 P t with
     |some (len,sz)=>yXo p len i λa=>K (.pointer (ay (a.add (i.toNat*sz))))
     |none=>False
   |_,_=>False
 | .index t x i=>
   match ev ρ x,ev ρ i with
   | .string s,.int _ i=>match P.underlying t with
     |some .string=>ySi s i λb=>K (.int .u8 b.toNat)
     |_=>False
   |x,j=>match i with
    | .const _=>zRy P (af (ev ρ) o) K
    |_=>exT P o.type λv=>uM P (Instr.index t x j)=ay v/\K v
 | .panic _=>False
 | .typeAssert x xT asserted ok=>
   match ok with
   |true=>exT P asserted λv=>exC .bool λb=>uM P (cq (ev ρ x) xT asserted bo)=ay (.tuple #[v,b])/\K (.tuple #[v,b])
   |false=>exT P asserted λv=>uM P (cq (ev ρ x) xT asserted bu)=ay v/\K v
 | .slice t x lo hi mx=>
   match ev ρ x,mx with
   | .slice p _ c,ay m=>match uT P t,bnd ρ lo,bnd ρ hi,ev ρ m with
     |some sz,ay (ay l),ay (ay h),.int _ m=>ySs p c l h m sz λp n c=>K (.slice p n c)
     |_,_,_,_=>False
   | .slice p n c,az=>match uT P t with
     |some sz=>zKo (bnd ρ lo) (bnd ρ hi) λl h=>slN p n c l h sz λp n c=>K (.slice p n c)
     |none=>False
   | .string s,az=>match P.underlying t with
     |some .string=>zKo (bnd ρ lo) (bnd ρ hi) λl h=>yQr s l h λs=>K (.string s)
     |_=>False
   | .pointer p,az=>match c8 P t with
     |some (n,sz)=>z0f p λa=>zKo (bnd ρ lo) (bnd ρ hi) λl h=>slN (ay a) n n l h sz λp n c=>K (.slice p n c)
     |none=>False
   |_,_=>False
 | .binOp op t x y _=>
   match op,ev ρ x,ev ρ y with
   | .quo,.int k a,.int k' b=>y0k k k' b (K (.int k (k.wrap (a.tdiv b))))
   | .rem,.int k a,.int k' b=>y0k k k' b (K (.int k (a.tmod b)))
   | .shl,.int k a,.int _ b=>shN b (K (.int k (z0b k a b)))
   | .shr,.int k a,.int _ b=>shN b (K (.int k (mL k a b)))
   | .and,.int k a,.int k' b=>eqK k k' (K (.int k (zCc k a b)))
   | .or,.int k a,.int k' b=>eqK k k' (K (.int k (iOr k a b)))
   | .xor,.int k a,.int k' b=>eqK k k' (K (.int k (zCa k a b)))
   | .andNot,.int k a,.int k' b=>eqK k k' (K (.int k (zEb k a b)))
   | .add,.string a,.string b=>y3v a b (K (.string (a++b)))
   | .eql,.pointer p,b=>bif yLe b then(z2w (f9 P t (.pointer p)) λr=>K (.bool r))else False
   | .neq,.pointer p,b=>bif yLe b then(z2w (f9 P t (.pointer p)) λr=>K (.bool !r))else False
   | .eql,.slice p n c,b=>bif z1w b then(z2w (f9 P t (.slice p n c)) λr=>K (.bool r))else False
   | .neq,.slice p n c,b=>bif z1w b then(z2w (f9 P t (.slice p n c)) λr=>K (.bool !r))else False
   | .eql,.map r,b=>bif yPk b then(z2w (f9 P t (.map r)) λr=>K (.bool r))else False
   | .neq,.map r,b=>bif yPk b then(z2w (f9 P t (.map r)) λr=>K (.bool !r))else False
   | .eql,.agg a,b=>ySa P bu t (.agg a) b λr=>K (.bool r)
   | .neq,.agg a,b=>ySa P bo t (.agg a) b λr=>K (.bool r)
   |_,_,_=>zRy P (af (ev ρ) o) K
 |_=>zRy P (af (ev ρ) o) K
def zNq (P:aa) (s:Sem Next) (v:ab):Prop:=∀w,s.run P w=.ok (.value v) w
def cC {P:aa} {s:Sem Next} {K:ab->Prop} (h:zRy P s K):∃v,K v/\zNq P s v:=by
 unfold zRy at h;split at h
 ·rename_i v hv;exact⟨v,h,wK hv⟩
 ·exact h.elim
def Addr.add_zero (a:am):a.add 0=a:=by simp[Addr.add]
def sB (p:Option am):p.map (·.add 0)=p:=by cases p<;>simp[Addr.add_zero]
def yB {P:aa} {s:Sem ab} {v:ab} (h:∀w,s.run P w= .ok v w):zNq P (do pure (Next.value (<- s))) v:=by
 intro w;show(s.bind λa=> .pure (Next.value a)).run P w=_;rw[run_bind,h w];rfl
def eN {P:aa} {t:ae} {sz:Nat} (h:uT P t=ay sz):∃e i,P.underlying t=ay (.slice e)/\P.info? e=ay i/\i.size=sz:=by
 unfold uT at h;split at h
 ·rename_i e he;cases hi:P.info? e with
  |none=>simp[hi]at h
  |some i=>simp[hi]at h;exact⟨e,i,he,hi,h⟩
 ·cases h
def zFq {P:aa} {t:ae} {n sz:Nat} (h:c8 P t=ay (n,sz)):∃e i,P.underlying t=ay (.array n e)/\P.info? e=ay i/\i.size=sz:=by
 unfold c8 at h;split at h
 ·rename_i m e he;cases hi:P.info? e with
  |none=>simp[hi]at h
  |some i=>simp[hi]at h;obtain⟨rfl,h⟩:=h;exact⟨e,i,he,hi,h⟩
 ·cases h
def run_underlying {P:aa} {t:ae} {d:TypeDesc} (h:P.underlying t=ay d) (w:ac):(underlying t).run P w= .ok d w:=by
 show ((Sem.program Sem.pure).bind λp => match p.underlying t with | some d => Sem.pure d | none => stuck "no such type").run P w = _;simp only[be,bc,h]
def run_sizeOf {P:aa} {t:ae} {i:TypeInfo} (h:P.info? t=ay i) (w:ac):(Go.sizeOf t).run P w= .ok i.size w:=by
 have hti:(typeInfo t).run P w= .ok i w:=by
  unfold typeInfo;show((Sem.program bg).bind _).run P w=_;simp only[be,bc,h];rfl
 show((typeInfo t).bind λi=>bg i.size).run P w=_;rw[run_bind,hti];rfl
def jL {P:aa} {t:ae} {sz n c:Nat} {a:am} {k:ag} {i:Int} (h:uT P t=ay sz) (hi:0<=i/\i<n) (w:ac):
 (Instr.indexAt t (.slice (ay a) n c) (.int k i)).run P w= .ok (.pointer (ay (a.add (i.toNat*sz)))) w:=by
 obtain⟨e,ti,h1,h2,rfl⟩:=eN h;simp only[Instr.indexAt,asIntOf,bind,pure,run_bind,be,bc,run_underlying h1,y5d hi,run_sizeOf h2]
def fJ {P:aa} {t:ae} {sz n:Nat} {a:am} {k:ag} {i:Int} (h:c8 P t=ay (n,sz)) (hi:0<=i/\i<n) (w:ac):
 (Instr.indexAt t (.pointer (ay a)) (.int k i)).run P w= .ok (.pointer (ay (a.add (i.toNat*sz)))) w:=by
 obtain⟨e,ti,h1,h2,rfl⟩:=zFq h;simp only[Instr.indexAt,asIntOf,Instr.sureAddr,bind,pure,run_bind,be,bc,run_underlying h1,y5d hi,run_sizeOf h2]
def kT {P:aa} {k:ag} {i:Int} {y:Nat} {code:BoundsCode} (h:0<=i/\i<=y) (w:ac):(Instr.sliceBound (.int k i) y code).run P w= .ok i.toNat w:=by
 simp only[Instr.sliceBound,asIntOf,bind,pure,be,bc,y5d h]
def zFh {ρ:Env} {x:Option ap} {r:Option Int} (h:bnd ρ x=ay r):(x=az/\r=az)\/∃y k n,x=ay y/\ev ρ y= .int k n/\r=ay n:=by
 unfold bnd at h;split at h
 ·left;exact⟨rfl,by simpa using h.symm⟩
 ·rename_i y;right;split at h
  ·rename_i k n hv;exact⟨y,k,n,rfl,hv,by simpa using h.symm⟩
  ·cases h
def nP {l h:Option (Option Int)} {K:Option Int->Option Int->Prop} (hh:zKo l h K):∃a b,l=ay a/\h=ay b/\K a b:=by
 unfold zKo at hh;split at hh
 ·rename_i a b;exact⟨a,b,rfl,rfl,hh⟩
 ·exact hh.elim
def zBu {P:aa} {ρ:Env} {lo hi:Option ap} {l h:Option Int} (isSlice:Bool) {len cap:Nat} (h1:bnd ρ lo=ay l) (h2:bnd ρ hi=ay h)
 (hlen:h=az->len<=cap) (hh:∀x,h=ay x->0<=x/\x<=cap) (hl:∀x,l=ay x->0<=x/\x<=((h.map cy).getD len:Nat)) (w:ac):
 (co isSlice len cap (lo.map (ev ρ)) (hi.map (ev ρ)) az).run P w= .ok ((l.map cy).getD 0,(h.map cy).getD len,cap) w:=by
 rcases zFh h1 with⟨rfl,rfl⟩|⟨x,k,n,rfl,hx,rfl⟩<;>rcases zFh h2 with⟨rfl,rfl⟩|⟨y,k',m,rfl,hy,rfl⟩
 ·simp only[co,xAk,bind,pure,be,bc,run_bind,Option.getD_none]
 ·have:=hh m rfl;simp only[co,xAk,y7e,hy,bind,pure,be,bc,run_bind,Option.getD_none,kT this,y7n]
 ·have h3:=hl n rfl;simp only[xAk,Option.getD_none]at h3;simp only[co,xAk,y7e,hx,bind,pure,be,bc,run_bind,Option.getD_none,kT h3,y7n]
 ·have h3:=hl n rfl;have h4:=hh m rfl;simp only[y7e,y7n]at h3;simp only[co,y7e,hx,hy,bind,pure,be,bc,run_bind,kT h3,kT h4,y7n]
def z8p {p:Option am} {n c:Nat} {l h:Option Int} {sz:Nat} {K:Option am->Nat->Nat->Prop} (hk:slN p n c l h sz K):
 (h=az->n<=c)/\(∀x,h=ay x->0<=x/\x<=c)/\(∀x,l=ay x->0<=x/\x<=((h.map cy).getD n:Nat))/\
 K (if c=(l.map cy).getD 0 then p else p.map (·.add ((l.map cy).getD 0*sz))) ((h.map cy).getD n-(l.map cy).getD 0) (c-(l.map cy).getD 0):=by
 unfold slN at hk;split at hk
 ·refine⟨λ_=>hk.1,by simp,by simp,?_⟩;simpa[sB]using hk.2
 ·refine⟨λ_=>hk.1.2.2,by simp,?_,by simpa using hk.2⟩;intro x hx;cases hx;simp;omega
 ·refine⟨by simp,?_,by simp,by simpa[sB]using hk.2⟩;intro x hx;cases hx;omega
 ·refine⟨by simp,?_,?_,by simpa using hk.2⟩
  ·intro x hx;cases hx;omega
  ·intro x hx;cases hx;simp;omega
def z4f {P:aa} {ρ:Env} {t:ae} {x:ap} {lo hi:Option ap} {o:aj} {K:ab->Prop} (ho:o.op= .slice t x lo hi az)
 (h:cA P o ρ K):∃v,K v/\zNq P (af (ev ρ) o) v:=by
 simp only[cA,ho]at h;split at h
 ·rename_i heq;cases heq
 ·rename_i p n c hx _;split at h
  ·rename_i sz hsz;obtain⟨l,u,h1,h2,h3⟩:=nP h;obtain⟨q1,q2,q3,q4⟩:=z8p h3;obtain⟨e,ti,e1,e2,rfl⟩:=eN hsz;refine⟨_,q4,?_⟩;simp only[af,ho];refine yB λw=> ?_
   simp only[Instr.sliceAt,Instr.slice,hx,bind,pure,be,bc,run_bind,run_underlying e1,xAk,zBu bo h1 h2 q1 q2 q3,run_sizeOf e2]
  ·exact h.elim
 ·rename_i s hx _;split at h
  ·rename_i ht;obtain⟨l,u,h1,h2,h3⟩:=nP h;have q:(∀x,u=ay x->0<=x/\x<=s.size)/\(∀x,l=ay x->0<=x/\x<=((u.map cy).getD s.size:Nat))/\K (.string (s.extract ((l.map cy).getD 0) ((u.map cy).getD s.size))):=by
    unfold yQr at h3;split at h3
    ·refine⟨by simp,by simp,?_⟩;have:s.extract 0 s.size=s:=by simp
     simpa[this]using h3
    ·refine⟨by simp,?_,by simpa using h3.2⟩;intro x hx;cases hx;simp;omega
    ·refine⟨?_,by simp,by simpa using h3.2⟩;intro x hx;cases hx;omega
    ·refine⟨?_,?_,by simpa using h3.2⟩
     ·intro x hx;cases hx;omega
     ·intro x hx;cases hx;simp;omega
   obtain⟨q2,q3,q4⟩:=q;refine⟨_,q4,?_⟩;simp only[af,ho];refine yB λw=> ?_
   simp only[Instr.sliceAt,Instr.slice,hx,bind,pure,be,bc,run_bind,run_underlying ht,xAk,Option.isSome_none,y5v,if_false,zBu bu h1 h2 (λ_=>y5x _) q2 q3]
  ·exact h.elim
 ·rename_i p hx _;split at h
  ·rename_i n sz hsz;unfold z0f at h;split at h
   ·rename_i a;obtain⟨l,u,h1,h2,h3⟩:=nP h;obtain⟨q1,q2,q3,q4⟩:=z8p h3;obtain⟨e,ti,e1,e2,rfl⟩:=zFq hsz;refine⟨_,q4,?_⟩;simp only[af,ho];refine yB λw=> ?_
    simp only[Instr.sliceAt,Instr.sureAddr,hx,bind,pure,be,bc,run_bind,run_underlying e1,xAk,zBu bu h1 h2 q1 q2 q3,run_sizeOf e2];split<;>simp
   ·exact h.elim
  ·exact h.elim
 ·exact h.elim
def mI (t:ae) (x y:ab):Op.equal t x y=Op.equalIn (9999+1) t x y:=rfl
def cH {P:aa} {t:ae} {p:Option am} {r:Bool} (h:f9 P t (.pointer p)=ay r) (w:ac):(Op.equal t (.pointer p) (.pointer az)).run P w= .ok r w:=by
 have hu:r=p.isNone/\∃d,P.underlying t=ay d/\(match d with| .pointer _=>True|_=>False):=by
  unfold f9 at h;cases hd:P.underlying t with
  |none=>simp[hd]at h
  |some d=>cases d<;>simp[hd]at h;exact⟨h.symm,_,rfl,trivial⟩
 obtain⟨rfl,d,hd,hm⟩:=hu;cases d<;>first|exact hm.elim|skip
 rw[mI];generalize 9999=d;unfold Op.equalIn;simp only[bind,pure,run_bind,run_underlying hd];cases p<;>rfl
def gA {P:aa} {t:ae} {p:Option am} {n c m k:Nat} {r:Bool} (h:f9 P t (.slice p n c)=ay r) (w:ac):(Op.equal t (.slice p n c) (.slice az m k)).run P w= .ok r w:=by
 have hu:r=p.isNone/\∃d,P.underlying t=ay d/\(match d with| .slice _=>True|_=>False):=by
  unfold f9 at h;cases hd:P.underlying t with
  |none=>simp[hd]at h
  |some d=>cases d<;>simp[hd]at h;exact⟨h.symm,_,rfl,trivial⟩
 obtain⟨rfl,d,hd,hm⟩:=hu;cases d<;>first|exact hm.elim|skip
 rw[mI];generalize 9999=d;unfold Op.equalIn;simp only[bind,pure,run_bind,run_underlying hd];cases p<;>rfl
def cF {P:aa} {t:ae} {p:Option Nat} {r:Bool} (h:f9 P t (.map p)=ay r) (w:ac):(Op.equal t (.map p) (.map az)).run P w= .ok r w:=by
 have hu:r=p.isNone/\∃d,P.underlying t=ay d/\(match d with| .map _ _=>True|_=>False):=by
  unfold f9 at h;cases hd:P.underlying t with
  |none=>simp[hd]at h
  |some d=>cases d<;>simp[hd]at h;exact⟨h.symm,_,rfl,trivial⟩
 obtain⟨rfl,d,hd,hm⟩:=hu;cases d<;>first|exact hm.elim|skip
 rw[mI];generalize 9999=d;unfold Op.equalIn;simp only[bind,pure,run_bind,run_underlying hd];cases p<;>rfl
def nR {p:Option am} {K:am->Prop} (h:z0f p K):∃a,p=ay a/\K a:=by
 cases p with
 |none=>exact h.elim
 |some a=>exact⟨a,rfl,h⟩
def z0u {p:Option am} {n:Nat} {i:Int} {K:am->Prop} (h:yXo p n i K):∃a,p=ay a/\(0<=i/\i<n)/\K a:=by
 cases p with
 |none=>exact h.elim
 |some a=>exact⟨a,rfl,h⟩
def xN {P:aa} {o:aj} {ρ:Env} {neg:Bool} {t:ae} {x y:ap} {u:ae} {r:Bool} (ho:o.op= .binOp (if neg then .neq else .eql) t x y u)
 (hx:match ev ρ x with| .pointer _=>True| .slice _ _ _=>True| .map _=>True| .agg _=>True|_=>False)
 (hy:match ev ρ y with| .pointer _=>True| .slice _ _ _=>True| .map _=>True| .agg _=>True|_=>False)
 (hg:∀w,(ak (if neg then .neq else .eql) t x y (ev ρ x) (ev ρ y)).run P w= .ok () w)
 (he:∀w,(Op.equal t (ev ρ x) (ev ρ y)).run P w= .ok r w):zNq P (af (ev ρ) o) (.bool (if neg then !r else r)):=by
 simp only[af,ho];refine yB λw=> ?_
 simp only[bind,run_bind,hg w];generalize ev ρ x=a at*;generalize ev ρ y=b at*;cases neg<;>cases a<;>(first|exact hx.elim|skip)<;>cases b<;>(first|exact hy.elim|skip)<;>simp only[binOp,y5v,if_false,if_true,bind,pure,run_bind,he w,bc]
def zJp {P:aa} {op:BinOp} {t:ae} {x y x' y':ap} {a b:ab} (ha:a≠.nilIface) (w:ac):
 (ak op t x y a b).run P w=(ak op t x' y' a b).run P w:=by
 cases a<;>first|exact(ha rfl).elim|skip
 all_goals cases op<;>first|rfl|(cases b<;>rfl)
def y7 {P:aa} {op:BinOp} {t:ae} {x y:ap} {a b:ab} (ha:match a with| .pointer _=>True| .slice _ _ _=>True| .map _=>True|_=>False) (w:ac):
 (ak op t x y a b).run P w= .ok () w:=by
 cases a<;>first|exact ha.elim|(cases op<;>rfl)
def z7r {y:ab} (h:yLe y=bo):y= .pointer az:=by
 cases y<;>simp[yLe]at h
 rename_i a;cases a<;>simp at h ⊢
def z6r {y:ab} (h:z1w y=bo):∃n c,y= .slice az n c:=by
 cases y<;>simp[z1w]at h
 rename_i a n c;cases a<;>simp at h ⊢
def z8s {y:ab} (h:yPk y=bo):y= .map az:=by
 cases y<;>simp[yPk]at h
 rename_i a;cases a<;>simp at h ⊢
def zK {b:Bool} {A:Prop} (h:bif b then A else False):b=bo/\A:=by
 cases b
 ·exact h.elim
 ·exact⟨rfl,h⟩
def yEg {P:aa} {ρ:Env} {op:BinOp} {t u:ae} {x y:ap} {o:aj} {K:ab->Prop} (ho:o.op= .binOp op t x y u)
 (h:cA P o ρ K):∃v,K v/\zNq P (af (ev ρ) o) v:=by
 simp only[cA,ho]at h;split at h
 ·rename_i k a k' b hx hy;obtain⟨rfl,hb,h⟩:=h;refine⟨_,h,?_⟩;simp only[af,ho];refine yB λw=> ?_
  simp[hx,hy,ak,binOp,Op.intDiv,hb,bind,pure,be,bc]
 ·rename_i k a k' b hx hy;obtain⟨rfl,hb,h⟩:=h;refine⟨_,h,?_⟩;simp only[af,ho];refine yB λw=> ?_
  simp[hx,hy,ak,binOp,Op.intDiv,hb,bind,pure,be,bc]
 ·rename_i k a k' b hx hy;obtain⟨hb,h⟩:=h;refine⟨_,h,?_⟩;simp only[af,ho];refine yB λw=> ?_
  simp[hx,hy,ak,binOp,Op.shift,Int.not_lt.2 hb,bind,pure,be,bc,z0b,mL]
 ·rename_i k a k' b hx hy;obtain⟨hb,h⟩:=h;refine⟨_,h,?_⟩;simp only[af,ho];refine yB λw=> ?_
  simp[hx,hy,ak,binOp,Op.shift,Int.not_lt.2 hb,bind,pure,be,bc,z0b,mL]
 ·rename_i k a k' b hx hy;obtain⟨hk,h'⟩:=zLd h;subst hk;refine⟨_,h',?_⟩;simp only[af,ho];refine yB λw=> ?_
  simp[hx,hy,ak,binOp,Op.intBits,bind,pure,be,bc,zCc,iOr,zCa,zEb]
 ·rename_i k a k' b hx hy;obtain⟨hk,h'⟩:=zLd h;subst hk;refine⟨_,h',?_⟩;simp only[af,ho];refine yB λw=> ?_
  simp[hx,hy,ak,binOp,Op.intBits,bind,pure,be,bc,zCc,iOr,zCa,zEb]
 ·rename_i k a k' b hx hy;obtain⟨hk,h'⟩:=zLd h;subst hk;refine⟨_,h',?_⟩;simp only[af,ho];refine yB λw=> ?_
  simp[hx,hy,ak,binOp,Op.intBits,bind,pure,be,bc,zCc,iOr,zCa,zEb]
 ·rename_i k a k' b hx hy;obtain⟨hk,h'⟩:=zLd h;subst hk;refine⟨_,h',?_⟩;simp only[af,ho];refine yB λw=> ?_
  simp[hx,hy,ak,binOp,Op.intBits,bind,pure,be,bc,zCc,iOr,zCa,zEb]
 ·rename_i a b hx hy;obtain⟨hb,h⟩:=h;refine⟨_,h,?_⟩;simp only[af,ho];refine yB λw=> ?_
  have hb':¬(((a.size+b.size:Nat):Int)>de.max):=Int.not_lt.2 hb;simp only[hx,hy,ak,binOp,Op.stringOp,y5b hb',bind,pure,be,bc];rfl
 ·rename_i p hx;generalize hy:ev ρ y=b at h;obtain⟨hn,h⟩:=zK h;obtain⟨r,hr,h⟩:=nJ h;have hb:=z7r hn;refine⟨_,h,?_⟩;exact xN (neg:=bu) ho (by simp[hx]) (by simp[hy,hb]) (λw=>by rw[hx];exact y7 trivial w) (λw=>by rw[hx,hy,hb];exact cH hr w)
 ·rename_i p hx;generalize hy:ev ρ y=b at h;obtain⟨hn,h⟩:=zK h;obtain⟨r,hr,h⟩:=nJ h;have hb:=z7r hn;refine⟨_,h,?_⟩;exact xN (neg:=bo) ho (by simp[hx]) (by simp[hy,hb]) (λw=>by rw[hx];exact y7 trivial w) (λw=>by rw[hx,hy,hb];exact cH hr w)
 ·rename_i p n c hx;generalize hy:ev ρ y=b at h;obtain⟨hn,h⟩:=zK h;obtain⟨r,hr,h⟩:=nJ h;obtain⟨m,d,hb⟩:=z6r hn;refine⟨_,h,?_⟩;exact xN (neg:=bu) ho (by simp[hx]) (by simp[hy,hb]) (λw=>by rw[hx];exact y7 trivial w) (λw=>by rw[hx,hy,hb];exact gA hr w)
 ·rename_i p n c hx;generalize hy:ev ρ y=b at h;obtain⟨hn,h⟩:=zK h;obtain⟨r,hr,h⟩:=nJ h;obtain⟨m,d,hb⟩:=z6r hn;refine⟨_,h,?_⟩;exact xN (neg:=bo) ho (by simp[hx]) (by simp[hy,hb]) (λw=>by rw[hx];exact y7 trivial w) (λw=>by rw[hx,hy,hb];exact gA hr w)
 ·rename_i p hx;generalize hy:ev ρ y=b at h;obtain⟨hn,h⟩:=zK h;obtain⟨r,hr,h⟩:=nJ h;have hb:=z8s hn;refine⟨_,h,?_⟩;exact xN (neg:=bu) ho (by simp[hx]) (by simp[hy,hb]) (λw=>by rw[hx];exact y7 trivial w) (λw=>by rw[hx,hy,hb];exact cF hr w)
 ·rename_i p hx;generalize hy:ev ρ y=b at h;obtain⟨hn,h⟩:=zK h;obtain⟨r,hr,h⟩:=nJ h;have hb:=z8s hn;refine⟨_,h,?_⟩;exact xN (neg:=bo) ho (by simp[hx]) (by simp[hy,hb]) (λw=>by rw[hx];exact y7 trivial w) (λw=>by rw[hx,hy,hb];exact cF hr w)
 ·rename_i a hx;generalize hy:ev ρ y=b at h;obtain⟨r,h1,h2,h3,h⟩:=h;refine⟨_,h,?_⟩;obtain⟨c,rfl⟩:∃c,b= .agg c:=by cases b<;>first|exact⟨_,rfl⟩|(simp at h3)
  exact xN (neg:=bu) ho (by simp[hx]) (by simp[hy]) (λw=>by rw[hx,hy];exact(zJp (by simp) w).trans (wK h2 w)) (λw=>by rw[hx,hy];exact wK h1 w)
 ·rename_i a hx;generalize hy:ev ρ y=b at h;obtain⟨r,h1,h2,h3,h⟩:=h;refine⟨_,h,?_⟩;obtain⟨c,rfl⟩:∃c,b= .agg c:=by cases b<;>first|exact⟨_,rfl⟩|(simp at h3)
  exact xN (neg:=bo) ho (by simp[hx]) (by simp[hy]) (λw=>by rw[hx,hy];exact(zJp (by simp) w).trans (wK h2 w)) (λw=>by rw[hx,hy];exact wK h1 w)
 ·exact cC h
def gL {P:aa} {ρ:Env} {o:aj} {K:ab->Prop} (h:cA P o ρ K):∃v,K v/\zNq P (af (ev ρ) o) v:=by
 cases ho:o.op
 case move x=>simp only[cA,ho]at h;exact⟨_,h,λw=>by simp only[af,ho];rfl⟩
 case assign x=>simp only[cA,ho]at h;exact⟨_,h,λw=>by simp only[af,ho];rfl⟩
 case pick c a b=>
  simp only[cA,ho]at h;split at h
  ·rename_i t hc;refine⟨_,h,λw=> ?_⟩;simp only[af,ho,hc,asBool,bind,pure,be,bc];cases t<;>rfl
  ·exact h.elim
 case nilCheck x=>
  simp only[cA,ho]at h;split at h
  ·rename_i p hx;obtain⟨a,rfl,h⟩:=nR h;exact⟨_,h,λw=>by simp only[af,ho,hx];rfl⟩
  ·exact cC h
 case indexAddr t x i=>
  simp only[cA,ho]at h;split at h
  ·rename_i p n c k i hx hi;split at h
   ·rename_i sz hsz;obtain⟨a,rfl,hb,h⟩:=z0u h;refine⟨_,h,?_⟩;simp only[af,ho];refine yB λw=> ?_
    rw[hx,hi];exact jL hsz hb w
   ·exact h.elim
  ·rename_i p k i hx hi;split at h
   ·rename_i n sz hsz;obtain⟨a,rfl,hb,h⟩:=z0u h;refine⟨_,h,?_⟩;simp only[af,ho];refine yB λw=> ?_
    rw[hx,hi];exact fJ hsz hb w
   ·exact h.elim
  ·exact h.elim
 case index t x i=>
  simp only[cA,ho]at h;split at h
  ·rename_i s k i hx hi;split at h
   ·rename_i ht;obtain⟨b,⟨h0,h1⟩,h⟩:=h;refine⟨_,h,?_⟩;simp only[af,ho];refine yB λw=> ?_
    simp only[Instr.index,hx,hi,asIntOf,bind,pure,be,bc,run_bind,run_underlying ht,y5d h0,h1]
   ·exact h.elim
  ·split at h
   ·exact cC h
   ·obtain⟨v,hv,h⟩:=wR h;refine⟨v,h,?_⟩;simp only[af,ho];exact yB (wK hv)
 case typeAssert x xT asserted ok=>
  cases ok
  ·simp only[cA,ho]at h;obtain⟨v,hv,h⟩:=wR h;refine⟨v,h,?_⟩;simp only[af,ho];exact yB (wK hv)
  ·simp only[cA,ho]at h;obtain⟨v,h⟩:=wR h;obtain⟨b,hv,h⟩:=jY h;refine⟨_,h,?_⟩;simp only[af,ho];exact yB (wK hv)
 case slice t x lo hi mx=>
  cases mx with
  |none=>exact z4f ho h
  |some m=>
   simp only[cA,ho]at h;split at h<;>first|exact h.elim|contradiction|skip
   rename_i p n c m' hx hm;cases hm;split at h<;>first|exact h.elim|skip
   rename_i sz l u k m' hsz h1 h2 hm;obtain⟨⟨q1,q2,q3,q4⟩,h⟩:=h;obtain⟨e,ti,e1,e2,rfl⟩:=eN hsz;rcases zFh h1 with⟨_,h1⟩|⟨y,ky,ny,rfl,hy,h1⟩
   ·cases h1
   cases h1;rcases zFh h2 with⟨_,h2⟩|⟨z,kz,nz,rfl,hz,h2⟩
   ·cases h2
   cases h2;refine⟨_,h,?_⟩;simp only[af,ho];refine yB λw=> ?_
   have b1:(0:Int)<=m'/\m'<=(c:Nat):=by omega
   have b2:0<=u/\u<=(m'.toNat:Nat):=by omega
   have b3:0<=l/\l<=(u.toNat:Nat):=by omega
   simp only[Instr.sliceAt,Instr.slice,co,hx,hm,hy,hz,y7e,bind,pure,be,bc,run_bind,run_underlying e1,kT b1,kT b2,kT b3,run_sizeOf e2]
 case binOp op t x y u=>exact yEg ho h
 case panic x=>simp only[cA,ho]at h
 all_goals(simp only[cA,ho]at h;exact cC h)
def dS (P:aa) (s:Sem ab) (w:ac) (v:ab):Prop:=s.run P w=.ok v w
def u0 (P:aa) (s:Sem ab) (w:ac) (v:ab) (w':ac):Prop:=s.run P w=.ok v w'
def zBp (P:aa) (s:Sem Unit) (w:ac) (w':ac):Prop:=s.run P w=.ok () w'
def mT (P:aa) (t:ae) (a:am) (w:ac) (v:ab):Prop:=(loadVar t a).run P w=.ok v w
def z6b (P:aa) (t:ae):Option ae:=
 match P.underlying t with
 |some (.map _ e)=>ay e
 |_=>az
def tN (P:aa) (o:aj) (ρ:Env) (w:ac) (K:ab->Prop):Prop:=
 match o.op with
 | .load t x=>
   match ev ρ x with
   | .pointer p=>z0f p λa=>exT P t λv=>mT P t a w v/\K v
   |_=>False
 | .lookup t m k ok=>
   match z6b P t with
   |some e=>exT P e λv=>exC .bool λb=>dS P (cp t (ev ρ m) (ev ρ k) bo) w (.tuple #[v,b])/\K (bif ok then .tuple #[v,b]else v)
   |none=>False
 | .convert s d x=>exT P d λv=>dS P (ax s d (ev ρ x)) w v/\K v
 | .binOp op t x y _=>
   match op with
   | .eql=>exC .bool λv=>dS P (binOp .eql t (ev ρ x) (ev ρ y)) w v/\(ak .eql t x y (ev ρ x) (ev ρ y)).run P w=.ok () w/\K v
   | .neq=>exC .bool λv=>dS P (binOp .neq t (ev ρ x) (ev ρ y)) w v/\(ak .neq t x y (ev ρ x) (ev ρ y)).run P w=.ok () w/\K v
   |_=>False
 | .call {callee:= .builtin .len,args,argTypes}=>exC (.int .i64) λv=>dS P (cf argTypes o.type (args.map (ev ρ))) w v/\K v
 | .entry x=>∃v,dS P (Instr.entry (ev ρ x)) w v/\K v
 |_=>False
def yF {P:aa} {s:Sem ab} {v:ab} {w:ac} (h:s.run P w= .ok v w):((do pure (Next.value (<- s)):Sem Next)).run P w= .ok (.value v) w:=by
 show(s.bind λa=> .pure (Next.value a)).run P w=_;rw[run_bind,h];rfl
def z3o {P:aa} {s:Sem ab} {v:ab} {w w':ac} (h:s.run P w= .ok v w'):((do pure (Next.value (<- s)):Sem Next)).run P w= .ok (.value v) w':=by
 show(s.bind λa=> .pure (Next.value a)).run P w=_;rw[run_bind,h];rfl
def yCp {P:aa} {s:Sem Unit} {w w':ac} (h:s.run P w= .ok () w'):((do s;pure Next.skip:Sem Next)).run P w= .ok .skip w':=by
 show(s.bind λ_=> .pure Next.skip).run P w=_;rw[run_bind,h];rfl
def Sim (P:aa) (s1 s2:Sem ab):Prop:=∀w v b w',s1.run P w=.ok (.tuple #[v,b]) w'->s2.run P w=.ok v w'
def cS {α:Type} {P:aa} (s:Sem α) {f g:α->Sem ab} (h:∀a,Sim P (f a) (g a)):Sim P (s.bind f) (s.bind g):=by
 intro w v b w' hr;rw[run_bind]at hr ⊢;cases hs:s.run P w with
 |ok a w1=>rw[hs]at hr;exact h a _ _ _ _ hr
 |halt x w1=>rw[hs]at hr;cases hr
def z9w {P:aa} {x y:String}:Sim P (stuck x) (stuck y):=by
 intro w v b w' hr;cases hr
def zYn {P:aa} {v b:ab}:Sim P (.pure (.tuple #[v,b])) (.pure v):=by
 intro w v b w' hr;simp only[bc,Result.ok.injEq,Value.tuple.injEq,Array.mk.injEq,List.cons.injEq]at hr ⊢;exact⟨hr.1.1,hr.2⟩
def sim_lookup {P:aa} {t:ae} {m k:ab}:Sim P (cp t m k bo) (cp t m k bu):=by
 unfold cp;refine cS _ λd=> ?_
 have tail:∀(key elem:ae) (es:Array aq),Sim P
  ((Instr.checkKey es.isEmpty 10000 key k).bind λ_=>(Instr.findKey key k es.toList).bind λr=>
    match r with
    |some (_,v)=>(bg (v,bo)).bind λx=>bg (if bo=bo then Value.tuple #[x.1,.bool x.2]else x.1)
    |none=>(zeroValue elem).bind λz=>(bg (z,bu)).bind λx=>bg (if bo=bo then Value.tuple #[x.1,.bool x.2]else x.1))
  ((Instr.checkKey es.isEmpty 10000 key k).bind λ_=>(Instr.findKey key k es.toList).bind λr=>
    match r with
    |some (_,v)=>(bg (v,bo)).bind λx=>bg (if bu=bo then Value.tuple #[x.1,.bool x.2]else x.1)
    |none=>(zeroValue elem).bind λz=>(bg (z,bu)).bind λx=>bg (if bu=bo then Value.tuple #[x.1,.bool x.2]else x.1)):=by
  intro key elem es;refine cS _ λ_=>cS _ λr=> ?_
  cases r with
  |some p=>obtain⟨i,v⟩:=p;exact zYn
  |none=>exact cS _ λz=>zYn
 cases d<;>first|exact z9w|skip
 rename_i key elem;cases m<;>first|exact cS _ (λes=>tail key elem es)|skip
 rename_i r;cases r with
 |none=>exact cS _ (λes=>tail key elem es)
 |some r=>
  refine cS _ λo=> ?_
  cases o<;>exact cS _ (λes=>tail key elem es)
def zJz {P:aa} {t:ae} {m k v b:ab} {w w':ac} (h:(cp t m k bo).run P w= .ok (.tuple #[v,b]) w'):(cp t m k bu).run P w= .ok v w':=
 sim_lookup w v b w' h
def z3n {P:aa} {ρ:Env} {o:aj} {w:ac} {K:ab->Prop} (h:tN P o ρ w K):∃v,K v/\(af (ev ρ) o).run P w= .ok (.value v) w:=by
 cases ho:o.op
 case load t x=>
  simp only[tN,ho]at h;split at h
  ·rename_i p hx;obtain⟨a,rfl,h⟩:=nR h;obtain⟨v,hv,h⟩:=wR h;refine⟨v,h,?_⟩;simp only[af,ho,hx];exact yF hv
  ·exact h.elim
 case lookup t m k ok=>
  simp only[tN,ho]at h;split at h
  ·rename_i e he;obtain⟨v,h⟩:=wR h;obtain⟨b,hb,h⟩:=jY h;refine⟨_,h,?_⟩;simp only[af,ho];cases ok
   ·exact yF (zJz hb)
   ·exact yF hb
  ·exact h.elim
 case convert s d x=>
  simp only[tN,ho]at h;obtain⟨v,hv,h⟩:=wR h;refine⟨v,h,?_⟩;simp only[af,ho];exact yF hv
 case binOp op t x y u=>
  simp only[tN,ho]at h;split at h
  ·obtain⟨v,h1,h2,h⟩:=jY h;refine⟨v,h,?_⟩;simp only[af,ho];refine yF ?_;simp only[bind,run_bind,h2];exact h1
  ·obtain⟨v,h1,h2,h⟩:=jY h;refine⟨v,h,?_⟩;simp only[af,ho];refine yF ?_;simp only[bind,run_bind,h2];exact h1
  ·exact h.elim
 case call c=>
  simp only[tN,ho]at h;split at h<;>first|exact h.elim|skip
  all_goals first|(exfalso;rename_i hh;cases hh;done)|skip
  rename_i args argTypes hh;cases hh;obtain⟨v,hv,h⟩:=jY h;refine⟨v,h,?_⟩;simp only[af,ho];exact yF hv
 case entry x=>
  simp only[tN,ho]at h;obtain⟨v,hv,h⟩:=h;refine⟨v,h,?_⟩;simp only[af,ho];exact yF hv
 all_goals(simp only[tN,ho]at h)
def Does (P:aa) (s:Sem Next) (w:ac) (K:ab->ac->Prop):Prop:=
 match s.run P w with
 | .ok (.value v) w'=>K v w'
 | .ok .skip w'=>K ao w'
 | .ok (.enter f args) w'=>Calls P f args w' λe w''=>∃v,e=.returned v/\K v w''
 |_=>False
def z4j (w:ac) (o:Obj) (K:Nat->ac->Prop):Prop:=∀b w',b=w.heap.size->w'=w.alloc o->K b w'
def zero? (P:aa) (t:ae):Option ab:=
 match P.info? t with
 |some i=>i.zero
 |none=>az
def zBl (z:Array ab) (n:Nat):Array ab:=((da n).map λj=>z.toList.getD (j % z.size) default).toArray
def zPx (z:Array ab) (n:Nat):(Array.range n).map (z[·% z.size]!)=zBl z n:=by
 apply dd;simp only[zBl,Array.toList_map,Array.toList_range];refine y6k λj _=> ?_
 rw[Array.getElem!_eq_getD,y6y,y5k,Array.getElem?_toList]
def bsl (P:aa) (t:ae) (len:Nat) (parts:Array (Nat×ab)):Option (ae×Array ab):=
 match P.underlying t with
 |some (.slice e)=>
  match P.info? e with
  |some i=>
   if len*i.size>2 ^ 24 then az else
   match(if len*i.size=0 then ay #[]else i.zero.map Value.cells)with
   |some z=>(Instr.fill (λj=>ay (j*i.size,i.size)) (zBl z (len*i.size)) parts.toList).map λcs=>(e,cs)
   |none=>az
  |none=>az
 |_=>az
def vP (P:aa) (t:ae):Option (ae×Nat×Nat×Array ab):=
 match P.underlying t with
 |some (.slice e)=>
  match P.info? e with
  |some i=>i.zero.map λz=>(e,i.size,i.bytes,z.cells)
  |none=>az
 |_=>az
def uP (P:aa) (f:av):Bool:=
 match P.funcs[f]? with
 | some fn => !fn.body.isNone && !(fn.name == "runtime.NumGoroutine")
 |none=>bu
def yGm (P:aa) (f:av) (args:Array ab) (w:ac) (rt:ae) (K:ab->ac->Prop):Prop:=
 Calls P f args w λe w'=>exR P rt λv=>e=.returned v/\K v w'
def Ext (P:aa) (f:av) (args:Array ab) (w:ac) (v:ab) (w':ac):Prop:=(au f args).run P w=.ok (.value v) w'
def fN (P:aa) (o:aj) (ρ:Env) (w:ac) (K:ab->ac->Prop):Prop:=
 match o.op with
 | .alloc e=>
   match zero? P e with
   |some z=>z4j w (.cells z.cells e) λb w'=>K (.pointer (ay ⟨b,0,az⟩)) w'
   |none=>False
 | .box e x=>z4j w (.cells (ev ρ x).cells e) λb w'=>K (.pointer (ay ⟨b,0,az⟩)) w'
 | .buildSlice t len parts=>
   match bsl P t len (parts.map λ(i,x)=>(i,ev ρ x))with
   |some (e,cs)=>z4j w (.cells cs e) λb w'=>K (.slice (ay ⟨b,0,az⟩) len len) w'
   |none=>False
 | .makeMap _ az=>z4j w (.map #[] 0) λb w'=>K (.map (ay b)) w'
 | .makeSlice t l c=>
   match ev ρ l,ev ρ c with
   | .int _ l,.int _ c=>
     match vP P t with
     |some (e,sz,by_,z)=>(0<=l/\l<=c/\c<=9223372036854775807/\(by_:Int)*c<=2 ^ 48)/\
       z4j w (.cells (madeCells z (c.toNat*sz)) e) λb w'=>K (.slice (ay ⟨b,0,az⟩) l.toNat c.toNat) w'
     |none=>False
   |_,_=>False
 | .store t x v=>
   match ev ρ x with
   | .pointer p=>z0f p λa=>∃w',zBp P (storeVar t a (ev ρ v)) w w'/\K ao w'
   |_=>False
 | .mapUpdate t m k x=>∃w',zBp P (Instr.mapUpdate t (ev ρ m) (ev ρ k) (ev ρ x)) w w'/\K ao w'
 | .mapEntry t m k=>
   match z6b P t with
   |some e=>exT P e λv=>exC (.int .i64) λs=>∃w',u0 P (Instr.mapEntry t (ev ρ m) (ev ρ k)) w (.tuple #[v,s]) w'/\K (.tuple #[v,s]) w'
   |none=>False
 | .entryStore t m s x=>∃w',zBp P (Instr.entryStore t (ev ρ m) (ev ρ s) (ev ρ x)) w w'/\K ao w'
 | .range t x=>
   match P.underlying t,ev ρ x with
   |some .string,.string s=>z4j w (.stringIter s 0) λb w'=>K (.pointer (ay ⟨b,0,az⟩)) w'
   |_,x=>exC .ptr λv=>∃w',u0 P (Instr.range t x) w v w'/\K v w'
 | .next it bo=>
   (∃w',u0 P (Instr.next (ev ρ it) bo o.type) w (.tuple #[.bool bu]) w'/\K (.tuple #[.bool bu]) w')\/
   exC (.int .i64) λk=>exC (.int .i32) λv=>∃w',u0 P (Instr.next (ev ρ it) bo o.type) w (.tuple #[.bool bo,k,v]) w'/\K (.tuple #[.bool bo,k,v]) w'
 | .next it bu=>
   (∃w',u0 P (Instr.next (ev ρ it) bu o.type) w (.tuple #[.bool bu]) w'/\K (.tuple #[.bool bu]) w')\/
   ∃(k v:ab) (w':ac),u0 P (Instr.next (ev ρ it) bu o.type) w (.tuple #[.bool bo,k,v]) w'/\K (.tuple #[.bool bo,k,v]) w'
 | .convert s d x=>exT P d λv=>∃w',u0 P (ax s d (ev ρ x)) w v w'/\K v w'
 | .call c=>
   match c.callee with
   | .value (.func f)=>bif uP P f then yGm P f (c.args.map (ev ρ)) w o.type K else exR P o.type λv=>∃w',Ext P f (c.args.map (ev ρ)) w v w'/\K v w'
   | .value x=>
     match ev ρ x with
     | .func (.func f) first cap=>uP P f=bo/\yGm P f (first++c.args.map (ev ρ)++cap) w o.type K
     |_=>False
   | .builtin .append=>exT P o.type λv=>∃w',u0 P (ce c.argTypes o.type (c.args.map (ev ρ))) w v w'/\K v w'
   | .builtin .copy=>exC (.int .i64) λv=>∃w',u0 P (cg c.argTypes o.type (c.args.map (ev ρ))) w v w'/\K v w'
   | .builtin .delete=>∃w',u0 P (Builtin.delete_ c.argTypes o.type (c.args.map (ev ρ))) w (.tuple #[]) w'/\K (.tuple #[]) w'
   | .builtin .clear=>∃w',u0 P (Builtin.clear_ c.argTypes o.type (c.args.map (ev ρ))) w (.tuple #[]) w'/\K (.tuple #[]) w'
   |_=>False
 |_=>False
def yD {P:aa} {s:Sem ab} {w w':ac} {v:ab} {K:ab->ac->Prop} (h:s.run P w= .ok v w') (hk:K v w'):Does P (do pure (Next.value (<- s))) w K:=by
 unfold Does;rw[z3o h];exact hk
def j7 {P:aa} {s:Sem Unit} {w w':ac} {K:ab->ac->Prop} (h:s.run P w= .ok () w') (hk:K ao w'):Does P (do s;pure Next.skip) w K:=by
 unfold Does;rw[yCp h];exact hk
def zTi {P:aa} {f:av} {args:Array ab} {w:ac} {rt:ae} {K:ab->ac->Prop} (hb:uP P f=bo) (h:yGm P f args w rt K):Does P (au f args) w K:=by
 unfold uP at hb;split at hb
 ·rename_i fn hfn;simp only[y5o,y8o,Bool.not_eq_eq_eq_not,Bool.not_true]at hb;unfold Does;have:(au f args).run P w= .ok (.enter f args) w:=by
   simp only[au,bind,pure,run_bind,program,bc,be,hfn,hb.1,hb.2,y5v,if_false]
  rw[this];exact h.mono λe w' hh=>by
   obtain⟨v,hv,hk⟩:=z6j hh;exact⟨v,hv,hk⟩
 ·cases hb
def zero_run {P:aa} {t:ae} {z:ab} (h:zero? P t=ay z) (w:ac):(zeroValue t).run P w= .ok z w:=by
 unfold zero? at h;split at h
 ·rename_i i hi;have hti:(typeInfo t).run P w= .ok i w:=by
   unfold typeInfo;show((Sem.program bg).bind _).run P w=_;simp only[be,bc,hi];rfl
  unfold zeroValue;simp only[bind,run_bind,hti,h];rfl
 ·cases h
def zOa {P:aa} {t:ae} {v:ab} (w:ac):(newVar t v).run P w= .ok ⟨w.heap.size,0,az⟩ (w.alloc (.cells v.cells t)):=rfl
def zEr {P:aa} {t:ae} {i:TypeInfo} (h:P.info? t=ay i) (w:ac):(typeInfo t).run P w= .ok i w:=by
 unfold typeInfo;show((Sem.program bg).bind _).run P w=_;simp only[be,bc,h];rfl
def aJ {P:aa} {t:ae} {len:Nat} {parts:Array (Nat×ab)} {e:ae} {cs:Array ab} (h:bsl P t len parts=ay (e,cs)) (w:ac):
 (Instr.buildSlice t len parts).run P w= .ok (.slice (ay ⟨w.heap.size,0,az⟩) len len) (w.alloc (.cells cs e)):=by
 unfold bsl at h;split at h<;>first|(cases h;done)|skip
 rename_i e' ht;split at h<;>first|(cases h;done)|skip
 rename_i i hi;split at h<;>first|(cases h;done)|skip
 rename_i hlen;split at h<;>first|(cases h;done)|skip
 rename_i z hz;simp only[ba,df]at h;obtain⟨cs',hcs,rfl,rfl⟩:=h;by_cases h0:len*i.size=0
 ·simp only[h0,if_true,cr]at hz;subst hz;simp only[Instr.buildSlice,bind,pure,run_bind,be,bc,run_underlying ht,run_sizeOf hi,y5b hlen,y5d h0,zPx,hcs];rfl
 ·simp only[h0,if_false,ba]at hz;obtain⟨z',hz',rfl⟩:=hz;have hzr:∀w,(zeroValue e').run P w= .ok z' w:=λw=>zero_run (by unfold zero?;rw[hi];exact hz') w
  simp only[Instr.buildSlice,bind,pure,run_bind,be,bc,run_underlying ht,run_sizeOf hi,y5b hlen,y5b h0,hzr,zPx,hcs];rfl
def kH {P:aa} {t e:ae} {sz by_:Nat} {z:Array ab} (h:vP P t=ay (e,sz,by_,z)):
 ∃i zv,P.underlying t=ay (.slice e)/\P.info? e=ay i/\i.size=sz/\i.bytes=by_/\i.zero=ay zv/\zv.cells=z:=by
 unfold vP at h;split at h<;>first|(cases h;done)|skip
 rename_i e' ht;split at h<;>first|(cases h;done)|skip
 rename_i i hi;simp only[ba,df]at h;obtain⟨zv,hzv,rfl,rfl,rfl,rfl⟩:=h;exact⟨i,zv,ht,hi,rfl,rfl,hzv,rfl⟩
def wrap_i64 {x:Int} (h0: -9223372036854775808<=x) (h1:x<=9223372036854775807):de.wrap x=x:=IntWalk.i64_in x ⟨h0,h1⟩
def zKf (P:aa) (n:Nat) (w:ac):(askRoom n).run P w= .ok () w:=by
 unfold askRoom;split<;>rfl
def zMg {P:aa} {t e:ae} {sz by_:Nat} {z:Array ab} {k k':ag} {l c:Int} (h:vP P t=ay (e,sz,by_,z))
 (hb:0<=l/\l<=c/\c<=9223372036854775807/\(by_:Int)*c<=2 ^ 48) (w:ac):
 (Instr.makeSlice t (.int k l) (.int k' c)).run P w= .ok (.slice (ay ⟨w.heap.size,0,az⟩) l.toNat c.toNat) (w.alloc (.cells (madeCells z (c.toNat*sz)) e)):=by
 obtain⟨i,zv,ht,hi,rfl,rfl,hz,rfl⟩:=kH h;obtain⟨h1,h2,h3,h4⟩:=hb;have wl:de.wrap l=l:=wrap_i64 (by omega) (by omega);have wc:de.wrap c=c:=wrap_i64 (by omega) (by omega);have hc1:¬(((decide (c<0)||decide ((i.bytes:Int)*c>2 ^ 48))||decide (l<0)||decide (l>c))=bo):=by
  simp only[bv,y6p,not_or];omega
 have hzr:∀w,(zeroValue e).run P w= .ok zv w:=λw=>zero_run (by unfold zero?;rw[hi];exact hz) w
 simp only[Instr.makeSlice,asInt,asIntOf,bind,pure,run_bind,be,bc,run_underlying ht,zEr hi,run_sizeOf hi,wl,wc];rw[y5b hc1];simp only[run_bind,zKf,run_sizeOf hi];by_cases h0:c.toNat*i.size=0
 ·simp only[h0,if_true,bc,run_bind,madeCells];have e1:(Array.map (λx=>(#[]:Array ab)[x % (#[]:Array ab).size]!) (Array.range 0))= #[]:=by simp
  have e2:(Array.map (λx=>zv.cells[x % zv.cells.size]!) (Array.range 0))= #[]:=by simp
  rw[e1,e2];rfl
 ·simp only[y5b h0,run_bind,hzr,bc,madeCells];rfl
def zSr {P:aa} {ρ:Env} {o:aj} {w:ac} {K:ab->ac->Prop} (h:fN P o ρ w K):Does P (af (ev ρ) o) w K:=by
 cases ho:o.op
 case alloc e=>
  simp only[fN,ho]at h;split at h
  ·rename_i z hz;simp only[af,ho];refine yD (v:= .pointer (ay ⟨w.heap.size,0,az⟩)) (w':=w.alloc (.cells z.cells e)) ?_ (h _ _ rfl rfl);simp only[Instr.alloc,bind,pure,run_bind,zero_run hz,bc,zOa]
  ·exact h.elim
 case box e x=>
  simp only[fN,ho]at h;simp only[af,ho];exact yD (v:= .pointer (ay ⟨w.heap.size,0,az⟩)) (w':=w.alloc (.cells (ev ρ x).cells e)) rfl (h _ _ rfl rfl)
 case buildSlice t len parts=>
  simp only[fN,ho]at h;split at h
  ·rename_i e cs hcs;simp only[af,ho];exact yD (aJ hcs w) (h _ _ rfl rfl)
  ·exact h.elim
 case makeMap t r=>
  cases r with
  |some r=>simp only[fN,ho]at h
  |none=>
   simp only[fN,ho]at h;simp only[af,ho];exact yD (v:= .map (ay w.heap.size)) (w':=w.alloc (.map #[] 0)) rfl (h _ _ rfl rfl)
 case makeSlice t l c=>
  simp only[fN,ho]at h;split at h<;>first|exact h.elim|skip
  rename_i k l' k' c' hl hc;split at h<;>first|exact h.elim|skip
  rename_i e sz by_ z hs;simp only[af,ho,hl,hc];exact yD (zMg hs h.1 w) (h.2 _ _ rfl rfl)
 case store t x v=>
  simp only[fN,ho]at h;split at h<;>first|exact h.elim|skip
  rename_i p hx;obtain⟨a,rfl,w',hw,hk⟩:=nR h;simp only[af,ho,hx];exact j7 (w':=w') hw hk
 case mapUpdate t m k x=>
  simp only[fN,ho]at h;obtain⟨w',hw,hk⟩:=h;simp only[af,ho];exact j7 hw hk
 case mapEntry t m k=>
  simp only[fN,ho]at h;split at h<;>first|exact h.elim|skip
  obtain⟨v,h⟩:=wR h;obtain⟨s,w',hw,hk⟩:=jY h;simp only[af,ho];exact yD hw hk
 case entryStore t m s x=>
  simp only[fN,ho]at h;obtain⟨w',hw,hk⟩:=h;simp only[af,ho];exact j7 hw hk
 case range t x=>
  simp only[fN,ho]at h;split at h
  ·rename_i s ht hx;simp only[af,ho];refine yD (v:= .pointer (ay ⟨w.heap.size,0,az⟩)) (w':=w.alloc (.stringIter s 0)) ?_ (h _ _ rfl rfl);rw[hx];simp only[Instr.range,bind,pure,run_bind,be,run_underlying ht];rfl
  ·obtain⟨v,w',hw,hk⟩:=jY h;simp only[af,ho];exact yD hw hk
 case next it isString=>
  simp only[af,ho];cases isString
  ·simp only[fN,ho]at h;rcases h with⟨w',hw,hk⟩|⟨k,v,w',hw,hk⟩
   ·exact yD hw hk
   ·exact yD hw hk
  ·simp only[fN,ho]at h;rcases h with⟨w',hw,hk⟩|h
   ·exact yD hw hk
   ·obtain⟨k,h⟩:=jY h;obtain⟨v,w',hw,hk⟩:=jY h;exact yD hw hk
 case convert s d x=>
  simp only[fN,ho]at h;obtain⟨v,w',hw,hk⟩:=wR h;simp only[af,ho];exact yD hw hk
 case call c=>
  have hexec:af (ev ρ) o=(ar (ev ρ) c o.type).bind λd=>invoke d.target d.args:=by
   simp only[af,ho];rfl
  simp only[fN,ho]at h;split at h
  ·rename_i f hc;have hrun:(af (ev ρ) o)=au f (c.args.map (ev ρ)):=by
    rw[hexec];unfold ar;rw[hc];simp only[ev,Deferred.ofValue,pure,be,invoke,Array.append_empty,Array.empty_append]
   rw[hrun];revert h;cases hb:uP P f<;>intro h
   ·replace h:exR P o.type λv=>∃w',Ext P f (c.args.map (ev ρ)) w v w'/\K v w':=h
    obtain⟨v,w',hw,hk⟩:=z6j h;exact(by unfold Does;rw[show(au f (c.args.map (ev ρ))).run P w=_ from hw];exact hk)
   ·exact zTi hb h
  ·rename_i x hc;split at h<;>first|exact h.elim|skip
   rename_i f first cap hx
   have hrun:(af (ev ρ) o)=au f (first++c.args.map (ev ρ)++cap):=by
    rw[hexec];unfold ar;rw[hc];simp only[hx,Deferred.ofValue,pure,be,invoke]
   rw[hrun];exact zTi h.1 h.2
  all_goals first|exact h.elim|skip
  ·rename_i hc;have hrun:af (ev ρ) o=builtin .append c.argTypes o.type (c.args.map λ| .const _=>bo|_=>bu) (c.args.map (ev ρ)):=by
    rw[hexec];unfold ar;rw[hc];rfl
   rw[hrun];obtain⟨v,w',hw,hk⟩:=wR h;exact yD hw hk
  ·rename_i hc;have hrun:af (ev ρ) o=builtin .copy c.argTypes o.type (c.args.map λ| .const _=>bo|_=>bu) (c.args.map (ev ρ)):=by
    rw[hexec];unfold ar;rw[hc];rfl
   rw[hrun];obtain⟨v,w',hw,hk⟩:=jY h;exact yD hw hk
  ·rename_i hc;have hrun:af (ev ρ) o=builtin .delete c.argTypes o.type (c.args.map λ| .const _=>bo|_=>bu) (c.args.map (ev ρ)):=by
    rw[hexec];unfold ar;rw[hc];rfl
   rw[hrun];obtain⟨w',hw,hk⟩:=h;exact yD hw hk
  ·rename_i hc;have hrun:af (ev ρ) o=builtin .clear c.argTypes o.type (c.args.map λ| .const _=>bo|_=>bu) (c.args.map (ev ρ)):=by
    rw[hexec];unfold ar;rw[hc];rfl
   rw[hrun];obtain⟨w',hw,hk⟩:=h;exact yD hw hk
 all_goals(simp only[fN,ho]at h)
end Cv
namespace Cv
open Go
def zMx:ap->Bool
 | .const (.pointer az)=>bo
 |_=>bu
def zWa (P:aa) (op:Op):Nat:=
 match op with
 | .load _ _=>1
 | .lookup _ _ _ _=>1
 | .convert s d _=>
   match P.underlying s,P.underlying d with
   |some .string,ay (.slice _)=>2
   |some (.slice _),ay .string=>1
   |_,_=>0
 | .binOp op t x y _=>
   match op,P.underlying t with
   | .eql,ay (.pointer _)=>bif zMx y then 0 else 1
   | .neq,ay (.pointer _)=>bif zMx y then 0 else 1
   |_,_=>0
 | .call c=>
   match c.callee with
   | .builtin .len=>
     match(c.argTypes[0]?).bind P.underlying with
     |some (.map _ _)=>1
     |_=>0
   | .builtin .cap=>0
   | .builtin .min=>0
   | .builtin .max=>0
   |_=>2
 | .alloc _=>2
 | .box _ _=>2
 | .buildSlice _ _ _=>2
 | .makeMap _ _=>2
 | .makeSlice _ _ _=>2
 | .store _ _ _=>2
 | .mapUpdate _ _ _ _=>2
 | .mapEntry _ _ _=>2
 | .entryStore _ _ _ _=>2
 | .range _ _=>2
 | .entry _=>1
 | .next _ _=>2
 |_=>0
def opV (P:aa) (o:aj) (ρ:Env) (w:ac) (K:ab->ac->Prop):Prop:=
 match zWa P o.op with
 |0=>cA P o ρ λv=>K v w
 |1=>tN P o ρ w λv=>K v w
 |_=>fN P o ρ w K
def jT {P:aa} {s:Sem Next} {w w':ac} {v:ab} {K:ab->ac->Prop} (h:s.run P w= .ok (.value v) w') (hk:K v w'):Does P s w K:=by
 unfold Does;rw[h];exact hk
def yAk {P:aa} {o:aj} {ρ:Env} {w:ac} {K:ab->ac->Prop} (h:opV P o ρ w K):Does P (af (ev ρ) o) w K:=by
 unfold opV at h;split at h
 ·obtain⟨v,hk,hf⟩:=gL h;exact jT (hf w) hk
 ·obtain⟨v,hk,hf⟩:=z3n h;exact jT hf hk
 ·exact zSr h
def z9i (ops:List aj) (j:Nat):Option Nat:=
 match ops[j]? with
 |some o=>o.dst
 |none=>az
def gd (c want:Bool) (Y N:Prop):Prop:=
 match c,want with
 |true,bo=>Y
 |false,bu=>Y
 |true,bu=>N
 |false,bo=>N
def zMa (ops:List aj) (g:Option (Nat×Bool)) (ρ:Env) (Y N:Env->Prop):Prop:=
 match g with
 |none=>Y ρ
 |some (j,want)=>
  match z9i ops j with
  |none=>N ρ
  |some d=>
   match ρ d with
   | .bool c=>gd c want (Y (put ρ (ay d) (.bool want))) (N (put ρ (ay d) (.bool !want)))
   |_=>N ρ
def zXe {ρ:Env} {d:Nat} {v:ab} (h:ρ d=v):put ρ (ay d) v=ρ:=by
 funext i;simp only[put];cases hb:cu i d
 ·rfl
 ·have:=y5e hb;subst this;exact h.symm
@[reducible] def yK (a:Act):Env:=λi=>a.tmps.getD i ao
def wG (a:Act):ev (yK a)=a.eval:=by
 funext x;cases x<;>rfl
def envOf_put {a:Act} {dst:Option Nat} {v:ab} (h:∀d,dst=ay d->d<a.tmps.size):yK (a.put dst v)=put (yK a) dst v:=by
 cases dst with
 |none=>rfl
 |some d=>
  funext i;have:=h d rfl;simp only[yK,Act.put,put];cases hb:cu i d
  ·have hne:i≠d:=λe=>by subst e;simp at hb
   simp[y6y,y9x (Ne.symm hne)]
  ·have e:=y5e hb;subst e;simp[y6y,y8z this]
def zDw (ops:List aj) (tmps:Array ab) (j:Nat):yielded ops.toArray tmps j=match z9i ops j with
 |none=>az
 |some d=>match tmps[d]? with|some (.bool b)=>ay b|_=>az:=by
 unfold yielded z9i;simp only[y7d];cases ops[j]? with
 |none=>rfl
 |some o=>
  obtain⟨dst,op,ty,pos,after,g⟩:=o;cases dst with
  |none=>rfl
  |some d=>
   simp only[Option.bind_some];cases tmps[d]? with
   |none=>rfl
   |some v=>cases v<;>rfl
def sR {ops:List aj} {o:aj} {a:Act} {Y N:Env->Prop} (h:zMa ops o.guard (yK a) Y N):
 if cn o (yielded ops.toArray a.tmps)then Y (yK a)else N (yK a):=by
 unfold zMa at h;unfold cn;split at h
 ·rename_i hg;rw[hg];exact h
 ·rename_i j want hg;rw[hg];have hy:=zDw ops a.tmps j;split at h
  ·rename_i hd;rw[hd]at hy;simp only[hy];simpa using h
  ·rename_i d hd;rw[hd]at hy;simp only[hy];have hv:yK a d=(a.tmps[d]?).getD ao:=by simp[yK,y6y]
   rw[hv]at h;cases ht:a.tmps[d]? with
   |none=>
    rw[ht]at h;simpa[ao]using h
   |some v=>
    rw[ht]at h hv;simp only[y7n]at h hv;cases v with
    |bool c=>
     simp only[]at h ⊢;have hs:∀b,c=b->put (yK a) (ay d) (.bool b)=yK a:=λb hb=>zXe (by rw[hv,hb])
     cases c<;>cases want<;>simp only[gd,Bool.not_true,xAd]at h<;>rw[hs _ rfl]at h<;>simpa using h
    |_=>simpa using h
def z0r (P:aa) (ops:List aj):List aj->Env->ac->(Env->ac->Prop)->Prop
 |[],ρ,w,K=>K ρ w
 |o::rest,ρ,w,K=>
  zMa ops o.guard ρ (λρ=>opV P o ρ w λv w'=>z0r P ops rest (put ρ o.dst v) w' K) (λρ=>z0r P ops rest (put ρ o.dst ao) w K)
def zKd (n:Nat) (A:Nat->Bool) (ops:List aj):Prop:=∀o∈ops,∀d,o.dst=ay d->d<n/\A d=bo
structure Good (n:Nat) (A:Nat->Bool) (e0:Env) (a:Act):Prop where
 size:a.tmps.size=n
 defers:a.defers=[]
 same:∀s,A s=bu->yK a s=e0 s
def zYy (a:Act) (d:Option Nat) (v:ab):(a.put d v).tmps.size=a.tmps.size/\(a.put d v).defers=a.defers:=by
 cases d<;>simp[Act.put]
def Good.envOf_put {n:Nat} {A:Nat->Bool} {e0:Env} {a:Act} (h:Good n A e0 a) {dst:Option Nat} (hd:∀d,dst=ay d->d<n/\A d=bo) (v:ab):
 yK (a.put dst v)=put (yK a) dst v:=Cv.envOf_put λd hd'=>by rw[h.size];exact(hd d hd').1
def Good.put {n:Nat} {A:Nat->Bool} {e0:Env} {a:Act} (h:Good n A e0 a) {dst:Option Nat} (hd:∀d,dst=ay d->d<n/\A d=bo) (v:ab):Good n A e0 (a.put dst v):=by
 refine⟨(zYy _ _ _).1.trans h.size,(zYy _ _ _).2.trans h.defers,λs hs=> ?_⟩;rw[h.envOf_put hd];cases dst with
 |none=>exact h.same s hs
 |some d=>
  simp only[Cv.put];cases hb:cu s d
  ·exact h.same s hs
  ·have e:=y5e hb;subst e;have:=(hd s rfl).2;rw[hs]at this;cases this
def zDa {P:aa} {o:aj} {a:Act} {w:ac} {K:Act->ac->Prop} {Q:Exit->Act->ac->Prop}
 (h:Does P (af a.eval o) w λv w'=>K (a.put o.dst v) w'):o.wp P a w K Q:=by
 unfold Does at h;unfold Oper.wp;split at h
 ·rename_i v w' hr;rw[hr];exact h
 ·rename_i w' hr;rw[hr];exact h
 ·rename_i f args w' hr;rw[hr];exact h.mono λe w'' ⟨v,he,hk⟩=>by subst he;exact hk
 ·exact h.elim
def zNs {P:aa} {ops:List aj} {n:Nat} {A:Nat->Bool} {e0:Env} {Q:Exit->Act->ac->Prop} {K:Env->ac->Prop}
 (hQ:∀a w,Good n A e0 a->K (yK a) w->Q .normal a w):
 ∀(l:List aj) (a:Act) (w:ac),zKd n A l->Good n A e0 a->z0r P ops l (yK a) w K->wpList P ops.toArray Q l a w
 |[],a,w,_,hg,h=>hQ a w hg h
 |o::l,a,w,hf,hgd,h=>by
  have hdst:=hf o y5h;have hf':zKd n A l:=λo' ho'=>hf o' (y5j _ ho')
  have hg:=sR h;have nx:∀{v:ab} {w:ac},z0r P ops l (put (yK a) o.dst v) w K->wpList P ops.toArray Q l (a.put o.dst v) w:=λ{v w} hh=>
   zNs hQ l _ _ hf' (hgd.put hdst v) (by rw[hgd.envOf_put hdst];exact hh)
  unfold wpList;split
  ·rename_i hw;rw[y5d hw]at hg;left;refine zDa ?_;have:=yAk hg;rw[wG]at this;unfold Does at this ⊢;split at this
   ·exact nx this
   ·exact nx this
   ·exact this.mono λe w'' ⟨v,he,hk⟩=>⟨v,he,nx hk⟩
   ·exact this
  ·rename_i hw;rw[y5b hw]at hg;exact nx hg
end Cv
namespace Cv
open Go
def yJp (acc:List Nat) (o:aj):Nat:=
 o.after.toList.foldl (λs e=>bif cm .any e then s|||2 ^ e.on|||acc.getD e.on 0 else s) 0
def uE:List aj->List Nat->List Nat
 |[],acc=>acc
 |o::rest,acc=>uE rest (acc++[yJp acc o])
def Bef (bf:List Nat) (i r:Nat):Bool:=(bf.getD i 0).testBit r
def sC (ops:List aj) (L:Nat->Prop):Prop:=∀i o,ops[i]?=ay o->L i->∀e∈o.after,cm .any e=bo->L e.on
def zRs {ops:List aj} {acc:List Nat} {L:Nat->Prop} (hacc:∀k,L k->∀r,(acc.getD k 0).testBit r=bo->L r):
 ∀(l:List Edge) (s:Nat),(∀r,s.testBit r=bo->L r)->(∀e∈l,cm .any e=bo->L e.on)->
  ∀r,(l.foldl (λs e=>bif cm .any e then s|||2 ^ e.on|||acc.getD e.on 0 else s) s).testBit r=bo->L r
 |[],s,hs,_,r,h=>hs r h
 |e::l,s,hs,hl,r,h=>by
  refine zRs (ops:=ops) hacc l _ ?_ (λe' he'=>hl e' (y5j _ he')) r h;intro r hr;dsimp only at hr;cases hb:cm .any e
  ·rw[hb]at hr;exact hs r hr
  ·have hon:=hl e (by simp) hb;rw[hb]at hr;simp only[cond_true,Nat.testBit_or,Nat.testBit_two_pow,bv,y6p]at hr;rcases hr with(hr|hr)|hr
   ·exact hs r hr
   ·exact hr▸hon
   ·exact hacc _ hon r hr
def befL_bits {ops:List aj} {L:Nat->Prop} (hc:sC ops L):∀(l:List aj) (acc:List Nat),(∀j,l[j]? =ops[acc.length+j]?)->
 (∀k o,k<acc.length->ops[k]? =ay o->(∀e∈o.after,cm .any e=bo->L e.on)->∀r,(acc.getD k 0).testBit r=bo->L r)->
 ∀k o,ops[k]? =ay o->(∀e∈o.after,cm .any e=bo->L e.on)->∀r,((uE l acc).getD k 0).testBit r=bo->L r
 |[],acc,hl,hacc,k,o,ho,hd,r,hr=>by
  by_cases hk:k<acc.length
  ·exact hacc k o hk ho hd r hr
  ·exfalso;have:=hl (k-acc.length);rw[show acc.length+(k-acc.length)=k by omega,ho]at this;simp at this
 |o::l,acc,hl,hacc,k,o',ho',hd,r,hr=>by
  refine befL_bits hc l (acc++[yJp acc o]) ?_ ?_ k o' ho' hd r hr
  ·intro j;have:=hl (j+1);simp only[y5a,y5g,y6v];rw[show acc.length+(0+1)+j=acc.length+(j+1)by omega];simpa using this
  ·intro k2 o2 hk2 ho2 hd2 r2 hr2;have hlook:∀k,L k->∀r,(acc.getD k 0).testBit r=bo->L r:=by
    intro k3 hL r3 h3;by_cases hk3:k3<acc.length
    ·cases ho3:ops[k3]? with
     |none=>
      exfalso;have:=hl 0;simp only[y9n]at this;rw[List.getElem?_eq_none_iff]at ho3;have h4:acc.length<ops.length:=by
       rcases y7k acc.length ops.length with h|h
       ·exact h
       ·rw[y6h h]at this;simp at this
      omega
     |some o3=>exact hacc k3 o3 hk3 ho3 (hc k3 o3 ho3 hL) r3 h3
    ·simp[y5k,y6h (Nat.not_lt.1 hk3)]at h3
   by_cases hk:k2<acc.length
   ·rw[y5k,y7x hk,<- y5k]at hr2;exact hacc k2 o2 hk ho2 hd2 r2 hr2
   ·have hk':k2=acc.length:=by simp at hk2;omega
    subst hk';rw[y5k,y7f (y5x _)]at hr2;simp only[xAp,y7m,y7n]at hr2;have h0:=hl 0;simp only[y7m,y9n]at h0;rw[ho2]at h0;cases h0;exact zRs (ops:=ops) hlook _ 0 (by simp) (λe he hb=>hd2 e (by simpa using he) hb) r2 hr2
def z3q {ops:List aj} {L:Nat->Prop} (hc:sC ops L) {i:Nat} {o:aj} (ho:ops[i]? =ay o) (hd:∀e∈o.after,cm .any e=bo->L e.on)
 {r:Nat} (h:Bef (uE ops []) i r=bo):L r:=
 befL_bits hc ops [] (by simp) (by simp) i o ho hd r h
@[reducible] def Mon:=Nat×(ac->Prop)
def jB (bf:List Nat) (i:Nat) (M:List Mon):List Mon:=M.filter λm=> !Bef bf i m.1
def zOc (M:List Mon) (w:ac):Prop:=∀m∈M,m.2 w
def zKj (P:aa) (ops:Array aj) (i:Nat) (K:Act->ac->Prop) (a:Act) (w:ac):Prop:=
 match ops[i]? with
 |none=>K a w
 |some o=>if cn o (yielded ops a.tmps)then Does P (af a.eval o) w (λv w'=>K (a.put o.dst v) w')else K (a.put o.dst ao) w
def Does.mono {P:aa} {s:Sem Next} {w:ac} {K K':ab->ac->Prop} (h:Does P s w K) (hk:∀v w',K v w'->K' v w'):Does P s w K':=by
 unfold Does at*;split at h
 ·exact hk _ _ h
 ·exact hk _ _ h
 ·exact h.mono λe w'' ⟨v,he,h⟩=>⟨v,he,hk _ _ h⟩
 ·exact h
def zAr {P:aa} {ops:Array aj} {i:Nat} {K K':Act->ac->Prop} {a:Act} {w:ac} (h:zKj P ops i K a w) (hk:∀a w,K a w->K' a w):zKj P ops i K' a w:=by
 unfold zKj at*;split
 ·rename_i ho;simp only[ho]at h;exact hk _ _ h
 ·rename_i o ho;simp only[ho]at h;split
  ·rename_i hw;rw[y5d hw]at h;exact h.mono λv w'=>hk _ _
  ·rename_i hw;rw[y5b hw]at h;exact hk _ _ h
def zEa (P:aa) (ops:Array aj) (bf:List Nat) (Q:Act->ac->Prop):Nat->List Mon->Array Bool->Act->ac->Prop
 |0,_,listed,a,w=>ci .any ops listed=[]/\Q a w
 |fuel+1,M,listed,a,w=>
  (ci .any ops listed=[]->Q a w)/\
  ∀i∈ci .any ops listed,zKj P ops i (λa' w'=>zOc (jB bf i M) w'/\zEa P ops bf Q fuel (jB bf i M) (listed.setIfInBounds i bo) a' w') a w
def zQy {bf:List Nat} {i:Nat} {M M':List Mon} (h:∀m∈M',m∈M):∀m∈jB bf i M',m∈jB bf i M:=by
 intro m hm;simp only[jB,y7c]at hm ⊢;exact⟨h m hm.1,hm.2⟩
def zWo {P:aa} {ops:Array aj} {bf:List Nat} {Q:Act->ac->Prop}:∀(fuel:Nat) {M M':List Mon} (listed:Array Bool) (a:Act) (w:ac),
 (∀m∈M',m∈M)->zEa P ops bf Q fuel M listed a w->zEa P ops bf Q fuel M' listed a w
 |0,_,_,_,_,_,_,h=>h
 |fuel+1,M,M',listed,a,w,hs,h=>⟨h.1,λi hi=>zAr (h.2 i hi) λa' w' hh=>
   ⟨λm hm=>hh.1 m (zQy hs m hm),zWo fuel _ _ _ (zQy hs) hh.2⟩⟩
def u6 {P:aa} {ops:Array aj} {bf:List Nat} {Q:Act->ac->Prop} {Q':Exit->Act->ac->Prop} (hQ:∀a w,Q a w->Q' .normal a w):
 ∀(fuel:Nat) {M:List Mon} (listed:Array Bool) (a:Act) (w:ac),zEa P ops bf Q fuel M listed a w->wpAny P .any ops Q' fuel listed a w
 |0,_,_,_,_,h=>⟨h.1,hQ _ _ h.2⟩
 |fuel+1,M,listed,a,w,h=>⟨λh0=>hQ _ _ (h.1 h0),λi hi=>by
   have:=h.2 i hi;unfold zKj at this;unfold wpOp;split
   ·rename_i ho;simp only[ho]at this;exact u6 hQ fuel _ _ _ this.2
   ·rename_i o ho;simp only[ho]at this;split
    ·rename_i hw;rw[y5d hw]at this;exact .inl (zDa (this.mono λv w' hh=>u6 hQ fuel _ _ _ hh.2))
    ·rename_i hw;rw[y5b hw]at this;exact u6 hQ fuel _ _ _ this.2⟩
def sY (P:aa) (ops:Array aj) (o:aj) (v:ab) (a:Act) (w:ac):Prop:=
 (cn o (yielded ops a.tmps)=bo/\(af a.eval o).run P w=.ok (.value v) w)\/(cn o (yielded ops a.tmps)=bu/\v=ao)
def zQo {P:aa} {ops:Array aj} {i:Nat} {o:aj} {v:ab} {a:Act} {w:ac} {K:Act->ac->Prop} (hi:ops[i]? =ay o) (h:sY P ops o v a w) (hk:K (a.put o.dst v) w):zKj P ops i K a w:=by
 unfold zKj;simp only[hi];rcases h with⟨hw,hr⟩|⟨hw,rfl⟩
 ·rw[y5d hw];exact jT hr hk
 ·rw[y5b (by rw[hw];simp)];exact hk
def z9q {listed:Array Bool} {i:Nat} (h:listed.getD i bo=bu):i<listed.size:=by
 rcases y7k i listed.size with h'|h'
 ·exact h'
 ·simp[y6y,y8c h']at h
def qE (listed:Array Bool) (i:Nat):Prop:=listed.getD i bu=bo
def zFk {listed:Array Bool} {i j:Nat} (h:qE listed j):qE (listed.setIfInBounds i bo) j:=by
 unfold qE at*;by_cases hij:i=j
 ·subst hij;have:i<listed.size:=by
   rcases y7k i listed.size with h'|h'
   ·exact h'
   ·simp[y6y,y8c h']at h
  simp[y6y,y8z this]
 ·simpa[y6y,y9x hij]using h
def zIy {listed:Array Bool} {i j:Nat} (h:qE (listed.setIfInBounds i bo) j):j=i\/qE listed j:=by
 unfold qE at*;by_cases hij:i=j
 ·exact .inl hij.symm
 ·right;simpa[y6y,y9x hij]using h
def zPa {listed:Array Bool} {i:Nat} (h:listed.getD i bo=bu):¬qE listed i:=by
 unfold qE;have:=z9q h;simp only[y6y,y9u this]at h ⊢;simp at h ⊢;exact h
def v7 {ops:List aj} {listed:Array Bool} (hc:sC ops (qE listed)) {i:Nat} (hi:i∈ci .any ops.toArray listed):sC ops (qE (listed.setIfInBounds i bo)):=by
 intro j o ho hj e he hb;rcases zIy hj with rfl|hj
 ·obtain⟨_,o',ho',hall⟩:=mem_ready.1 hi;simp only[y7d]at ho';rw[ho]at ho';cases ho';exact zFk (hall e he hb)
 ·exact zFk (hc j o ho hj e he hb)
def rS (ops:List aj) (bf:List Nat):Bool:=
 Region.noSelect ops.toArray && (da ops.length).all λi=>(da i).all λj=>
  match ops[i]?,ops[j]? with
  |some oi,ay oj=>Bef bf i j||(oi.apart ops.toArray oj && oj.apart ops.toArray oi)
  |_,_=>bo
def zZl {ops:List aj} {bf:List Nat} (h:rS ops bf=bo) {i j:Nat} {oi oj:aj} (hi:ops[i]? =ay oi) (hj:ops[j]? =ay oj) (hne:i≠j)
 (h1:Bef bf i j=bu) (h2:Bef bf j i=bu):oi.apart ops.toArray oj=bo:=by
 simp only[rS,y5o,y8h,y8b]at h;have lt:∀{k:Nat} {o:aj},ops[k]? =ay o->k<ops.length:=λ{k o} hk=>by
  rcases y7k k ops.length with h'|h'
  ·exact h'
  ·rw[y6h h']at hk;cases hk
 rcases Nat.lt_or_gt_of_ne hne with hlt|hlt
 ·have:=h.2 j (lt hj) i hlt;simp only[hi,hj,h2,xAx,y5o]at this;exact this.2
 ·have:=h.2 i (lt hi) j hlt;simp only[hi,hj,h1,xAx,y5o]at this;exact this.1
def yIf {P:aa} {ops:Array aj} {o:aj} {v u:ab} {a:Act} {w:ac} {d:Option Tmp} (hs:∀cs b,o.op≠.select cs b) (hd:∀t,d=ay t->t∉o.looksAt ops):
 sY P ops o v (a.put d u) w↔sY P ops o v a w:=by
 unfold sY;rw[execOp_put o hs a d u hd,wanted_put o a d u hd]
def yFd {P:aa} {ops:Array aj} {j:Nat} {oi oj:aj} {v:ab} (hj:ops[j]? =ay oj) (hap:oi.apart ops oj=bo) (hsj:∀cs b,oj.op≠.select cs b)
 {K:Act->ac->Prop} {a:Act} {w:ac} (h:zKj P ops j K (a.put oi.dst v) w):
 zKj P ops j (λa' w'=>(∃u,a'=a.put oj.dst u)/\K (a'.put oi.dst v) w') a w:=by
 obtain⟨h1,h2,h3⟩:=Oper.apart_spec hap;unfold zKj at*;simp only[hj]at*;rw[wanted_put oj a oi.dst v h1]at h;split
 ·rename_i hw;rw[y5d hw]at h;rw[execOp_put oj hsj a oi.dst v h1]at h;refine h.mono λu w' hk=>⟨⟨u,rfl⟩,?_⟩
  rw[<- Act.put_comm a v u h2];exact hk
 ·rename_i hw;rw[y5b hw]at h;exact⟨⟨_,rfl⟩,by rw[<- Act.put_comm a v ao h2];exact h⟩
def gD {P:aa} {ops:List aj} {Q:Act->ac->Prop} (hok:rS ops (uE ops [])=bo) {r:Nat} {o:aj} {v:ab} (hr:ops[r]? =ay o):
 ∀(fuel:Nat) (M:List Mon) (listed:Array Bool) (a:Act) (w:ac),sC ops (qE listed)->r∈ci .any ops.toArray listed->
  sY P ops.toArray o v a w->zOc M w->
  zEa P ops.toArray (uE ops []) Q fuel ((r,λw=>sY P ops.toArray o v a w)::M) (listed.setIfInBounds r bo) (a.put o.dst v) w->
  zEa P ops.toArray (uE ops []) Q (fuel+1) M listed a w:=by
 have hns:∀(i:Nat) (o:aj),ops[i]? =ay o->∀cs b,o.op≠.select cs b:=by
  intro i o hi cs b;simp only[rS,y5o]at hok;exact Region.noSelect_spec hok.1 i o cs b (by simpa using hi)
 intro fuel
 induction fuel with
 |zero=>
  intro M listed a w hc hrr hs hM H;refine⟨λh=>(by rw[h]at hrr;cases hrr),λi hi=> ?_⟩;by_cases hir:i=r
  ·subst hir;refine zQo (by simpa using hr) hs ⟨λm hm=>hM m (by simp only[jB,y7c]at hm;exact hm.1),?_⟩;exact H
  ·have:=ready_mono hi hir;rw[H.1]at this;cases this
 |succ fuel ih=>
  intro M listed a w hc hrr hs hM H;refine⟨λh=>(by rw[h]at hrr;cases hrr),λi hi=> ?_⟩;by_cases hir:i=r
  ·subst hir;refine zQo (by simpa using hr) hs ⟨λm hm=>hM m (by simp only[jB,y7c]at hm;exact hm.1),?_⟩;refine zWo _ _ _ _ ?_ H;intro m hm;simp only[jB,y7c]at hm;exact y5j _ hm.1
  ·have h1:=H.2 i (ready_mono hi hir);obtain⟨hiun,oi,hoi,hall⟩:=mem_ready.1 hi;obtain⟨hrun,o',ho',hrall⟩:=mem_ready.1 hrr;simp only[y7d]at hoi ho';rw[hr]at ho';cases ho';have hL:∀(k:Nat) (ok:aj),ops[k]? =ay ok->(∀e∈ok.after,cm .any e=bo->listed.getD e.on bu=bo)->∀q,Bef (uE ops []) k q=bo->qE listed q:=
    λk ok hk hd q hq=>z3q hc hk hd hq
   have nri:Bef (uE ops []) i r=bu:=by
    cases hb:Bef (uE ops []) i r with
    |false=>rfl
    |true=>exact absurd (hL i oi hoi hall r hb) (zPa hrun)
   have nir:Bef (uE ops []) r i=bu:=by
    cases hb:Bef (uE ops []) r i with
    |false=>rfl
    |true=>exact absurd (hL r o hr hrall i hb) (zPa hiun)
   have hap:=zZl hok hr hoi (Ne.symm hir) nir nri;have h2:=yFd (by simpa using hoi) hap (hns i oi hoi) h1;have hap':=(Oper.apart_spec hap).2.2;have hkeep:jB (uE ops []) i ((r,λw=>sY P ops.toArray o v a w)::M)=(r,λw=>sY P ops.toArray o v a w)::jB (uE ops []) i M:=by
    simp[jB,nri]
   refine zAr h2 λa' w' hh=> ?_
   obtain⟨⟨u,rfl⟩,hA,hB⟩:=hh;rw[hkeep]at hA hB;have hs':∀w,sY P ops.toArray o v (a.put oi.dst u) w↔sY P ops.toArray o v a w:=λw=>yIf (hns r o hr) hap'
   refine⟨λm hm=>hA m (y5j _ hm),?_⟩;have hfun:(λw=>sY P ops.toArray o v a w)=λw=>sY P ops.toArray o v (a.put oi.dst u) w:=by
    funext w;exact propext (hs' w).symm
   rw[hfun]at hA hB;refine ih _ _ _ _ (v7 hc hi) (ready_mono hrr (Ne.symm hir)) (hA _ y5h) (λm hm=>hA m (y5j _ hm)) ?_;rw[Array.setIfInBounds_comm _ _ hir];exact hB
end Cv
namespace Cv
open Go
def tH (P:aa) (o:aj) (ρ:Env) (v:ab) (w:ac):Prop:=
 match o.op with
 | .load t x=>
   match ev ρ x with
   | .pointer p=>z0f p λa=>mT P t a w v
   |_=>False
 | .lookup t m k ok=>dS P (cp t (ev ρ m) (ev ρ k) ok) w v
 | .convert s d x=>dS P (ax s d (ev ρ x)) w v
 | .binOp op t x y _=>dS P (do ak op t x y (ev ρ x) (ev ρ y);binOp op t (ev ρ x) (ev ρ y)) w v
 | .call {callee:= .builtin .len,args,argTypes}=>dS P (cf argTypes o.type (args.map (ev ρ))) w v
 | .entry x=>dS P (Instr.entry (ev ρ x)) w v
 |_=>False
def yBl {P:aa} {o:aj} {ρ:Env} {v:ab} {w:ac} (h:tH P o ρ v w):(af (ev ρ) o).run P w= .ok (.value v) w:=by
 unfold tH at h;split at h
 ·rename_i t x ho;split at h
  ·rename_i p hx;obtain⟨a,rfl,h⟩:=nR h;simp only[af,ho,hx];exact yF h
  ·exact h.elim
 ·rename_i t m k ok ho;simp only[af,ho];exact yF h
 ·rename_i s d x ho;simp only[af,ho];exact yF h
 ·rename_i op t x y u ho;simp only[af,ho];exact yF h
 ·rename_i args argTypes ho;simp only[af,ho];exact yF h
 ·rename_i x ho;simp only[af,ho];exact yF h
 ·exact h.elim
def z2g {P:aa} {ρ:Env} {o:aj} {w:ac} {K:ab->Prop} (h:tN P o ρ w K):∃v,K v/\tH P o ρ v w:=by
 cases ho:o.op
 case load t x=>
  simp only[tN,ho]at h;split at h
  ·rename_i p hx;obtain⟨a,rfl,h⟩:=nR h;obtain⟨v,hv,h⟩:=wR h;refine⟨v,h,?_⟩;simp only[tH,ho,hx];exact hv
  ·exact h.elim
 case lookup t m k ok=>
  simp only[tN,ho]at h;split at h
  ·rename_i e he;obtain⟨v,h⟩:=wR h;obtain⟨b,hb,h⟩:=jY h;refine⟨_,h,?_⟩;simp only[tH,ho];cases ok
   ·exact zJz hb
   ·exact hb
  ·exact h.elim
 case convert s d x=>
  simp only[tN,ho]at h;obtain⟨v,hv,h⟩:=wR h;refine⟨v,h,?_⟩;simp only[tH,ho];exact hv
 case binOp op t x y u=>
  simp only[tN,ho]at h;split at h
  ·obtain⟨v,h1,h2,h⟩:=jY h;refine⟨v,h,?_⟩;simp only[tH,ho,dS,bind,run_bind,h2];exact h1
  ·obtain⟨v,h1,h2,h⟩:=jY h;refine⟨v,h,?_⟩;simp only[tH,ho,dS,bind,run_bind,h2];exact h1
  ·exact h.elim
 case call c=>
  simp only[tN,ho]at h;split at h<;>first|exact h.elim|skip
  all_goals first|(exfalso;rename_i hh;cases hh;done)|skip
  rename_i args argTypes hh;cases hh;obtain⟨v,hv,h⟩:=jY h;refine⟨v,h,?_⟩;simp only[tH,ho];exact hv
 case entry x=>
  simp only[tN,ho]at h;obtain⟨v,hv,h⟩:=h;refine⟨v,h,?_⟩;simp only[tH,ho];exact hv
 all_goals(simp only[tN,ho]at h)
def z2h:List Mon->ac->Prop->Prop
 |[],_,X=>X
 |m::ms,w,X=>m.2 w/\z2h ms w X
def zNg:∀{M:List Mon} {w:ac} {X:Prop},z2h M w X->zOc M w/\X
 |[],_,_,h=>⟨λm hm=>(by cases hm),h⟩
 |m::ms,w,X,h=>by
  obtain⟨h1,h2⟩:=h;obtain⟨h3,h4⟩:=zNg h2;refine⟨λm' hm=> ?_,h4⟩;rcases y5w.1 hm with rfl|hm
  ·exact h1
  ·exact h3 _ hm
def yLy:List Nat->(Nat->Prop)->Prop
 |[],_=>True
 |[e],f=>f e
 |e::es,f=>f e/\yLy es f
def zMp:∀{l:List Nat} {f:Nat->Prop},yLy l f->∀i∈l,f i
 |[],_,_,i,hi=>by cases hi
 |[e],f,h,i,hi=>by rcases y6r.1 hi with rfl;exact h
 |e::e'::es,f,h,i,hi=>by
  rcases y5w.1 hi with rfl|hi
  ·exact h.1
  ·exact zMp h.2 i hi
def yKw (P:aa) (ops:List aj) (i:Nat):Bool:=
 match ops[i]? with
 |some o=>match zWa P o.op with
  |2=>bu
  |_=>bo
 |none=>bo
def zBk (P:aa) (ops:List aj) (bf:List Nat):Nat->Array Bool->List Mon->Env->ac->(Env->ac->Prop)->Prop
 |0,listed,_,ρ,w,K=>
  match ci .any ops.toArray listed with
  |[]=>K ρ w
  |_=>False
 |fuel+1,listed,M,ρ,w,K=>
  match ci .any ops.toArray listed with
  |[]=>K ρ w
  |r::rs=>
   match(r::rs).find? (yKw P ops)with
   |some i=>
    match ops[i]? with
    |none=>False
    |some o=>zMa ops o.guard ρ
      (λρ'=>match zWa P o.op with
        |0=>cA P o ρ' λv=>zBk P ops bf fuel (listed.setIfInBounds i bo) M (put ρ' o.dst v) w K
        |_=>tN P o ρ' w λv=>zBk P ops bf fuel (listed.setIfInBounds i bo) ((i,tH P o ρ' v)::M) (put ρ' o.dst v) w K)
      (λρ'=>zBk P ops bf fuel (listed.setIfInBounds i bo) M (put ρ' o.dst ao) w K)
   |none=>yLy (r::rs) λi=>
    match ops[i]? with
    |none=>False
    |some o=>zMa ops o.guard ρ
      (λρ'=>fN P o ρ' w λv w'=>z2h (jB bf i M) w' (zBk P ops bf fuel (listed.setIfInBounds i bo) (jB bf i M) (put ρ' o.dst v) w' K))
      (λρ'=>zBk P ops bf fuel (listed.setIfInBounds i bo) (jB bf i M) (put ρ' o.dst ao) w K)
def mK {n:Nat} {A:Nat->Bool} {l:List aj} (h:zKd n A l) {i:Nat} {o:aj} (ho:l[i]? =ay o):∀d,o.dst=ay d->d<n/\A d=bo:=
 h o (y5m ho)
def mH {P:aa} {ops:Array aj} {bf:List Nat} {Q:Act->ac->Prop} {i:Nat} {f:ac->Prop} (hf:∀w,f w):
 ∀(fuel:Nat) {M:List Mon} (listed:Array Bool) (a:Act) (w:ac),zEa P ops bf Q fuel M listed a w->zEa P ops bf Q fuel ((i,f)::M) listed a w
 |0,_,_,_,_,h=>h
 |fuel+1,M,listed,a,w,h=>⟨h.1,λj hj=>zAr (h.2 j hj) λa' w' hh=>by
   have hk:jB bf j ((i,f)::M)=if Bef bf j i then jB bf j M else(i,f)::jB bf j M:=by
    simp only[jB,List.filter_cons];cases Bef bf j i<;>simp
   rw[hk];cases Bef bf j i
   ·refine⟨λm hm=> ?_,mH hf fuel _ _ _ hh.2⟩;simp only[y5v,if_false,y5w]at hm;rcases hm with rfl|hm
    ·exact hf w'
    ·exact hh.1 m hm
   ·exact hh⟩
def z0t {P:aa} {ops:Array aj} {bf:List Nat} {Q:Act->ac->Prop} {i:Nat} {f g:ac->Prop} (hfg:∀w,f w->g w):
 ∀(fuel:Nat) {M:List Mon} (listed:Array Bool) (a:Act) (w:ac),zEa P ops bf Q fuel ((i,f)::M) listed a w->zEa P ops bf Q fuel ((i,g)::M) listed a w
 |0,_,_,_,_,h=>h
 |fuel+1,M,listed,a,w,h=>⟨h.1,λj hj=>zAr (h.2 j hj) λa' w' hh=>by
   have hk:∀f:ac->Prop,jB bf j ((i,f)::M)=if Bef bf j i then jB bf j M else(i,f)::jB bf j M:=by
    intro f;simp only[jB,List.filter_cons];cases Bef bf j i<;>simp
   rw[hk]at hh ⊢;cases hb:Bef bf j i
   ·rw[hb]at hh;simp only[y5v,if_false]at hh ⊢;refine⟨λm hm=> ?_,z0t hfg fuel _ _ _ hh.2⟩;rcases y5w.1 hm with rfl|hm
    ·exact hfg w' (hh.1 _ y5h)
    ·exact hh.1 m (y5j _ hm)
   ·rw[hb]at hh;exact hh⟩
def z1h {P:aa} {ops:List aj} {n:Nat} {A:Nat->Bool} {e0:Env} {K:Env->ac->Prop} {Q:Act->ac->Prop} (hok:rS ops (uE ops [])=bo) (hf:zKd n A ops)
 (hQ:∀a w,Good n A e0 a->K (yK a) w->Q a w):
 ∀(fuel:Nat) (listed:Array Bool) (M:List Mon) (a:Act) (w:ac),sC ops (qE listed)->zOc M w->Good n A e0 a->
  zBk P ops (uE ops []) fuel listed M (yK a) w K->zEa P ops.toArray (uE ops []) Q fuel M listed a w:=by
 intro fuel
 induction fuel with
 |zero=>
  intro listed M a w hc hM hgd h;unfold zBk at h;split at h
  ·rename_i hr;exact⟨hr,hQ a w hgd h⟩
  ·exact h.elim
 |succ fuel ih=>
  intro listed M a w hc hM hgd h;unfold zBk at h;split at h
  ·rename_i hr;exact⟨λ_=>hQ a w hgd h,λi hi=>by rw[hr]at hi;cases hi⟩
  ·rename_i r rs hr;have hne:ci .any ops.toArray listed≠[]:=by rw[hr];simp
   split at h
   ·rename_i i hfind;have hi:i∈ci .any ops.toArray listed:=by rw[hr];exact List.mem_of_find?_eq_some hfind
    split at h<;>first|exact h.elim|skip
    rename_i o ho;have hput:∀v,yK (a.put o.dst v)=put (yK a) o.dst v:=λv=>hgd.envOf_put (mK hf ho) v
    have hg:=sR h;have nx:∀{M:List Mon} {v:ab},zOc M w->zBk P ops (uE ops []) fuel (listed.setIfInBounds i bo) M (put (yK a) o.dst v) w K->
     zEa P ops.toArray (uE ops []) Q fuel M (listed.setIfInBounds i bo) (a.put o.dst v) w:=λ{M v} hM hh=>
     ih _ _ _ _ (v7 hc hi) hM (hgd.put (mK hf ho) _) (by rw[hput];exact hh)
    by_cases hw:cn o (yielded ops.toArray a.tmps)=bo
    ·rw[y5d hw]at hg;split at hg
     ·obtain⟨v,hk,hfree⟩:=gL hg;rw[wG]at hfree;have hs:∀w,sY P ops.toArray o v a w:=λw=> .inl ⟨hw,hfree w⟩
      exact gD hok ho fuel M listed a w hc hi (hs w) hM (mH hs fuel _ _ _ (nx hM hk))
     ·obtain⟨v,hk,hst⟩:=z2g hg;have hw':∀w,tH P o (yK a) v w->sY P ops.toArray o v a w:=λw hst=> .inl ⟨hw,by rw[<- wG];exact yBl hst⟩
      refine gD hok ho fuel M listed a w hc hi (hw' w hst) hM (z0t hw' fuel _ _ _ (nx ?_ hk));intro m hm;rcases y5w.1 hm with rfl|hm
      ·exact hst
      ·exact hM m hm
    ·rw[y5b hw]at hg;have hs:∀w,sY P ops.toArray o ao a w:=λw=> .inr ⟨by simpa using hw,rfl⟩
     exact gD hok ho fuel M listed a w hc hi (hs w) hM (mH hs fuel _ _ _ (nx hM hg))
   ·refine⟨λh0=>absurd h0 hne,λi hi=> ?_⟩;have h1:=zMp h i (by rw[<- hr];exact hi);split at h1<;>first|exact h1.elim|skip
    rename_i o ho;have hput:∀v,yK (a.put o.dst v)=put (yK a) o.dst v:=λv=>hgd.envOf_put (mK hf ho) v
    have hg:=sR h1;unfold zKj;simp only[y7d,ho];by_cases hw:cn o (yielded ops.toArray a.tmps)=bo
    ·rw[y5d hw]at hg ⊢;have hdoes:=zSr hg;rw[wG]at hdoes;refine hdoes.mono λv w' hh=> ?_
     obtain⟨hM',hh⟩:=zNg hh;exact⟨hM',ih _ _ _ _ (v7 hc hi) hM' (hgd.put (mK hf ho) _) (by rw[hput];exact hh)⟩
    ·rw[y5b hw]at hg ⊢;have hM':zOc (jB (uE ops []) i M) w:=λm hm=>hM m (by simp only[jB,y7c]at hm;exact hm.1)
     exact⟨hM',ih _ _ _ _ (v7 hc hi) hM' (hgd.put (mK hf ho) _) (by rw[hput];exact hg)⟩
end Cv
namespace Cv
open Go
structure yGt where
 ι:Type
 chg:ι->List (Nat×ab)
 fix:List Nat
def z0d:List (Nat×ab)->Env->Prop
 |[],_=>True
 |[p],ρ=>ρ p.1=p.2
 |p::l,ρ=>ρ p.1=p.2/\z0d l ρ
def satV_cons {p:Nat×ab} {l:List (Nat×ab)} {ρ:Env}:z0d (p::l) ρ↔ρ p.1=p.2/\z0d l ρ:=by
 cases l<;>simp[z0d]
def z7l:List (Nat×ab)->Env->Env
 |[],ρ=>ρ
 |p::l,ρ=>put (z7l l ρ) (ay p.1) p.2
def zRu:∀{l:List (Nat×ab)} {ρ:Env},z0d l ρ->z7l l ρ=ρ
 |[],_,_=>rfl
 |p::l,ρ,h=>by
  have h:=satV_cons.1 h;simp only[z7l];rw[zRu h.2];exact zXe h.1
def m8 (s:Nat):List Nat->Bool
 |[]=>bu
 |x::l=>bif cu s x then bo else m8 s l
def memN_iff {s:Nat}:∀{l:List Nat},m8 s l=bo↔s∈l
 |[]=>by simp[m8]
 |x::l=>by
  simp only[m8];cases hb:cu s x
  ·have hne:s≠x:=λe=>by subst e;simp at hb
   simp[memN_iff,hne]
  ·have:=y5e hb;simp[this]
def yDa (fix:List Nat) (ρ j:Env):Env:=λs=>bif m8 s fix then ρ s else j s
def z4k {fix:List Nat} {ρ j:Env} (h:∀s∈fix,j s=ρ s):yDa fix ρ j=j:=by
 funext s;simp only[yDa];cases hb:m8 s fix
 ·rfl
 ·exact(h s (memN_iff.1 hb)).symm
def asg:Code->List Nat
 | .region _ ops _=>ops.toList.filterMap (·.dst)
 | .seq a b=>asg a++asg b
 | .cond _ a b=>asg a++asg b
 | .block _ a=>asg a
 | .loop a=>asg a
 |_=>[]
def nL:Code->Nat
 | .seq a b=>nL a+nL b
 | .cond _ a b=>nL a+nL b
 | .block _ a=>nL a
 | .loop a=>nL a+1
 |_=>0
def yQs (next:Env->ac->Prop) (Q:Exit->Env->ac->Prop):Exit->Env->ac->Prop
 | .normal,ρ,w=>next ρ w
 |e,ρ,w=>Q e ρ w
def yDo (id:Nat) (Q:Exit->Env->ac->Prop):Exit->Env->ac->Prop
 | .exit id',ρ,w=>bif cu id' id then Q .normal ρ w else Q (.exit id') ρ w
 |e,ρ,w=>Q e ρ w
def cnd (t:Bool) (A B:Prop):Prop:=
 match t with
 |true=>A
 |false=>B
def cnd.mk {t:Bool} {A B:Prop} (h1:t=bo->A) (h2:t=bu->B):cnd t A B:=by
 cases t
 ·exact h2 rfl
 ·exact h1 rfl
def z8a (w:ac) (K:ac->Prop):Prop:=∀w',w'=w.drew->K w'
def cwp (P:aa):List yGt->Code->(Exit->Env->ac->Prop)->Env->ac->Prop
 |_,.skip,Q,ρ,w=>Q .normal ρ w
 |an,.seq a b,Q,ρ,w=>cwp P (an.take (nL a)) a (yQs (λρ w=>cwp P (an.drop (nL a)) b Q ρ w) Q) ρ w
 |an,.cond c a b,Q,ρ,w=>
  match ev ρ c with
  | .bool t=>cnd t (cwp P (an.take (nL a)) a Q ρ w) (cwp P (an.drop (nL a)) b Q ρ w)
  |_=>False
 |an,.block id a,Q,ρ,w=>cwp P an a (yDo id Q) ρ w
 |an,.loop a,Q,ρ,w=>
  match an with
  |[]=>False
  |x::rest=>∃(I:x.ι->ac->Prop) (μ:x.ι->ac->Nat),(∃i0,z0d (x.chg i0) ρ/\I i0 w)/\
    ∀(j:Env) (i:x.ι) (w1:ac),I i w1->cwp P rest a (yQs (λρ' w'=>∃i',z0d (x.chg i') ρ'/\I i' w'/\μ i' w'<μ i w1) Q) (z7l (x.chg i) (yDa x.fix ρ j)) w1
 |_,.exit id,Q,ρ,w=>Q (.exit id) ρ w
 |_,.ret,Q,ρ,w=>Q .ret ρ w
 |_,.region _ ops d,Q,ρ,w=>bif d then z8a w λw=>zBk P ops.toList (uE ops.toList []) ops.toList.length (dc ops.toList.length bu) [] ρ w (Q .normal)
    else z0r P ops.toList ops.toList ρ w (Q .normal)
 |_,_,_,_,_=>False
def okC (n:Nat):Code->Bool
 | .region _ ops d=>(ops.toList.all λo=>match o.dst with|none=>bo|some d=>cw d n) && (bif d then rS ops.toList (uE ops.toList [])else bo)
 | .seq a b=>okC n a && okC n b
 | .cond _ a b=>okC n a && okC n b
 | .block _ a=>okC n a
 | .loop a=>okC n a
 |_=>bo
def okF:List yGt->Code->Bool
 |an,.seq a b=>okF (an.take (nL a)) a && okF (an.drop (nL a)) b
 |an,.cond _ a b=>okF (an.take (nL a)) a && okF (an.drop (nL a)) b
 |an,.block _ a=>okF an a
 |an,.loop a=>match an with
  |[]=>bu
  |x::rest=>(x.fix.all λs=> !m8 s (asg a)) && okF rest a
 |_,_=>bo
def zXp {n:Nat} {A:Nat->Bool} {ops:List aj} (h:(ops.all λo=>match o.dst with|none=>bo|some d=>cw d n)=bo) (hA:∀s∈ops.filterMap (·.dst),A s=bo):zKd n A ops:=by
 intro o ho d hd;have:=y8h.1 h o ho;rw[hd]at this;exact⟨by simpa[y8d]using this,hA d (xAi.2 ⟨o,ho,hd⟩)⟩
def z8i (n:Nat) (A:Nat->Bool) (e0:Env) (Q:Exit->Env->ac->Prop):Exit->Act->ac->Prop:=λe a w=>Good n A e0 a/\Q e (yK a) w
def yAh {P:aa} (hm:P.follows .mixedOrders=bo) {n:Nat}:∀(c:Code) (an:List yGt) (Q:Exit->Env->ac->Prop) (A:Nat->Bool) (e0:Env) (a:Act) (w:ac),
 okC n c=bo->okF an c=bo->(∀s∈asg c,A s=bo)->Good n A e0 a->cwp P an c Q (yK a) w->c.wp P (z8i n A e0 Q) a w:=by
 intro c
 induction c with
 |skip=>intro an Q A e0 a w _ _ _ hg h;exact wp_skip ⟨hg,h⟩
 |region id ops d=>
  intro an Q A e0 a w hc _ hA hg h;simp only[okC,y5o]at hc;have hdst:=zXp (A:=A) hc.1 hA;cases d
  ·refine wp_region_list ?_;exact zNs (Q:=z8i n A e0 Q) (K:=Q .normal) (λa w hg h=>⟨hg,h⟩) ops.toList a w hdst hg h
  ·refine wp_region_any hm ?_;have h':=h _ rfl;have hok:rS ops.toList (uE ops.toList [])=bo:=hc.2;refine u6 (Q:=λa w=>z8i n A e0 Q .normal a w) (λ_ _ h=>h) ops.size _ _ _ (M:=[]) (bf:=uE ops.toList []) ?_;have hclosed:sC ops.toList (qE (dc ops.toList.length bu)):=by
    intro i o ho hi;exfalso;unfold qE at hi;simp[y6y]at hi;rw[xAq]at hi;split at hi<;>simp at hi
   have:=z1h (P:=P) (K:=Q .normal) (Q:=λa w=>z8i n A e0 Q .normal a w) hok hdst (λa w hg h=>⟨hg,h⟩) ops.toList.length _ [] a _ hclosed (λm hm=>by cases hm) hg h';simpa using this
 |seq x y ihx ihy=>
  intro an Q A e0 a w hc hf hA hg h;simp only[okC,okF,y5o,asg,y6f]at hc hf hA;refine wp_seq (aw (ihx _ _ A e0 a w hc.1 hf.1 (λs hs=>hA s (.inl hs)) hg h) ?_);rintro e a' w' ⟨hg',h'⟩;cases e<;>first|exact ihy _ _ A e0 a' w' hc.2 hf.2 (λs hs=>hA s (.inr hs)) hg' h'|exact⟨hg',h'⟩
 |cond c x y ihx ihy=>
  intro an Q A e0 a w hc hf hA hg h;simp only[okC,okF,y5o,asg,y6f]at hc hf hA;simp only[cwp]at h;rw[wG]at h;split at h
  ·rename_i t ht;refine wp_cond_split ht (λe=> ?_) (λe=> ?_)
   ·subst e;exact ihx _ _ A e0 a w hc.1 hf.1 (λs hs=>hA s (.inl hs)) hg h
   ·subst e;exact ihy _ _ A e0 a w hc.2 hf.2 (λs hs=>hA s (.inr hs)) hg h
  ·exact h.elim
 |block id x ih=>
  intro an Q A e0 a w hc hf hA hg h;refine wp_block (aw (ih an _ A e0 a w hc hf hA hg h) ?_);rintro e a' w' ⟨hg',h'⟩;cases e<;>first|exact⟨hg',h'⟩|skip
  rename_i id';simp only[Exit.inBlock];simp only[yDo]at h';split
  ·rename_i heq;subst heq;rw[Nat.beq_refl]at h';exact⟨hg',h'⟩
  ·rename_i hne;have hb:cu id' id=bu:=by
    cases hb:cu id' id with
    |false=>rfl
    |true=>exact absurd (y5e hb) hne
   rw[hb]at h';exact⟨hg',h'⟩
 |loop x ih=>
  intro an Q A e0 a w hc hf hA hg h;cases an with
  |nil=>exact h.elim
  |cons an rest=>
   simp only[okF,y5o]at hf;obtain⟨I,μ,⟨i0,hs0,hi0⟩,hround⟩:=h;refine wp_loop_ghost (λm a' w'=>Good n A e0 a'/\(∀s∈an.fix,yK a' s=yK a s)/\∃i,z0d (an.chg i) (yK a')/\I i w'/\μ i w'=m) (μ i0 w) ⟨hg,λ_ _=>rfl,i0,hs0,hi0,rfl⟩ ?_;rintro m a' w' ⟨hg',hfix,i,hsat,hI,rfl⟩;have h1:=hround (yK a') i w' hI;rw[z4k hfix,zRu hsat]at h1;have hgB:Good n (λs=>A s && m8 s (asg x)) (yK a') a':=⟨hg'.size,hg'.defers,λ_ _=>rfl⟩
   refine aw (ih rest _ (λs=>A s && m8 s (asg x)) (yK a') a' w' hc hf.2 (λs hs=>by rw[hA s hs,memN_iff.2 hs];rfl) hgB h1) ?_;rintro e a2 w2 ⟨hg2,h2⟩;have hg3:Good n A e0 a2:=⟨hg2.size,hg2.defers,λs hs=>by rw[hg2.same s (by simp[hs]),hg'.same s hs]⟩
   cases e<;>first|exact⟨hg3,h2⟩|skip
   obtain⟨i',hs',hI',hlt⟩:=h2;refine⟨_,hlt,hg3,λs hs=> ?_,i',hs',hI',rfl⟩;have:=y8h.1 hf.1 s hs;rw[hg2.same s (by simp at this;simp[this]),hfix s hs]
 |exit id=>intro an Q A e0 a w _ _ _ hg h;exact wp_exit ⟨hg,h⟩
 |ret=>intro an Q A e0 a w _ _ _ hg h;exact wp_ret ⟨hg,h⟩
 |rangeFunc f ps x y ihx ihy=>intro an Q A e0 a w _ _ _ hg h;exact h.elim
 |scope x ih=>intro an Q A e0 a w _ _ _ hg h;exact h.elim
 |label l=>intro an Q A e0 a w _ _ _ hg h;exact h.elim
 |goto l=>intro an Q A e0 a w _ _ _ hg h;exact h.elim
 |refuse s=>intro an Q A e0 a w _ _ _ hg h;exact h.elim
end Cv
namespace Cv
open Go
def bs (l:List Nat):ByteArray:=⟨(l.map Nat.toUInt8).toArray⟩
def z3e (P:aa):List ResultVar->Env->ac->(List ab->Prop)->Prop
 |[],_,_,K=>K []
 | .tmp t::rs,ρ,w,K=>z3e P rs ρ w λvs=>K (ρ t::vs)
 | .cell a t::rs,ρ,w,K=>
   match ρ a with
   | .pointer p=>z0f p λad=>exT P t λv=>mT P t ad w v/\z3e P rs ρ w λvs=>K (v::vs)
   |_=>False
def zFs:List ab->ab
 |[v]=>v
 |vs=> .tuple vs.toArray
def zVo (P:aa) (fn:Func) (R:Ending->ac->Prop):Exit->Env->ac->Prop
 | .normal,ρ,w=>z3e P fn.results.toList ρ w λvs=>R (.returned (zFs vs)) w
 | .ret,ρ,w=>z3e P fn.results.toList ρ w λvs=>R (.returned (zFs vs)) w
 |_,_,_=>False
def uO (args:List ab):Env:=λi=>args.getD i ao
def zUl (tmps:Array ab):ResultVar->Sem ab
 | .tmp t=>pure (tmps.getD t ao)
 | .cell a t=>(asAddr (tmps.getD a ao)).bind λad=>loadVar t ad
def zMe {P:aa} {tmps:Array ab} {w:ac}:∀{rs:List ResultVar} {K:List ab->Prop},z3e P rs (λi=>tmps.getD i ao) w K->
 ∃vs,(rs.mapM (zUl tmps)).run P w= .ok vs w/\K vs
 |[],K,h=>⟨[],rfl,h⟩
 | .tmp t::rs,K,h=>by
   obtain⟨vs,h1,h3⟩:=zMe (rs:=rs) h;refine⟨_::vs,?_,h3⟩;simp only[db,zUl,bind,pure,run_bind,be,bc]at h1 ⊢;rw[h1]
 | .cell a t::rs,K,h=>by
   simp only[z3e]at h;split at h
   ·rename_i p hp;obtain⟨ad,rfl,h⟩:=nR h;obtain⟨v,hv,h⟩:=wR h;obtain⟨vs,h1,h3⟩:=zMe (rs:=rs) h;refine⟨v::vs,?_,h3⟩;simp only[db,zUl,bind,pure,run_bind,be,bc,hp,asAddr]at h1 ⊢;rw[hv];simp only[h1]
   ·exact h.elim
def zJj {P:aa} {tmps:Array ab} {w:ac} {vs:List ab} {rs:List ResultVar} (h:(rs.mapM (zUl tmps)).run P w= .ok vs w) (F:ResultVar->Sem ab) (hF:∀r,F r=zUl tmps r):
 ((rs.mapM F).bind λvs=>bg (if h:vs.toArray.size=1 then vs.toArray[0]else .tuple vs.toArray)).run P w= .ok (zFs vs) w:=by
 obtain rfl:F=zUl tmps:=funext hF;rw[run_bind,h];simp only[bc];cases vs with
 |nil=>rfl
 |cons v vs=>
  cases vs with
  |nil=>rfl
  |cons u us=>simp[zFs]
def zJm {P:aa} {fn:Func} {tmps:Array ab} {w:ac} {K:ab->Prop} (h:z3e P fn.results.toList (λi=>tmps.getD i ao) w λvs=>K (zFs vs)):
 ∃v,(results fn tmps).run P w= .ok v w/\K v:=by
 obtain⟨vs,h1,h3⟩:=zMe h;refine⟨zFs vs,?_,h3⟩;unfold results;rw[Array.mapM_eq_mapM_toList,map_eq_pure_bind,bind_assoc];exact zJj h1 _ (λr=>by cases r<;>rfl)
def calls_of_cwp {P:aa} {f:av} {fn:Func} {c:Code} {args:List ab} {w:ac} {R:Ending->ac->Prop} (hm:P.follows .mixedOrders=bo)
 (hf:P.funcs[f]? =ay fn) (hb:fn.body=ay c) (an:List yGt) (hok:okC fn.ntmps c=bo) (hfx:okF an c=bo) (hsz':cx args.length fn.ntmps=bo)
 (h:cwp P an c (zVo P fn R) (uO args) w):Calls P f args.toArray w R:=by
 have hsz:=y7i hsz';refine calls_of_wp hf hb ?_;have hg:Good fn.ntmps (λ_=>bo) (uO args) {tmps:=args.toArray++dc (fn.ntmps-args.toArray.size) ao,defers:=[]}:=
  ⟨by simp;omega,rfl,λs hs=>by cases hs⟩
 have henv:yK {tmps:=args.toArray++dc (fn.ntmps-args.toArray.size) ao,defers:=[]}=uO args:=by
  funext i;simp only[yK,uO,y6y,y5k,Array.getElem?_append];split
  ·simp
  ·rename_i hlt;simp at hlt;rw[y6h hlt,xAq];split<;>rfl
 refine aw (yAh hm c an _ (λ_=>bo) (uO args) _ w hok hfx (λ_ _=>rfl) hg (henv▸h)) ?_;rintro e a' w' ⟨hg',h'⟩;cases e<;>first|exact h'.elim|skip
 ·obtain⟨v,hv,hk⟩:=zJm (K:=λv=>R (.returned v) w') h';exact⟨hg'.defers,v,hv,hk⟩
 ·obtain⟨v,hv,hk⟩:=zJm (K:=λv=>R (.returned v) w') h';exact⟨hg'.defers,v,hv,hk⟩
def zJs {P:aa} {f:av} {fn:Func} {c:Code} {args:List ab} {w:ac} {R:Ending->ac->Prop} {V:Prop} (hm:P.follows .mixedOrders=bo)
 (hf:P.funcs[f]? =ay fn) (hb:fn.body=ay c) (an:List yGt) (hok:okC fn.ntmps c=bo) (hfx:okF an c=bo) (hsz:cx args.length fn.ntmps=bo)
 (e:V=cwp P an c (zVo P fn R) (uO args) w) (h:V):Calls P f args.toArray w R:=
 calls_of_cwp hm hf hb an hok hfx hsz (e▸h)
end Cv
namespace Cv
open Go Go.RowKit
@[reducible] def PH:=Nat->Option Obj
@[reducible] def HP:=PH->Prop
def pe:PH:=λ_=>az
def one (b:Nat) (o:Obj):PH:=λx=>if x=b then ay o else az
def Dj (g h:PH):Prop:=∀b,g b=az\/h b=az
def Sub (h:PH) (w:ac):Prop:=∀b o,h b=ay o->w.heap[b]?=ay o
def un (g h:PH):PH:=λb=>match g b with|some o=>ay o|none=>h b
def Dj.symm {g h:PH} (d:Dj g h):Dj h g:=λb=>(d b).symm
def Dj.pe (h:PH):Dj pe h:=λ_=> .inl rfl
def z5x {g g' h:PH} (d:Dj g h) (d':Dj g' h):Dj (un g g') h:=λb=>by
 rcases d b with e|e
 ·rcases d' b with e'|e'
  ·left;simp[un,e,e']
  ·exact .inr e'
 ·exact .inr e
def zOq {g g' h:PH} (d:Dj (un g g') h) (dg:Dj g g'):Dj g h/\Dj g' h:=by
 refine⟨λb=> ?_,λb=> ?_⟩
 ·rcases d b with e|e
  ·left;simp only[un]at e;cases hg:g b with
   |none=>rfl
   |some o=>rw[hg]at e;cases e
  ·exact .inr e
 ·rcases d b with e|e
  ·left;simp only[un]at e;cases hg:g b with
   |none=>rw[hg]at e;exact e
   |some o=>rw[hg]at e;cases e
  ·exact .inr e
def yDp {g h:PH} {w:ac} (a:Sub g w) (b:Sub h w):Sub (un g h) w:=λx o e=>by
 simp only[un]at e;cases hg:g x with
 |some o'=>rw[hg]at e;cases e;exact a x _ hg
 |none=>rw[hg]at e;exact b x o e
def yBu {g h:PH} {w:ac} (s:Sub (un g h) w) (d:Dj g h):Sub g w/\Sub h w:=by
 refine⟨λx o e=>s x o (by simp[un,e]),λx o e=>s x o ?_⟩;rcases d x with e'|e'
 ·simp[un,e',e]
 ·rw[e]at e';cases e'
def Sub.pe (w:ac):Sub Cv.pe w:=λ_ _ e=>by cases e
def Sub.lt {h:PH} {w:ac} (s:Sub h w) {b:Nat} (hb:h b≠az):b<w.heap.size:=by
 cases e:h b with
 |none=>exact absurd e hb
 |some o=>
  have:=s b o e;rcases y7k b w.heap.size with h'|h'
  ·exact h'
  ·rw[y8c h']at this;cases this
structure Ko where
 os:Os
 tape:Nat->Question->Nat
 output:Array (Nat×ByteArray)
def ko (w:ac):Ko:=⟨w.os,w.tape,w.output⟩
def Kon (k:Ko) (w:ac):Prop:=w.os=k.os/\w.tape=k.tape/\w.output=k.output
inductive Hs (w:ac):List HP->List PH->Prop
 |nil:Hs w [] []
 |cons {A:HP} {h:PH} {L:List HP} {hs:List PH}:A h->Sub h w->(∀g∈hs,Dj h g)->Hs w L hs->Hs w (A::L) (h::hs)
def Hp (k:Ko) (w:ac) (L:List HP):Prop:=Kon k w/\∃hs,Hs w L hs
def Sat (w:ac) (A:HP):Prop:=∃h,A h/\Sub h w
def Hs.perm {w:ac} {L L':List HP} (p:L.Perm L'):∀{hs:List PH},Hs w L hs->∃hs',Hs w L' hs'/\hs.Perm hs':=by
 induction p with
 |nil=>intro hs h;cases h;exact⟨[],.nil,.nil⟩
 |cons A _ ih=>
  intro hs h;cases h with
  |cons ha hsub hd hr=>
   obtain⟨hs',h1,h2⟩:=ih hr;exact⟨_,.cons ha hsub (λg hg=>hd g (h2.mem_iff.2 hg)) h1,.cons _ h2⟩
 |swap A B L=>
  intro hs h;cases h with
  |cons hb hbs hbd hr=>
   cases hr with
   |cons ha has had hr=>
    refine⟨_,.cons ha has ?_ (.cons hb hbs (λg hg=>hbd g (y5j _ hg)) hr),.swap _ _ _⟩;intro g hg;rcases y5w.1 hg with rfl|hg
    ·exact(hbd _ y5h).symm
    ·exact had g hg
 |trans _ _ ih1 ih2=>
  intro hs h;obtain⟨hs1,h1,p1⟩:=ih1 h;obtain⟨hs2,h2,p2⟩:=ih2 h1;exact⟨hs2,h2,p1.trans p2⟩
def Hp.perm {k:Ko} {w:ac} {L L':List HP} (H:Hp k w L) (p:L.Perm L'):Hp k w L':=
 ⟨H.1,let⟨_,h⟩:=H.2;let⟨hs',h',_⟩:=h.perm p;⟨hs',h'⟩⟩
def Hp.drop {k:Ko} {w:ac} {A:HP} {L:List HP} (H:Hp k w (A::L)):Hp k w L:=by
 obtain⟨hk,hs,hh⟩:=H;cases hh with
 |cons _ _ _ hr=>exact⟨hk,_,hr⟩
def Hp.sat {k:Ko} {w:ac} {A:HP} {L:List HP} (H:Hp k w (A::L)):Sat w A:=by
 obtain⟨hk,hs,hh⟩:=H;cases hh with
 |cons ha hsub _ _=>exact⟨_,ha,hsub⟩
def Hp.imp {k:Ko} {w:ac} {A B:HP} {L:List HP} (H:Hp k w (A::L)) (h:∀x,A x->B x):Hp k w (B::L):=by
 obtain⟨hk,hs,hh⟩:=H;cases hh with
 |cons ha hsub hd hr=>exact⟨hk,_,.cons (h _ ha) hsub hd hr⟩
def pt (b:Nat) (o:Obj):HP:=λh=>h=one b o
def hPu (p:Prop):HP:=λh=>p/\h=pe
def hS2 (A B:HP):HP:=λh=>∃g g',A g/\B g'/\Dj g g'/\h=un g g'
def hS:List HP->HP
 |[]=>λh=>h=pe
 |[A]=>A
 |A::L=>hS2 A (hS L)
def uA {k:Ko} {w:ac} {p:Prop} {L:List HP}:Hp k w (hPu p::L)↔p/\Hp k w L:=by
 constructor
 ·rintro⟨hk,hs,hh⟩;cases hh with
  |cons ha hsub hd hr=>exact⟨ha.1,hk,_,hr⟩
 ·rintro⟨hp,hk,hs,hh⟩;exact⟨hk,_,.cons ⟨hp,rfl⟩ (Sub.pe w) (λg _=>Dj.pe g) hh⟩
def hp_star2 {k:Ko} {w:ac} {A B:HP} {L:List HP}:Hp k w (hS2 A B::L)↔Hp k w (A::B::L):=by
 constructor
 ·rintro⟨hk,hs,hh⟩;cases hh with
  |cons ha hsub hd hr=>
   obtain⟨g,g',h1,h2,h3,rfl⟩:=ha;obtain⟨s1,s2⟩:=yBu hsub h3;refine⟨hk,_,.cons h1 s1 ?_ (.cons h2 s2 (λx hx=>(zOq (hd x hx) h3).2) hr)⟩;intro x hx;rcases y5w.1 hx with rfl|hx
   ·exact h3
   ·exact(zOq (hd x hx) h3).1
 ·rintro⟨hk,hs,hh⟩;cases hh with
  |cons h1 s1 d1 hr=>
   cases hr with
   |cons h2 s2 d2 hr=>
    exact⟨hk,_,.cons ⟨_,_,h1,h2,d1 _ y5h,rfl⟩ (yDp s1 s2) (λx hx=>z5x (d1 x (y5j _ hx)) (d2 x hx)) hr⟩
def yDq {k:Ko} {w:ac} {L:List HP}:Hp k w (hS []::L)↔Hp k w L:=by
 have e:hS []=hPu True:=by funext h;simp[hS,hPu]
 rw[e,uA];exact⟨λh=>h.2,λh=>⟨trivial,h⟩⟩
def yFt {k:Ko} {w:ac} {A B:HP} {l L:List HP}:Hp k w (hS (A::B::l)::L)↔Hp k w (A::hS (B::l)::L):=hp_star2
def Hp.swap {k:Ko} {w:ac} {A B:HP} {L:List HP} (H:Hp k w (A::B::L)):Hp k w (B::A::L):=H.perm (.swap _ _ _)
def Hp.cons {k:Ko} {w:ac} {A:HP} {L L':List HP} (H:Hp k w (A::L)) (p:L.Perm L'):Hp k w (A::L'):=H.perm (.cons _ p)
def hp_star {k:Ko} {w:ac}:∀{l L:List HP},Hp k w (hS l::L)↔Hp k w (l++L)
 |[],L=>yDq
 |[A],L=>Iff.rfl
 |A::B::l,L=>by
  rw[yFt];constructor
  ·intro h;have h1:=(hp_star (l:=B::l) (L:=A::L)).1 h.swap;refine h1.perm ?_;exact y5r
  ·intro h;have h1:Hp k w ((B::l)++(A::L)):=h.perm (y5r (l₁:=B::l)).symm;exact((hp_star (l:=B::l) (L:=A::L)).2 h1).swap
def Hs.move {w w':ac} (h:∀(x:PH),Sub x w->Sub x w'):∀{L:List HP} {hs:List PH},Hs w L hs->Hs w' L hs
 |_,_,.nil=> .nil
 |_,_,.cons ha hsub hd hr=> .cons ha (h _ hsub) hd (hr.move h)
def zHf {w w':ac} (h:Below w.heap.size w w') {x:PH} (s:Sub x w):Sub x w':=λb o e=>by
 rw[h.block b (s.lt (by rw[e];simp))];exact s b o e
def zSo {k:Ko} {B:Nat} {w w':ac} (h:Below B w w') (hk:Kon k w):Kon k w':=⟨h.os.trans hk.1,h.tape.trans hk.2.1,h.output.trans hk.2.2⟩
def Hp.below {k:Ko} {w w':ac} {L:List HP} (H:Hp k w L) (h:Below w.heap.size w w'):Hp k w' L:=
 ⟨zSo h H.1,let⟨hs,hh⟩:=H.2;⟨hs,hh.move λ_ s=>zHf h s⟩⟩
def Sat.below {w w':ac} {A:HP} (H:Sat w A) (h:Below w.heap.size w w'):Sat w' A:=let⟨x,a,s⟩:=H;⟨x,a,zHf h s⟩
def Hp.drew {k:Ko} {w:ac} {L:List HP} (H:Hp k w L):Hp k w.drew L:=H.below ((Below.refl _ _).drew)
def Hp.new {k:Ko} {w:ac} {L:List HP} (H:Hp k w L) (o:Obj):Hp k (w.alloc o) (pt w.heap.size o::L):=by
 have hb:Below w.heap.size w (w.alloc o):=(Below.refl _ _).alloc (y5x _) o;obtain⟨hk,hs,hh⟩:=H;refine⟨zSo hb hk,_,.cons rfl ?_ ?_ (hh.move λ_ s=>zHf hb s)⟩
 ·intro b o' e;simp only[one]at e;split at e
  ·rename_i hb';subst hb';cases e;exact heap_alloc_new w o
  ·cases e
 ·intro g hg;have hsub:∀{L:List HP} {hs:List PH},Hs w L hs->∀g∈hs,Sub g w:=by
   intro L hs hh
   induction hh with
   |nil=>intro g hg;cases hg
   |cons _ hs _ _ ih=>
    intro g hg;rcases y5w.1 hg with rfl|hg
    ·exact hs
    ·exact ih g hg
  intro b;by_cases hb':b=w.heap.size
  ·right;cases hgb:g b with
   |none=>rfl
   |some o'=>
    have:=(hsub hh g hg).lt (b:=b) (by rw[hgb];simp);omega
  ·left;simp[one,hb']
def World.setB (w:ac) (b:Nat) (o:Obj):ac:={w with heap:=w.heap.setIfInBounds b o}
def Hp.get {k:Ko} {w:ac} {b:Nat} {o:Obj} {L:List HP} (H:Hp k w (pt b o::L)):w.heap[b]? =ay o:=by
 obtain⟨h,rfl,s⟩:=H.sat;exact s b o (by simp[one])
def Hp.upd {k:Ko} {w:ac} {b:Nat} {o:Obj} {L:List HP} (H:Hp k w (pt b o::L)) (o':Obj):Hp k (World.setB w b o') (pt b o'::L):=by
 have hget:=H.get;obtain⟨hk,hs,hh⟩:=H;cases hh with
 |cons ha hsub hd hr=>
  cases ha;have hlt:b<w.heap.size:=hsub.lt (b:=b) (by simp[one]);rename_i hs;have s0:Sub (one b o') (World.setB w b o'):=by
   intro x o2 e;simp only[one]at e;split at e
   ·rename_i hx;subst hx;cases e;simp[World.setB,y8z hlt]
   ·cases e
  have d0:∀g∈hs,Dj (one b o') g:=by
   intro g hg x;rcases hd g hg x with e|e
   ·left;simp only[one]at e ⊢;split at e<;>simp_all
   ·exact .inr e
  have key:∀{L:List HP} {hs:List PH},Hs w L hs->(∀g∈hs,Dj (one b o) g)->Hs (World.setB w b o') L hs:=by
   intro L hs hh
   induction hh with
   |nil=>intro _;exact .nil
   |cons ha hs' hd' _ ih=>
    intro hdj;refine .cons ha ?_ hd' (ih λg hg=>hdj g (y5j _ hg));intro x o2 e;have hne:x≠b:=by
     intro hx;subst hx;rcases hdj _ y5h x with e'|e'
     ·simp[one]at e'
     ·rw[e]at e';cases e'
    simp only[World.setB];rw[y9x (Ne.symm hne)];exact hs' x o2 e
  exact⟨hk,_,.cons rfl s0 d0 (key hr hd)⟩
def base (w0:ac):HP:=λh=>h=λb=>w0.heap[b]?
def Hp.start (w:ac):Hp (Cv.ko w) w [base w]:=⟨⟨rfl,rfl,rfl⟩,_,.cons rfl (λ_ _ e=>e) (λg hg=>by cases hg) .nil⟩
end Cv
namespace Cv
open Go Go.RowKit
def vU (b o n:Nat):(⟨b,o,az⟩:am).add n=⟨b,o+n,az⟩:=by
 unfold Addr.add;split
 ·rename_i h;subst h;rfl
 ·rfl
def zDd (P:aa) (t:ae):Bool:=
 match P.underlying t with
 |some (.struct _)=>bu
 |some (.array _ _)=>bu
 |some _=>bo
 |none=>bu
def zKn (P:aa) (t:ae):Option Nat:=
 match P.underlying t with
 |some (.struct _)=>(P.info? t).map λ(x:TypeInfo)=>x.size
 |some (.array _ _)=>(P.info? t).map λ(x:TypeInfo)=>x.size
 |_=>az
def mB {P:aa} {t:ae} (h:zDd P t=bo) (w:ac):(isAgg t).run P w= .ok bu w:=by
 unfold zDd at h;cases hd:P.underlying t with
 |none=>rw[hd]at h;cases h
 |some d=>
  rw[hd]at h;unfold isAgg;simp only[bind,run_bind,run_underlying hd];cases d<;>first|rfl|(simp at h)
def cD {P:aa} {t:ae} {n:Nat} (h:zKn P t=ay n) (w:ac):(isAgg t).run P w= .ok bo w/\(Go.sizeOf t).run P w= .ok n w:=by
 unfold zKn at h;cases hd:P.underlying t with
 |none=>rw[hd]at h;cases h
 |some d=>
  rw[hd]at h;cases d<;>simp only[reduceCtorEq]at h
  all_goals
   cases hi:P.info? t with
   |none=>rw[hi]at h;cases h
   |some i=>
    rw[hi]at h;simp only[y7e,cr]at h;subst h;refine⟨?_,run_sizeOf hi w⟩;unfold isAgg;simp only[bind,run_bind,run_underlying hd];rfl
def zYt {P:aa} {w:ac} {a:am} {v:ab} (h:w.cell? a=ay v):(load a).run P w= .ok v w:=by
 simp only[load,bc,h]
def zBc {w:ac} {b o:Nat} {l:List ab} {T:ae} {fr:Nat×Nat} (hb:w.heap[b]? =ay (.cells l.toArray T fr)):w.cell? ⟨b,o,az⟩=l[o]? :=by
 simp[World.cell?,hb]
def wP {P:aa} {t:ae} {w:ac} {b o:Nat} {l:List ab} {T:ae} {fr:Nat×Nat} {v:ab} (hs:zDd P t=bo)
 (hb:w.heap[b]? =ay (.cells l.toArray T fr)) (hc:l[o]? =ay v):mT P t ⟨b,o,az⟩ w v:=by
 unfold mT loadVar;simp only[bind,run_bind,mB hs,y5v,if_false];exact zYt ((zBc hb).trans hc)
def mS {P:aa} {w:ac} {b o:Nat} {l:List ab} {T:ae} {fr:Nat×Nat} (hb:w.heap[b]? =ay (.cells l.toArray T fr)):
 ∀(n i:Nat) (acc:Array ab),o+i+n<=l.length->(loadCellsFrom ⟨b,o,az⟩ i n acc).run P w= .ok (acc++((l.drop (o+i)).take n).toArray) w
 |0,i,acc,_=>by simp[loadCellsFrom,pure,bc]
 |n+1,i,acc,h=>by
  have hlt:o+i<l.length:=by omega
  have hc:w.cell? ⟨b,o+i,az⟩=ay l[o+i]:=by rw[zBc hb];exact y6e hlt
  unfold loadCellsFrom;simp only[bind,run_bind,vU,zYt hc];rw[mS hb n (i+1) _ (by omega)];congr 1;rw[y7j hlt,y6l];simp[y8s]
def u7 {P:aa} {w:ac} {b o n:Nat} {l:List ab} {T:ae} {fr:Nat×Nat} (hb:w.heap[b]? =ay (.cells l.toArray T fr)) (h:o+n<=l.length):
 (loadCells ⟨b,o,az⟩ n).run P w= .ok ((l.drop o).take n).toArray w:=by
 unfold loadCells;rw[mS hb n 0 #[] (by omega)];simp
def zAs {P:aa} {t:ae} {w:ac} {b o n:Nat} {l vs:List ab} {T:ae} {fr:Nat×Nat} (hs:zKn P t=ay n)
 (hb:w.heap[b]? =ay (.cells l.toArray T fr)) (hc:(l.drop o).take n=vs) (hl:vs.length=n):mT P t ⟨b,o,az⟩ w (.agg vs.toArray):=by
 unfold mT loadVar;have hlen:o+n<=l.length\/n=0:=by
  subst hc;simp only[y5t,y5z]at hl;omega
 simp only[bind,run_bind,(cD hs w).1,if_true,(cD hs w).2];rcases hlen with hlen|h0
 ·rw[u7 hb hlen,hc];rfl
 ·subst h0;have:vs=[]:=y6d hl;subst this;rfl
def _root_.Go.Value.oneC:ab->Bool
 | .agg _=>bu
 | .tuple _=>bu
 |_=>bo
def spl (l:List ab) (o:Nat) (vs:List ab):List ab:=l.take o++vs++l.drop (o+vs.length)
def yCf (w:ac) (b:Nat) (x y:Obj):World.setB (World.setB w b x) b y=World.setB w b y:=by
 simp[World.setB,Array.setIfInBounds_setIfInBounds]
def z4s {P:aa} {w:ac} {b o:Nat} {l:List ab} {T:ae} {v:ab} (hb:w.heap[b]? =ay (.cells l.toArray T (0,0))) (ho:o<l.length) (hv:v.oneC=bo):
 (store ⟨b,o,az⟩ v).run P w= .ok () (World.setB w b (.cells (l.set o v).toArray T (0,0))):=by
 have hc:w.cell? ⟨b,o,az⟩=ay l[o]:=by rw[zBc hb];exact y6e ho
 have hf:w.frozen? ⟨b,o,az⟩=bu:=by simp[World.frozen?,hb]
 have hset:w.setCell ⟨b,o,az⟩ v=World.setB w b (.cells (l.set o v).toArray T (0,0)):=by
  unfold World.setCell World.setB;congr 1;apply xAy;intro i;rw[Array.getElem?_modify,y9h];have hlt:b<w.heap.size:=by
   rcases y7k b w.heap.size with h|h
   ·exact h
   ·rw[y8c h]at hb;cases hb
  by_cases hi:b=i
  ·subst hi;have hb2:w.heap[b]= .cells l.toArray T (0,0):=by rw[y9u hlt]at hb;exact ct hb
   simp[hlt,hb2]
  ·simp[hi]
 unfold store;cases v<;>first|(cases hv;done)|(simp only[bc,hc,hf,y5v,if_false,hset])
def zLf {l:List ab} {p:Nat} {v:ab} {vs:List ab} (h:p<l.length):spl (l.set p v) (p+1) vs=spl l p (v::vs):=by
 have h1:(l.set p v).take (p+1)=l.take p++[v]:=by
  rw[y8i,y5d h];rw[List.take_append,y5t];simp[y8u (Nat.le_of_lt h),xBi]
 have h2:(l.set p v).drop (p+1+vs.length)=l.drop (p+(v::vs).length):=by
  rw[List.drop_set_of_lt (by omega)];congr 1;simp only[y5g];omega
 simp only[spl,h1,h2,y5i,List.singleton_append]
def wA {P:aa} {b:Nat} {T:ae}:∀(vs:List ab) (i o:Nat) (l:List ab) (w:ac),w.heap[b]? =ay (.cells l.toArray T (0,0))->o+i+vs.length<=l.length->
 (∀v∈vs,v.oneC=bo)->(storeCells ⟨b,o,az⟩ vs i).run P w= .ok () (World.setB w b (.cells (spl l (o+i) vs).toArray T (0,0)))
 |[],i,o,l,w,hb,h,_=>by
  have hlt:b<w.heap.size:=by
   rcases y7k b w.heap.size with h|h
   ·exact h
   ·rw[y8c h]at hb;cases hb
  have:World.setB w b (.cells (spl l (o+i) []).toArray T (0,0))=w:=by
   have e:spl l (o+i) []=l:=by simp[spl]
   rw[e];unfold World.setB;have:w.heap.setIfInBounds b (.cells l.toArray T (0,0))=w.heap:=by
    apply xAy;intro j;rw[y9h];split
    ·rename_i hj;subst hj;rw[hb]
    ·rfl
   rw[this]
  unfold storeCells;rw[this];rfl
 |v::vs,i,o,l,w,hb,h,hv=>by
  have hlt:b<w.heap.size:=by
   rcases y7k b w.heap.size with h|h
   ·exact h
   ·rw[y8c h]at hb;cases hb
  simp only[y5g]at h;unfold storeCells;simp only[bind,run_bind,vU,z4s hb (show o+i<l.length by omega) (hv v y5h)];have hb':(World.setB w b (.cells (l.set (o+i) v).toArray T (0,0))).heap[b]? =ay (.cells (l.set (o+i) v).toArray T (0,0)):=by
   simp[World.setB,y8z hlt]
  rw[wA vs (i+1) o (l.set (o+i) v) _ hb' (by rw[y6j];omega) (λu hu=>hv u (y5j _ hu)),yCf];rw[show o+(i+1)=o+i+1 by omega,zLf (show o+i<l.length by omega)]
end Cv
namespace Cv
open Go Go.RowKit
def slO (e sz:Nat) (a:Option am) (n k:Nat) (xs:List ab):HP:=λh=>
 (a=az/\n=0/\k=0/\xs=[]/\h=pe)\/
 ∃b r,a=ay ⟨b,0,az⟩/\h=one b (.cells (xs++r).toArray e)/\xs.length=n*sz/\(xs++r).length=k*sz/\n<=k
def slR (sz:Nat) (a:Option am) (n k:Nat) (xs:List ab):HP:=λh=>
 (n=0/\xs=[]/\h=pe)\/
 ∃(b o:Nat) (l:List ab) (T:ae) (fr:Nat×Nat),a=ay ⟨b,o,az⟩/\h=one b (.cells l.toArray T fr)/\(l.drop o).take (n*sz)=xs/\xs.length=n*sz/\n<=k
def aR {e sz:Nat} {a:Option am} {n k:Nat} {xs:List ab} {h:PH} (H:slO e sz a n k xs h):slR sz a n k xs h:=by
 rcases H with⟨rfl,rfl,rfl,rfl,rfl⟩|⟨b,r,rfl,rfl,h1,h2,h3⟩
 ·exact .inl ⟨rfl,rfl,rfl⟩
 ·right;exact⟨b,0,_,e,_,rfl,rfl,by rw[y8q,<- h1];simp,h1,h3⟩
def Hp.satR {k:Ko} {w:ac} {e sz:Nat} {a:Option am} {n c:Nat} {xs:List ab} {L:List HP} (H:Hp k w (slO e sz a n c xs::L)):Sat w (slR sz a n c xs):=by
 obtain⟨h,hh,s⟩:=H.sat;exact⟨h,aR hh,s⟩
def Hp.slcases {k:Ko} {w:ac} {e sz:Nat} {a:Option am} {n c:Nat} {xs:List ab} {L:List HP} (H:Hp k w (slO e sz a n c xs::L)):
 (a=az/\n=0/\c=0/\xs=[]/\Hp k w L)\/
 ∃b r,a=ay ⟨b,0,az⟩/\xs.length=n*sz/\(xs++r).length=c*sz/\n<=c/\Hp k w (pt b (.cells (xs++r).toArray e)::L):=by
 obtain⟨hk,hs,hh⟩:=H;cases hh with
 |cons ha hsub hd hr=>
  rcases ha with⟨h1,h2,h3,h4,h5⟩|⟨b,r,h1,h2,h3,h4,h5⟩
  ·exact .inl ⟨h1,h2,h3,h4,hk,_,hr⟩
  ·subst h2;exact .inr ⟨b,r,h1,h3,h4,h5,hk,_,.cons rfl hsub hd hr⟩
def Hp.slmk {k:Ko} {w:ac} {e sz b n c:Nat} {xs r:List ab} {L:List HP} (H:Hp k w (pt b (.cells (xs++r).toArray e)::L)) (h1:xs.length=n*sz) (h2:(xs++r).length=c*sz) (h3:n<=c):
 Hp k w (slO e sz (ay ⟨b,0,az⟩) n c xs::L):=H.imp λx hx=> .inr ⟨b,r,rfl,hx,h1,h2,h3⟩
def z7k (e sz:Nat):slO e sz az 0 0 [] pe:= .inl ⟨rfl,rfl,rfl,rfl,rfl⟩
def Hp.nil {k:Ko} {w:ac} {L:List HP} (e sz:Nat) (H:Hp k w L):Hp k w (slO e sz az 0 0 []::L):=
 ((@uA k w True L).2 ⟨trivial,H⟩).imp λx hx=>by rw[hx.2];exact z7k e sz
def Hp.lit {k:Ko} {w:ac} {b e sz n:Nat} {l:List ab} {L:List HP} (H:Hp k w (pt b (.cells l.toArray e)::L)) (hl:l.length=n*sz):Hp k w (slO e sz (ay ⟨b,0,az⟩) n n l::L):=
 H.imp λx hx=> .inr ⟨b,[],rfl,by rw[hx,y6a],hl,by simpa using hl,y5x _⟩
def zLb {e sz:Nat} {a:Option am} {n k:Nat} {xs:List ab} {h:PH} (H:slO e sz a n k xs h):xs.length=n*sz/\n<=k:=by
 rcases H with⟨rfl,rfl,rfl,rfl,rfl⟩|⟨b,r,rfl,rfl,h1,h2,h3⟩
 ·simp
 ·exact⟨h1,h3⟩
def Hp.len {k:Ko} {w:ac} {e sz:Nat} {a:Option am} {n c:Nat} {xs:List ab} {L:List HP} (H:Hp k w (slO e sz a n c xs::L)):xs.length=n*sz/\n<=c:=by
 obtain⟨h,hh,s⟩:=H.sat;exact zLb hh
def z6c {w:ac} {sz:Nat} {a:Option am} {n k:Nat} {xs:List ab} (H:Sat w (slR sz a n k xs)):xs.length=n*sz:=by
 obtain⟨h,hh,s⟩:=H;rcases hh with⟨rfl,rfl,_⟩|⟨b,o,l,T,fr,rfl,rfl,h1,h2,_⟩
 ·simp
 ·exact h2
def zBt {w:ac} {sz:Nat} {a:Option am} {n k:Nat} {xs:List ab} (H:Sat w (slR sz a n k xs)) (hn:0<n):
 ∃(b o:Nat) (l:List ab) (T:ae) (fr:Nat×Nat),a=ay ⟨b,o,az⟩/\w.heap[b]? =ay (.cells l.toArray T fr)/\(l.drop o).take (n*sz)=xs:=by
 obtain⟨h,hh,s⟩:=H;rcases hh with⟨rfl,rfl,_⟩|⟨b,o,l,T,fr,rfl,rfl,h1,h2,_⟩
 ·omega
 ·exact⟨b,o,l,T,fr,rfl,s b _ (by simp[one]),h1⟩
def zQv (m:Nat) (hm:256<=m):∀(r c:Nat),c<=2*m->Builtin.growBy m r c<=2*m
 |0,c,h=>h
 |r+1,c,h=>by
  unfold Builtin.growBy;split
  ·exact h
  ·exact zQv m hm r _ (by omega)
def zNh {need cap:Nat} (h:cap<need):Builtin.nextslicecap need cap<=2*need:=by
 unfold Builtin.nextslicecap;split
 ·omega
 ·split
  ·omega
  ·exact zQv need (by omega) 4 cap (by omega)
def Src (sz:Nat) (w:ac) (x:ab) (m:Nat) (ys:List ab):Prop:=
 (∃a k,x=.slice a m k/\Sat w (slR sz a m k ys))\/(∃s:ByteArray,x=.string s/\sz=1/\m=s.size/\ys=s.data.toList.map λb=> .int .u8 b.toNat)
def zEh {P:aa} {sz:Nat} {w:ac} {x:ab} {m:Nat} {ys:List ab} (h:Src sz w x m ys):
 (Builtin.lenOf x).run P w= .ok m w/\(bz sz m x).run P w= .ok ys.toArray w/\ys.length=m*sz:=by
 rcases h with⟨a,k,rfl,H⟩|⟨s,rfl,rfl,rfl,rfl⟩
 ·refine⟨rfl,?_,z6c H⟩;have hl:=z6c H;obtain⟨h,hh,s⟩:=H;rcases hh with⟨rfl,rfl,_⟩|⟨b,o,l,T,fr,rfl,rfl,h1,h2,_⟩
  ·cases a with
   |none=>rfl
   |some a=>simp[bz,loadCells,loadCellsFrom,pure,bc]
  ·have hb:=s b _ (show one b _ b=_ by simp[one];rfl);unfold bz;by_cases h0:m*sz=0
   ·rw[h0]at h1 hl ⊢;have:ys=[]:=y6d hl;subst this;rfl
   ·have:o+m*sz<=l.length:=by
     rw[<- h1,y5t,y5z]at h2;omega
    rw[u7 hb this,h1]
 ·refine⟨rfl,?_,by simp⟩;simp only[bz];have:s.extract 0 s.size=s:=by simp
  rw[this];simp only[pure,bc];congr 1;apply dd;simp
def z2y (P:aa) (t:ae):Bool:=
 match P.underlying t with
 |some (.slice _)=>bo
 |some .string=>bo
 |_=>bu
def zOt {P:aa} {t:ae} (h:z2y P t=bo):(∃e,P.underlying t=ay (.slice e))\/P.underlying t=ay .string:=by
 unfold z2y at h;cases hd:P.underlying t with
 |none=>rw[hd]at h;cases h
 |some d=>
  rw[hd]at h;cases d<;>first|exact .inl ⟨_,rfl⟩|exact .inr rfl|(cases h)
def Hp.append {P:aa} {k:Ko} {w:ac} {L:List HP} {t1 t2 rt e sz by_:Nat} {z:Array ab} (hi:vP P t1=ay (e,sz,by_,z)) (h2:z2y P t2=bo) {a:Option am} {n c:Nat} {xs:List ab}
 (H:Hp k w (slO e sz a n c xs::L)) {x:ab} {m:Nat} {ys:List ab} (hx:Src sz w x m ys) (hv:∀v∈ys,v.oneC=bo) (hz:z.size=sz) (hby:0<by_) (hb:(n+m)*by_<=140737488355328):
 ∃a' c' w',u0 P (ce #[t1,t2] rt #[.slice a n c,x]) w (.slice a' (n+m) c') w'/\Hp k w' (slO e sz a' (n+m) c' (xs++ys)::L):=by
 obtain⟨i,zv,q1,q2,rfl,rfl,q5,rfl⟩:=kH hi;obtain⟨r1,r2,hylen⟩:=zEh (P:=P) hx;obtain⟨hxlen,hnc⟩:=H.len;have hnm:n+m<=140737488355328:=y7w (Nat.le_mul_of_pos_right _ hby) hb;have hrow:(n+m)*i.size=n*i.size+m*i.size:=y8e _ _ _;by_cases hfit:n+m<=c
 ·--zF the capacity
  rcases H.slcases with⟨rfl,rfl,rfl,rfl,H0⟩|⟨b,r,rfl,h3,h4,h5,H0⟩
  ·have hm:m=0:=by omega
   subst hm;have hys:ys=[]:=y6d (by simpa using hylen);subst hys;refine⟨az,0,w,?_,by simpa using H⟩;unfold u0 ce;rcases zOt h2 with⟨e2,hd⟩|hd<;>
   simp only[y7d,y7m,y7b,bind,pure,run_bind,be,bc,run_underlying q1,run_sizeOf q2,run_underlying hd,y5v,if_false,r1,r2,y9n,y5x,if_true,xAd]
  ·have hroom:n*i.size+ys.length<=(xs++r).length:=by
    rw[h4,hylen,<- hrow];exact y6o _ hfit
   have hst:=wA (P:=P) ys 0 (n*i.size) (xs++r) w H0.get (by omega) hv;simp only[y9n]at hst;have hspl:spl (xs++r) (n*i.size) ys=(xs++ys)++r.drop ys.length:=by
    simp only[spl];rw[<- h3,xBj,xAe];simp
   rw[hspl]at hst;refine⟨ay ⟨b,0,az⟩,c,_,?_,(H0.upd _).slmk (r:=r.drop ys.length) (by rw[y5a,h3,hylen,hrow]) ?_ hfit⟩
   ·unfold u0 ce;rcases zOt h2 with⟨e2,hd⟩|hd<;>
    simp only[y7d,y7m,y7b,bind,pure,run_bind,be,bc,run_underlying q1,run_sizeOf q2,run_underlying hd,y5v,if_false,r1,r2,hfit,if_true,vU,y6c,hst,xAd]
   ·rw[<- h4];simp only[y5a,y5z]at hroom ⊢;omega
 ·have hc1:¬(((n+m:Nat):Int)>de.max/\(False\/i.bytes=0)):=by
   rintro⟨_,h|h⟩
   ·exact h
   ·omega
  have hc2:¬(Builtin.nextslicecap (n+m) c*i.bytes>2 ^ 48):=by
   have:=zNh (need:=n+m) (cap:=c) (by omega);have:=y6o i.bytes this;have e:2*(n+m)*i.bytes=2*((n+m)*i.bytes):=by rw[Nat.mul_assoc]
   omega
  have hold:(bz i.size n (.slice a n c)).run P w= .ok xs.toArray w:=(zEh (P:=P) (.inl ⟨a,c,rfl,H.satR⟩)).2.1;have hzr:∀w,(zeroValue e).run P w= .ok zv w:=λw=>zero_run (by unfold zero?;rw[q2];exact q5) w
  have hti:∀w,(typeInfo e).run P w= .ok i w:=λw=>zEr q2 w
  generalize hcap:(Question.appendCap (n+m) c e).cut (w.tape w.drawn (.appendCap (n+m) c e))=nc;have hge:n+m<=nc:=by
   rw[<- hcap];simp only[Question.cut];omega
  have r2':(bz i.size m x).run P w.drew= .ok ys.toArray w.drew:=by
   have hx':Src i.size w.drew x m ys:=by
    rcases hx with⟨a,kk,rfl,H⟩|h
    ·exact .inl ⟨a,kk,rfl,H.below ((Below.refl _ _).drew)⟩
    ·exact .inr h
   exact(zEh (P:=P) hx').2.1
  have hold':(bz i.size n (.slice a n c)).run P w.drew= .ok xs.toArray w.drew:=(zEh (P:=P) (.inl ⟨a,c,rfl,H.satR.below ((Below.refl _ _).drew)⟩)).2.1;have hch:(choose (.appendCap (n+m) c e)).run P w= .ok nc w.drew:=by
   simp only[choose,bc,Question.forced,y5v,if_false,hcap];rfl
  have hnew:=(H.drop.drew).new (.cells (xs++(ys++(cd zv.cells (nc-(n+m))).toList)).toArray e);have hlen:(ys++(cd zv.cells (nc-(n+m))).toList).length=m*i.size+(nc-(n+m))*i.size:=by
   rw[y5a,hylen,y9b,size_zeroCells,hz]
  have harr:xs.toArray++ys.toArray++cd zv.cells (nc-(n+m))=(xs++(ys++(cd zv.cells (nc-(n+m))).toList)).toArray:=by
   apply dd;simp
  refine⟨ay ⟨w.drew.heap.size,0,az⟩,nc,w.drew.alloc (.cells (xs++(ys++(cd zv.cells (nc-(n+m))).toList)).toArray e),?_,?_⟩
  ·unfold u0 ce;rcases zOt h2 with⟨e2,hd⟩|hd<;>
   simp only[y7d,y7m,y7b,bind,pure,run_bind,be,bc,run_underlying q1,run_sizeOf q2,run_underlying hd,y5v,if_false,r1,hfit,hti,hc1,hc2,hch,zKf,hold',r2',hzr,xAd,if_true,harr,newRow,newObj]
   all_goals rfl
  ·have:=Hp.slmk (c:=nc) (n:=n+m) (sz:=i.size) (xs:=xs++ys) (r:=(cd zv.cells (nc-(n+m))).toList) (by rw[y5i];exact hnew) (by rw[y5a,hxlen,hylen,hrow]) ?_ hge
   ·exact this
   ·rw[y5i,y5a,hlen,hxlen,<- y8e,<- y8e];congr 1;omega
end Cv
namespace Sx
@[reducible] def dh.{u} {α:Sort u} (x:α):Prop:=x=x
open Go Go.RowKit Cv
inductive D where
 |v (x:ab)
 |ro (sz:Nat) (els:List (List D))
inductive V where
 |top
 |d (x:D)
 |nm (n off:Nat)
 |el (n sz i f:Nat)
 |re (sz:Nat) (els:List (List D)) (i f:Nat)
 |na (n off i:Nat)
 |own (n:Nat)
 |mp (n:Nat)
 |sub (n i:Nat)
 |agg (l:List V)
 |tup (l:List V)
 |fn (f:Nat) (first cap:List V)
 |ifc (t:Nat) (x:V)
inductive AObj:Type 1 where
 |gone
 |nilo
 |cells (vs:List V) (t:ae)
 |own (t sz:Nat) (els:List (List D))
 |fro (sz:Nat) (els:List (List D))
 |mrk (t:ae) (els:List (List D))
 |vec (ds:List D) (t:ae)
 |map (es:List (ab×List D))
 |mapS (es:List (ab×List D)) (kv:ab) (b:Int)
 |iter (s:ByteArray) (pos:Nat)
 |adt (T:Type) (m:Nat) (unf:T->Nat->AObj) (x:T)
 |objs (t:Nat) (T:Type) (m:Nat) (unf:T->Nat->AObj) (l:List T) (hole:Option Nat)
 |hol (q:Bool) (t sz:Nat) (els:List (List D)) (i f:Nat) (b:Bool) (m:Option Nat)
@[reducible] def Hd:=ab×List ab
structure Ev where
 F:PH
 tab:List Hd
def FLe (F G:PH):Prop:=∀b o,F b=ay o->G b=ay o
def Ev.le (E E':Ev):Prop:=FLe E.F E'.F/\E.tab<+:E'.tab
def FLe.refl (F:PH):FLe F F:=λ_ _ h=>h
def FLe.trans {F G H:PH} (a:FLe F G) (b:FLe G H):FLe F H:=λx o h=>b x o (a x o h)
def Ev.le.refl (E:Ev):E.le E:=⟨FLe.refl _,y9r _⟩
def Ev.le.trans {E E' E2:Ev} (a:E.le E') (b:E'.le E2):E.le E2:=⟨a.1.trans b.1,a.2.trans b.2⟩
def zLe {α:Type} {l l':List α} (h:l<+:l') {n:Nat} {x:α} (e:l[n]? =ay x):l'[n]? =ay x:=by
 obtain⟨t,rfl⟩:=h;rw[y7x]
 ·exact e
 ·exact(y5f.1 e).1
def Ev.le.get {E E':Ev} (a:E.le E') {n:Nat} {x:Hd} (e:E.tab[n]? =ay x):E'.tab[n]? =ay x:=zLe a.2 e
mutual
def DR (F:PH):D->ab->Prop
 | .v x,y=>y=x/\x.oneC=bo
 | .ro sz els,y=>∃a c,y= .slice a els.length c/\els.length<=c/\(∀el∈els,el.length=sz)/\
    (els=[]\/∃(b o:Nat) (l:List ab) (T:ae) (fr:Nat×Nat),a=ay ⟨b,o,az⟩/\F b=ay (.cells l.toArray T fr)/\DRS F els (l.drop o))
def DRL (F:PH):List D->List ab->Prop
 |[],l=>l=[]
 |d::ds,l=>∃x xs,l=x::xs/\DR F d x/\DRL F ds xs
def DRS (F:PH):List (List D)->List ab->Prop
 |[],_=>True
 |el::els,l=>∃l1 l2,l=l1++l2/\DRL F el l1/\DRS F els l2
end
mutual
theorem DR.mono {F G:PH} (h:FLe F G):∀{d:D} {y:ab},DR F d y->DR G d y
 | .v x,y,e=>by simpa only[DR]using e
 | .ro sz els,y,e=>by
   simp only[DR]at e ⊢;obtain⟨a,c,h1,h2,h3,h4⟩:=e;refine⟨a,c,h1,h2,h3,?_⟩;rcases h4 with h4|⟨b,o,l,T,fr,q1,q2,q3⟩
   ·exact .inl h4
   ·exact .inr ⟨b,o,l,T,fr,q1,h _ _ q2,DRS.mono h q3⟩
theorem DRL.mono {F G:PH} (h:FLe F G):∀{ds:List D} {l:List ab},DRL F ds l->DRL G ds l
 |[],l,e=>by simpa only[DRL]using e
 |d::ds,l,e=>by
  simp only[DRL]at e ⊢;obtain⟨x,xs,h1,h2,h3⟩:=e;exact⟨x,xs,h1,DR.mono h h2,DRL.mono h h3⟩
theorem DRS.mono {F G:PH} (h:FLe F G):∀{els:List (List D)} {l:List ab},DRS F els l->DRS G els l
 |[],l,e=>by simp only[DRS]
 |el::els,l,e=>by
  simp only[DRS]at e ⊢;obtain⟨x,xs,h1,h2,h3⟩:=e;exact⟨x,xs,h1,DRL.mono h h2,DRS.mono h h3⟩
end
mutual
def VR (E:Ev):V->ab->Prop
 | .top,_=>True
 | .d d,y=>DR E.F d y
 | .nm n o,y=>∃(b oo:Nat) (l:List ab),E.tab[n]? =ay (.pointer (ay ⟨b,oo,az⟩),l)/\y= .pointer (ay ⟨b,oo+o,az⟩)
 | .el n sz i f,y=>∃(b oo m c:Nat) (l:List ab),E.tab[n]? =ay (.slice (ay ⟨b,oo,az⟩) m c,l)/\y= .pointer (ay ⟨b,oo+i*sz+f,az⟩)
 | .re sz els i f,y=>i<els.length/\(∀el∈els,el.length=sz)/\∃(b o:Nat) (l:List ab) (T:ae) (fr:Nat×Nat),y= .pointer (ay ⟨b,o+i*sz+f,az⟩)/\E.F b=ay (.cells l.toArray T fr)/\DRS E.F els (l.drop o)
 | .na n o i,y=>∃(b oo:Nat) (l:List ab),E.tab[n]? =ay (.pointer (ay ⟨b,oo,az⟩),l)/\y= .pointer (ay ⟨b,oo+(o+i),az⟩)
 | .own n,y=>∃l,E.tab[n]? =ay (y,l)/\∃a m c,y= .slice a m c
 | .mp n,y=>∃b l,E.tab[n]? =ay (y,l)/\y= .map (ay b)
 | .sub n i,y=>∃hd l b oo,E.tab[n]? =ay (hd,l)/\l[i]? =ay y/\y= .pointer (ay ⟨b,oo,az⟩)
 | .agg l,y=>∃ys,y= .agg ys.toArray/\VRL E l ys
 | .tup l,y=>∃ys,y= .tuple ys.toArray/\VRL E l ys
 | .fn f a b,y=>∃as bs,y= .func (.func f) as.toArray bs.toArray/\VRL E a as/\VRL E b bs
 | .ifc t x,y=>∃z,y= .iface t z/\VR E x z
def VRL (E:Ev):List V->List ab->Prop
 |[],l=>l=[]
 |v::vs,l=>∃x xs,l=x::xs/\VR E v x/\VRL E vs xs
end
mutual
theorem VR.mono {E E':Ev} (h:E.le E'):∀{v:V} {y:ab},VR E v y->VR E' v y
 | .top,y,e=>by simp only[VR]
 | .d d,y,e=>by simp only[VR]at e ⊢;exact e.mono h.1
 | .nm n o,y,e=>by
   simp only[VR]at e ⊢;obtain⟨b,oo,l,h1,h2⟩:=e;exact⟨b,oo,l,h.get h1,h2⟩
 | .el n sz i f,y,e=>by
   simp only[VR]at e ⊢;obtain⟨b,oo,m,c,l,h1,h2⟩:=e;exact⟨b,oo,m,c,l,h.get h1,h2⟩
 | .re sz els i f,y,e=>by
   simp only[VR]at e ⊢;obtain⟨h0,h1,b,o,l,T,fr,h2,h3,h4⟩:=e;exact⟨h0,h1,b,o,l,T,fr,h2,h.1 _ _ h3,h4.mono h.1⟩
 | .na n o i,y,e=>by
   simp only[VR]at e ⊢;obtain⟨b,oo,l,h1,h2⟩:=e;exact⟨b,oo,l,h.get h1,h2⟩
 | .own n,y,e=>by
   simp only[VR]at e ⊢;obtain⟨l,h1,h2⟩:=e;exact⟨l,h.get h1,h2⟩
 | .mp n,y,e=>by
   simp only[VR]at e ⊢;obtain⟨b,l,h1,h2⟩:=e;exact⟨b,l,h.get h1,h2⟩
 | .sub n i,y,e=>by
   simp only[VR]at e ⊢;obtain⟨hd,l,b,oo,h1,h2⟩:=e;exact⟨hd,l,b,oo,h.get h1,h2⟩
 | .agg l,y,e=>by
   simp only[VR]at e ⊢;obtain⟨ys,h1,h2⟩:=e;exact⟨ys,h1,VRL.mono h h2⟩
 | .tup l,y,e=>by
   simp only[VR]at e ⊢;obtain⟨ys,h1,h2⟩:=e;exact⟨ys,h1,VRL.mono h h2⟩
 | .fn f a b,y,e=>by
   simp only[VR]at e ⊢;obtain⟨as,bs,h1,h2,h3⟩:=e;exact⟨as,bs,h1,VRL.mono h h2,VRL.mono h h3⟩
 | .ifc t x,y,e=>by
   simp only[VR]at e ⊢;obtain⟨z,h1,h2⟩:=e;exact⟨z,h1,VR.mono h h2⟩
theorem VRL.mono {E E':Ev} (h:E.le E'):∀{vs:List V} {l:List ab},VRL E vs l->VRL E' vs l
 |[],l,e=>by simpa only[VRL]using e
 |v::vs,l,e=>by
  simp only[VRL]at e ⊢;obtain⟨x,xs,h1,h2,h3⟩:=e;exact⟨x,xs,h1,VR.mono h h2,VRL.mono h h3⟩
end
def pN:List ab->ab
 |[y]=>y
 |ys=> .agg ys.toArray
def MR (F:PH):List (ab×List D)->List aq->Prop
 |[],l=>l=[]
 |(k,ds)::es,l=>∃(m:aq) (ms:List aq),l=m::ms/\m.key=k/\(∃ys,DRL F ds ys/\m.val=pN ys)/\MR F es ms
def MR.mono {F G:PH} (h:FLe F G):∀{es:List (ab×List D)} {l:List aq},MR F es l->MR G es l
 |[],l,e=>e
 |(k,ds)::es,l,e=>by
  obtain⟨m,ms,h1,h2,⟨ys,h3,h4⟩,h5⟩:=e;exact⟨m,ms,h1,h2,⟨ys,h3.mono h,h4⟩,h5.mono h⟩
def vH (l:List aq) (ck:Nat):Prop:=(l.map (·.born)).Nodup/\∀e∈l,e.born<ck
def zYq (kd:TypeDesc) (x:ab):Prop:=(∃ik k n,kd=.int ik/\x=.int k n)\/(∃s,kd=.string/\x=.string s)
def zLn (l:List aq) (x:ab) (b:Int):Prop:=∃kd,zYq kd x/\∃q m,Instr.findNow kd x l 0=ay (ay (q,m.val))/\l[q]?=ay m/\(m.born:Int)=b
def HolX (tab:List Hd) (p:Nat) (b:Bool) (ys xs:List ab):Option Nat->Prop
 |some m=>∃y l,tab[m]? =ay (y,l)/\(∃a n c,y= .slice a n c)/\xs=bif b then ys.set p y else ys
 |none=>∃y,(∃a n c,y= .slice a n c)/\xs=bif b then ys.set p y else ys
def rowHP (F:PH):AObj->List Hd->Hd->HP
 | .gone,_,_=>λh=>h=pe
 | .nilo,_,hd=>λh=>h=pe/\hd.1= .slice az 0 0/\hd.2=[]
 | .cells vs t,tab,hd=>λh=>∃b l,hd.1= .pointer (ay ⟨b,0,az⟩)/\VRL ⟨F,tab⟩ vs l/\h=one b (.cells l.toArray t)
 | .own t sz els,tab,hd=>λh=>∃a k xs,hd.1= .slice a els.length k/\DRL F els.flatten xs/\(∀el∈els,el.length=sz)/\slO t sz a els.length k xs h
 | .fro sz els,tab,hd=>λh=>h=pe/\DR F (.ro sz els) hd.1
 | .mrk t els,tab,hd=>λh=>∃b k xs r,hd.1= .slice (ay ⟨b,0,az⟩) els.length k/\DRL F els.flatten xs/\(∀el∈els,el.length=1)/\els.length<=k/\h=one b (.cells (xs++r).toArray t ((xs++r).length,(xs++r).length+1))
 | .vec ds t,tab,hd=>λh=>∃b l,hd.1= .pointer (ay ⟨b,0,az⟩)/\DRL F ds l/\h=one b (.cells l.toArray t)
 | .map es,tab,hd=>λh=>∃b ents ck,hd.1= .map (ay b)/\MR F es ents/\vH ents ck/\h=one b (.map ents.toArray ck)
 | .mapS es kv x,tab,hd=>λh=>∃b ents ck,hd.1= .map (ay b)/\MR F es ents/\vH ents ck/\zLn ents kv x/\h=one b (.map ents.toArray ck)
 | .iter s pos,tab,hd=>λh=>∃b,hd.1= .pointer (ay ⟨b,0,az⟩)/\h=one b (.stringIter s pos)
 | .adt T m unf x,tab,hd=>λh=>∃tab1,tab1[0]? =ay hd/\tab1.length=m/\hS ((da m).map λj=>λh=>∃hd',tab1[j]? =ay hd'/\rowHP F (unf x j) tab1 hd' h) h
 | .objs t T m unf l hole,tab,hd=>λh=>∃a k,hd.1= .slice a l.length k/\hd.2.length=l.length/\(∀p∈hd.2,∃b oo,p= .pointer (ay ⟨b,oo,az⟩))/\
    hS [slO t 1 a l.length k hd.2,hS ((da l.length).map λi=>λh=>if hole=ay i then h=pe else ∃x p l0 tab1,l[i]? =ay x/\hd.2[i]? =ay p/\tab1[0]? =ay (p,l0)/\tab1.length=m/\
     hS ((da m).map λj=>λh=>∃hd',tab1[j]? =ay hd'/\rowHP F (unf x j) tab1 hd' h) h)] h
 | .hol q t sz els i f b m,tab,hd=>λh=>∃a k ys xs,hd.1= .slice a els.length k/\DRL F els.flatten ys/\(∀el∈els,el.length=sz)/\HolX tab (i*sz+f) b ys xs m/\slO t sz a els.length k xs h
def zDb {α:Type} {f g:α->HP} (h:∀a x,f a x->g a x):∀{l:List α} {x:PH},hS (l.map f) x->hS (l.map g) x
 |[],x,e=>e
 |[a],x,e=>h a x e
 |a::b::l,x,e=>by
  obtain⟨g1,g2,h1,h2,h3,h4⟩:=e;exact⟨g1,g2,h a _ h1,zDb h (l:=b::l) h2,h3,h4⟩
def HolX.mono {tab tab':List Hd} (h:∀(n:Nat) (hd:Hd),tab[n]? =ay hd->tab'[n]? =ay hd) {p:Nat} {b:Bool} {ys xs:List ab}:∀{m:Option Nat},HolX tab p b ys xs m->HolX tab' p b ys xs m
 |some m,⟨y,l,h1,h2⟩=>⟨y,l,h _ _ h1,h2⟩
 |none,e=>e
def rowHP.mono {F G:PH} (hF:FLe F G) (o:AObj):∀{tab tab':List Hd} (ht:tab<+:tab') {hd:Hd} {h:PH},rowHP F o tab hd h->rowHP G o tab' hd h:=by
 induction o with
 |gone=>intro _ _ _ _ _ e;exact e
 |nilo=>intro _ _ _ _ _ e;exact e
 |cells vs t=>
  intro tab tab' ht hd h e;simp only[rowHP]at e ⊢;obtain⟨b,l,h1,h2,h3⟩:=e;exact⟨b,l,h1,h2.mono ⟨hF,ht⟩,h3⟩
 |own t sz els=>
  intro tab tab' ht hd h e;simp only[rowHP]at e ⊢;obtain⟨a,k,xs,h1,h2,h3⟩:=e;exact⟨a,k,xs,h1,h2.mono hF,h3⟩
 |fro sz els=>
  intro tab tab' ht hd h e;simp only[rowHP]at e ⊢;exact⟨e.1,e.2.mono hF⟩
 |mrk t els=>
  intro tab tab' ht hd h e;simp only[rowHP]at e ⊢;obtain⟨b,k,xs,r,h1,h2,h3⟩:=e;exact⟨b,k,xs,r,h1,h2.mono hF,h3⟩
 |vec ds t=>
  intro tab tab' ht hd h e;simp only[rowHP]at e ⊢;obtain⟨b,l,h1,h2,h3⟩:=e;exact⟨b,l,h1,h2.mono hF,h3⟩
 |map es=>
  intro tab tab' ht hd h e;simp only[rowHP]at e ⊢;obtain⟨b,l,ck,h1,h2,h3⟩:=e;exact⟨b,l,ck,h1,h2.mono hF,h3⟩
 |mapS es kv x=>
  intro tab tab' ht hd h e;simp only[rowHP]at e ⊢;obtain⟨b,l,ck,h1,h2,h3⟩:=e;exact⟨b,l,ck,h1,h2.mono hF,h3⟩
 |iter s pos=>intro _ _ _ _ _ e;simpa only[rowHP]using e
 |adt T m unf x ih=>
  intro tab tab' ht hd h e;simp only[rowHP]at e ⊢;obtain⟨tab1,h1,h2,h3⟩:=e;refine⟨tab1,h1,h2,zDb ?_ h3⟩;rintro j y ⟨hd',q1,q2⟩;exact⟨hd',q1,ih x j (y9r _) q2⟩
 |objs t T m unf l hole ih=>
  intro tab tab' ht hd h e;simp only[rowHP]at e ⊢;obtain⟨a,k,h1,h2,h3,h5⟩:=e;refine⟨a,k,h1,h2,h3,?_⟩;obtain⟨g1,g2,q1,q2,q3,q4⟩:=h5;refine⟨g1,g2,q1,zDb ?_ q2,q3,q4⟩;intro i y hy;split
  ·rename_i hi;rw[y5d hi]at hy;exact hy
  ·rename_i hi;rw[y5b hi]at hy;obtain⟨x,p,l0,tab1,r1,r2,r3,r4,r5⟩:=hy;refine⟨x,p,l0,tab1,r1,r2,r3,r4,zDb ?_ r5⟩;rintro j y ⟨hd',s1,s2⟩;exact⟨hd',s1,ih x j (y9r _) s2⟩
 |hol q t sz els i f b m=>
  intro tab tab' ht hd h e;simp only[rowHP]at e ⊢;obtain⟨a,k,ys,xs,h1,h2,h3,h4,h5⟩:=e;exact⟨a,k,ys,xs,h1,h2.mono hF,h3,h4.mono λn hd e=>zLe ht e,h5⟩
structure St where
 rows:List (Nat×AObj)
 nx:Nat
def tL (n:Nat):List (Nat×AObj)->Option AObj
 |[]=>az
 |(m,o)::l=>bif cu m n then ay o else tL n l
def wX (n:Nat):List (Nat×AObj)->List (Nat×AObj)
 |[]=>[]
 |(m,o)::l=>bif cu m n then l else(m,o)::wX n l
def rH (n:Nat) (x:AObj):List (Nat×AObj)->List (Nat×AObj)
 |[]=>[]
 |(m,o)::l=>bif cu m n then(m,x)::l else(m,o)::rH n x l
def St.get (s:St) (n:Nat):Option AObj:=tL n s.rows
def St.set (s:St) (n:Nat) (o:AObj):St:=⟨rH n o s.rows,s.nx⟩
def St.del (s:St) (n:Nat):St:=⟨wX n s.rows,s.nx⟩
def St.delF (s:St) (n:Nat):AObj->St
 | .fro _ _=>s
 |_=>s.del n
def St.new (s:St) (o:AObj):St:=⟨(s.nx,o)::s.rows,s.nx+1⟩
def vD {n:Nat} {o:AObj}:∀{l:List (Nat×AObj)},tL n l=ay o->l.Perm ((n,o)::wX n l)/\∀x,(rH n x l).Perm ((n,x)::wX n l)
 |[],h=>by cases h
 |(m,p)::l,h=>by
  simp only[tL,wX,rH]at h ⊢;cases hb:cu m n
  ·rw[hb]at h;obtain⟨h1,h2⟩:=vD (l:=l) h;exact⟨(h1.cons _).trans (.swap _ _ _),λx=>((h2 x).cons _).trans (.swap _ _ _)⟩
  ·rw[hb]at h;have:=y5e hb;subst this;cases h;exact⟨.refl _,λx=> .refl _⟩
def rHP (E:Ev) (r:Nat×AObj):HP:=λh=>r.2= .gone/\h=pe\/∃hd,E.tab[r.1]? =ay hd/\rowHP E.F r.2 E.tab hd h
def rHP.mono {E E':Ev} (h:E.le E') (r:Nat×AObj) {x:PH} (e:rHP E r x):rHP E' r x:=by
 rcases e with e|⟨hd,h1,h2⟩
 ·exact .inl e
 ·exact .inr ⟨hd,h.get h1,h2.mono h.1 _ h.2⟩
def y4u:List (Nat×(Obj->Prop)):=[]
def GTab (F:PH):Prop:=∀g∈y4u,∃o,F g.1=ay o/\g.2 o
def GTab.mono {F G:PH} (h:FLe F G) (e:GTab F):GTab G:=λg hg=>let⟨o,h1,h2⟩:=e g hg;⟨o,h _ _ h1,h2⟩
def fz (F:PH):HP:=λh=>h=F/\GTab F
structure Rel (k:Ko) (L:List HP) (E:Ev) (s:St) (w:ac):Prop where
 nx:E.tab.length=s.nx
 hp:Hp k w (s.rows.map (rHP E)++fz E.F::L)
end Sx
namespace Cv
open Go Go.RowKit
inductive Tr (α:Type) where
 |e
 |n (v:Option α) (l r:Tr α)
def Tr.get {α:Type}:List Bool->Tr α->Option α
 |_,.e=>az
 |[],.n v _ _=>v
 |b::p,.n _ l r=>bif b then Tr.get p l else Tr.get p r
def Tr.set {α:Type} (x:Option α):List Bool->Tr α->Tr α
 |[],.e=> .n x .e .e
 |[],.n _ l r=> .n x l r
 |b::p,.e=>bif b then .n az (Tr.set x p .e) .e else .n az .e (Tr.set x p .e)
 |b::p,.n v l r=>bif b then .n v (Tr.set x p l) r else .n v l (Tr.set x p r)
def y1i:Nat->Nat->List Bool
 |0,n=>List.replicate n bo
 |f+1,n=>bif cu n 0 then[]else cu (n % 2) 1::y1i f (n / 2)
def pth (n:Nat):List Bool:=y1i 40 n
inductive Cap where
 |k (c:Nat)
 |r (l o0:Nat)
inductive V where
 |int (k:ag) (n:Int)
 |bool (b:Bool)
 |str (l:List Nat)
 |ptr (a:Option (Nat×Nat))
 |sl (a:Option (Nat×Nat)) (n:Nat) (c:Cap)
 |map (r:Option Nat)
 |agg (l:List V)
 |tup (l:List V)
 |fn (f:Nat) (first cap:List V)
 |nilfn
inductive AObj where
 |cells (xs:List V) (t:ae) (opn:Option Nat)
 |map (es:List (V×V×Nat)) (clock:Nat)
 |iter (s:List Nat) (pos:Nat)
structure St where
 h:Tr AObj
 nx:Nat
def St.get (s:St) (b:Nat):Option AObj:=Tr.get (pth b) s.h
def St.set (s:St) (b:Nat) (o:AObj):St:=⟨Tr.set (ay o) (pth b) s.h,s.nx⟩
def St.del (s:St) (b:Nat):St:=⟨Tr.set az (pth b) s.h,s.nx⟩
def St.new (s:St) (o:AObj):St:=⟨Tr.set (ay o) (pth s.nx) s.h,s.nx+1⟩
@[reducible] def Phi:=Nat->Nat×Nat
def cvs (φ:Phi) (b o n:Nat):Cap->am
 | .k _=>⟨(φ b).1,o,az⟩
 | .r l o0=>⟨(φ b).1,bif cu n 0 && cu (φ b).2 l then o0 else o,az⟩
def cvc (φ:Phi) (b:Nat):Cap->Nat
 | .k c=>c
 | .r l _=>(φ b).2-l
mutual
def cv (φ:Phi):V->ab
 | .int k n=> .int k n
 | .bool b=> .bool b
 | .str l=> .string (bs l)
 | .ptr az=> .pointer az
 | .ptr (ay (b,o))=> .pointer (ay ⟨(φ b).1,o,az⟩)
 | .sl az n c=> .slice az n (match c with| .k c=>c| .r _ _=>0)
 | .sl (ay (b,o)) n c=> .slice (ay (cvs φ b o n c)) n (cvc φ b c)
 | .map az=> .map az
 | .map (ay b)=> .map (ay (φ b).1)
 | .agg l=> .agg (cvl φ l).toArray
 | .tup l=> .tuple (cvl φ l).toArray
 | .fn f a b=> .func (.func f) (cvl φ a).toArray (cvl φ b).toArray
 | .nilfn=> .nilFunc
def cvl (φ:Phi):List V->List ab
 |[]=>[]
 |v::l=>cv φ v::cvl φ l
end
def yHx {α:Type}:List (Option α)->Option (List α)
 |[]=>ay []
 |some a::l=>match yHx l with
  |some r=>ay (a::r)
  |none=>az
 |none::_=>az
def z0e (ρ:Tr V):Option Nat->V->Tr V
 |none,_=>ρ
 |some d,v=>Tr.set (ay v) (pth d) ρ
def keq:ag->ag->Bool
 | .i8,.i8=>bo| .i16,.i16=>bo| .i32,.i32=>bo| .i64,.i64=>bo
 | .u8,.u8=>bo| .u16,.u16=>bo| .u32,.u32=>bo| .u64,.u64=>bo
 |_,_=>bu
def ieq:Int->Int->Bool
 | .ofNat a,.ofNat b=>cu a b
 | .negSucc a,.negSucc b=>cu a b
 |_,_=>bu
def aeq:Option (Nat×Nat)->Option (Nat×Nat)->Bool
 |none,az=>bo
 |some (a,b),ay (c,d)=>cu a c && cu b d
 |_,_=>bu
def lim:ag->Nat
 | .i8=>128| .i16=>32768| .i32=>2147483648| .i64=>9223372036854775808
 | .u8=>256| .u16=>65536| .u32=>4294967296| .u64=>18446744073709551616
def wr (k:ag):Int->Int
 | .ofNat n=>bif cw n (lim k)then .ofNat n else k.wrap (.ofNat n)
 |x=>k.wrap x
def yFa:ag->Nat
 | .i8=>256| .i16=>65536| .i32=>4294967296| .i64=>18446744073709551616
 | .u8=>256| .u16=>65536| .u32=>4294967296| .u64=>18446744073709551616
def y4y (k:ag):Int->Int->Int
 | .ofNat a,.ofNat b=>wr k (.ofNat (Nat.land (a % yFa k) (b % yFa k)))
 |a,b=>zCc k a b
def fOr (k:ag):Int->Int->Int
 | .ofNat a,.ofNat b=>wr k (.ofNat (Nat.lor (a % yFa k) (b % yFa k)))
 |a,b=>iOr k a b
def yWq (k:ag):Int->Int->Int
 | .ofNat a,.ofNat b=>wr k (.ofNat (a*2 ^ (Nat.min b k.bits)))
 |a,b=>z0b k a b
def zWi (P:aa) (t:ae):Bool:=
 match P.underlying t with
 |some (.pointer _)=>bo
 |_=>bu
def zFp (P:aa) (t:ae):Bool:=
 match P.underlying t with
 |some (.slice _)=>bo
 |_=>bu
def z1k (P:aa) (t:ae):Bool:=
 match P.underlying t with
 |some (.map _ _)=>bo
 |_=>bu
def zCs (P:aa) (t:ae):Bool:=
 match P.underlying t with
 |some .string=>bo
 |_=>bu
def y4z (P:aa) (t:ae):Option ag:=
 match P.underlying t with
 |some (.int k)=>ay k
 |_=>az
def zPu (P:aa) (s:ae) (f:Nat):Option Nat:=
 match P.underlying s with
 |some (.struct fs)=>match fs[f]? with
  |some fd=>match P.info? fd.type with
   |some i=>bif cu i.size 0 then az else ay fd.offset
   |none=>az
  |none=>az
 |_=>az
def zIh (P:aa) (s:ae) (f:Nat):Option (ae×Nat):=
 match P.underlying s with
 |some (.struct fs)=>match fs[f]? with
  |some fd=>ay (fd.type,fd.offset)
  |none=>az
 |_=>az
def zKt (P:aa) (t:ae):Option (Nat×ae×Nat):=
 match P.underlying t with
 |some (.array n e)=>match P.info? e with
  |some i=>ay (n,e,i.size)
  |none=>az
 |_=>az
def apart (P:aa) (t:ae) (cs:List V) (off:Nat):Option V:=
 match zKn P t with
 |some sz=>ay (.agg ((cs.drop off).take sz))
 |none=>bif zDd P t then cs[off]? else az
def zNy (i:Int) (n:Nat):Option Nat:=
 match i with
 | .ofNat j=>bif cw j n then ay j else az
 |_=>az
def yJg (P:aa) (t:ae):Option (List (Option (Nat×Nat))):=
 match P.underlying t with
 |some (.struct fs)=>ay (fs.toList.map λfd=>match P.info? fd.type with
   |some i=>ay (fd.offset,i.size)
   |none=>az)
 |_=>az
def zUn (l:List (Option (Nat×Nat))) (i:Nat):Option (Nat×Nat):=
 match l[i]? with
 |some r=>r
 |none=>az
def zQa (P:aa) (t:ae):Option (ae×ae):=
 match P.underlying t with
 |some (.map k e)=>ay (k,e)
 |_=>az
def yJo (P:aa) (t:ae):Bool:=
 match P.underlying t with
 |some (.slice e)=>match P.underlying e with
  |some (.int .u8)=>bo
  |_=>bu
 |_=>bu
def mX (P:aa) (t:ae):Option Nat:=
 match P.info? t with
 |some i=>ay i.size
 |none=>az
end Cv
namespace Cv
open Go Go.RowKit
def cme (φ:Phi) (e:V×V×Nat):aq:={key:=cv φ e.1,val:=cv φ e.2.1,born:=e.2.2}
def coT (φ:Phi) (b:Nat):AObj->Obj->Prop
 | .cells xs t az,O=>O= .cells (cvl φ xs).toArray t
 | .cells xs t (ay sz),O=>∃r,O= .cells (cvl φ xs++r).toArray t/\xs.length+r.length=(φ b).2*sz
 | .map es ck,O=>O= .map (es.map (cme φ)).toArray ck
 | .iter l pos,O=>O= .stringIter (bs l) pos
structure Rel (φ:Phi) (s:St) (w:ac):Prop where
 obj:∀b o,s.get b=ay o->∃O,w.heap[(φ b).1]? =ay O/\coT φ b o O
 inj:∀b c,s.get b≠az->s.get c≠az->(φ b).1=(φ c).1->b=c
 lt:∀b,s.get b≠az->b<s.nx
def bs_toNat (s:ByteArray):bs (s.data.toList.map UInt8.toNat)=s:=by
 unfold bs;rw[y7q];have:(Nat.toUInt8∘UInt8.toNat)=id:=by
  funext x;simp[Nat.toUInt8]
 rw[this];simp
def zNw {off:Nat}:∀(vs:List ab) (k:Nat) (l:List ab),off+k+vs.length<=l.length->
 List.foldl (λ(cs:Array ab) (p:ab×Nat)=>cs.setIfInBounds (off+p.2) p.1) l.toArray (vs.zipIdx k)=(spl l (off+k) vs).toArray
 |[],k,l,_=>by simp[spl]
 |v::vs,k,l,h=>by
  simp only[y5g]at h;simp only[List.zipIdx_cons,y8v,List.setIfInBounds_toArray];rw[zNw vs (k+1) (l.set (off+k) v) (by rw[y6j];omega),show off+(k+1)=off+k+1 by omega,zLf (by omega)]
end Cv
namespace Cv
open Go Go.RowKit
def zRv {k k':ag} (h:keq k k'=bo):k=k':=by cases k<;>cases k'<;>first|rfl|cases h
def z3x {k:ag} {n:Nat} (h:n<lim k):k.wrap (.ofNat n)= .ofNat n:=by
 cases k<;>simp only[lim]at h<;>simp[IntKind.wrap,IntKind.bits,IntKind.signed]<;>omega
def z5m (k:ag) (x:Int):wr k x=k.wrap x:=by
 cases x with
 |ofNat n=>
  simp only[wr];cases h:cw n (lim k)
  ·rfl
  ·exact(z3x (by simpa[y8d]using h)).symm
 |negSucc n=>rfl
def yLv (k:ag):yFa k=2 ^ k.bits:=by cases k<;>rfl
def zJo (w a:Nat):cz w (Int.ofNat a)=BitVec.ofNat w a:=by
 apply BitVec.eq_of_toNat_eq;simp
def yTp (k:ag) (a b:Int):fOr k a b=iOr k a b:=by
 unfold fOr;split
 ·rename_i a b;rw[z5m,yLv];unfold iOr;rw[zJo,zJo];simp only[BitVec.toNat_or,BitVec.toNat_ofNat];rfl
 ·rfl
def yOr (k:ag) (a b:Int):yWq k a b=z0b k a b:=by
 unfold yWq;split
 ·rename_i a b;rw[z5m];unfold z0b;congr 1
 ·rfl
end Cv
namespace Cv
open Go Go.RowKit
def zYk {P:aa} {t:ae} (h:zWi P t=bo):∃e,P.underlying t=ay (.pointer e):=by
 unfold zWi at h;split at h
 ·exact⟨_,by assumption⟩
 ·cases h
def sS {P:aa} {t:ae} (h:zFp P t=bo):∃e,P.underlying t=ay (.slice e):=by
 unfold zFp at h;split at h
 ·exact⟨_,by assumption⟩
 ·cases h
def z0c {P:aa} {t:ae} (h:z1k P t=bo):∃k e,P.underlying t=ay (.map k e):=by
 unfold z1k at h;split at h
 ·exact⟨_,_,by assumption⟩
 ·cases h
def mY {P:aa} {t:ae} (h:zCs P t=bo):P.underlying t=ay .string:=by
 unfold zCs at h;split at h
 ·assumption
 ·cases h
end Cv
namespace Cv
open Go Go.RowKit
def yT {α:Type} {b:Bool} {x:Option α} {v:α} (h:(bif b then x else az)=ay v):b=bo/\x=ay v:=by
 cases b
 ·cases h
 ·exact⟨rfl,h⟩
def zPg {i:Int} {n j:Nat} (h:zNy i n=ay j):i=(j:Int)/\j<n:=by
 unfold zNy at h;split at h
 ·rename_i m;obtain⟨hb,h⟩:=yT h;simp only[cr]at h;subst h;exact⟨rfl,by simpa[y8d]using hb⟩
 ·cases h
def zPy {P:aa} {s f off:Nat} (h:zPu P s f=ay off):∃fs fd i,P.underlying s=ay (.struct fs)/\fs[f]? =ay fd/\P.info? fd.type=ay i/\i.size≠0/\fd.offset=off:=by
 unfold zPu at h;split at h<;>first|(cases h;done)|skip
 rename_i fs hfs;split at h<;>first|(cases h;done)|skip
 rename_i fd hfd;split at h<;>first|(cases h;done)|skip
 rename_i i hi;cases hb:cu i.size 0
 ·rw[hb]at h;simp only[cond_false,cr]at h;exact⟨fs,fd,i,hfs,hfd,hi,(λe=>by rw[e]at hb;cases hb),h⟩
 ·rw[hb]at h;cases h
def zNu {P:aa} {s f ft off:Nat} (h:zIh P s f=ay (ft,off)):∃fs fd,P.underlying s=ay (.struct fs)/\fs[f]? =ay fd/\fd.type=ft/\fd.offset=off:=by
 unfold zIh at h;split at h<;>first|(cases h;done)|skip
 rename_i fs hfs;split at h<;>first|(cases h;done)|skip
 rename_i fd hfd;simp only[cr,df]at h;exact⟨fs,fd,hfs,hfd,h.1,h.2⟩
def zEf {P:aa} {t n e sz:Nat} (h:zKt P t=ay (n,e,sz)):∃i,P.underlying t=ay (.array n e)/\P.info? e=ay i/\i.size=sz:=by
 unfold zKt at h;split at h<;>first|(cases h;done)|skip
 rename_i n' e' ht;split at h<;>first|(cases h;done)|skip
 rename_i i hi;simp only[cr,df]at h;obtain⟨rfl,rfl,rfl⟩:=h;exact⟨i,ht,hi,rfl⟩
def zSy {α:Type}:∀{l:List (Option α)} {L:List α},yHx l=ay L->l=L.map ay
 |[],L,h=>by simp only[yHx,cr]at h;subst h;rfl
 |none::l,L,h=>by cases h
 |some a::l,L,h=>by
  simp only[yHx]at h;split at h<;>first|(cases h;done)|skip
  rename_i r hr;simp only[cr]at h;subst h;rw[y5p,<- zSy hr]
def zMn {P:aa} (w:ac):∀{fs:List Field} {L:List (Nat×Nat)},
 (fs.map λfd=>match P.info? fd.type with|some i=>ay (fd.offset,i.size)|none=>az)=L.map ay->
 ((fs.mapM λf=>(do pure (f.offset,<- Go.sizeOf f.type):Sem (Nat×Nat))):Sem (List (Nat×Nat))).run P w= .ok L w
 |[],L,h=>by
  cases L with
  |nil=>rfl
  |cons a l=>cases h
 |fd::fs,L,h=>by
  cases L with
  |nil=>cases h
  |cons a l=>
   simp only[y5p,List.cons.injEq]at h;obtain⟨h1,h2⟩:=h;split at h1<;>first|(cases h1;done)|skip
   rename_i i hi;simp only[cr]at h1;subst h1;have ih:=zMn w h2;simp only[db,bind,pure,run_bind,be,bc,run_sizeOf hi]at ih ⊢;rw[ih]
def jM {ρ:Env} {o:aj} {c:Call} {b:Builtin} (ho:o.op= .call c) (hc:c.callee= .builtin b):
 af (ev ρ) o=builtin b c.argTypes o.type (c.args.map λ| .const _=>bo|_=>bu) (c.args.map (ev ρ)):=by
 have hexec:af (ev ρ) o=(ar (ev ρ) c o.type).bind λd=>invoke d.target d.args:=by
  simp only[af,ho];rfl
 rw[hexec];unfold ar;rw[hc];rfl
end Cv
