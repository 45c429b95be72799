/- Texts of ours. No condition. -/
import Derived.Deep.LoopGhost
import Derived.KernelRfl
import Derived.Lib.Strings
import Derived.Orders
import Derived.WalkKit
set_option linter.all false
open Go renaming Program->aa,Value->ab,World->ac,TypeId->ae,execOp->af,IntKind->ag,Oper->aj,eqGuard->ak,Addr->am,undef->ao,Operand->ap,MapEntry->aq,resolve->ar,callFunc->au,FuncId->av,wp_mono->aw,convert->ax
open Option renaming some->ay,none->az,map_eq_some_iff->ba
open Go.Sem renaming run->bc,bind->be,pure->bg
open Bool renaming true->bo,false->bp
open Go.Builtin renaming firstCells->br,zeroCells->bt,append_->bu,len_->bv,copy_->bw
open Go.Region renaming ready->bz,binds->cd,wanted->ce
open Go.Instr renaming sliceBounds->cf,lookup->cg,typeAssert->ci
open Option.some renaming injEq->cj,inj->cm
open Nat renaming beq->cn,blt->co,ble->cp
open Int renaming toNat->cq
open BitVec renaming ofInt->cr
open List renaming range->ct,mapM_cons->cu
open Array renaming replicate->cw,ext'->cx
open Go.IntKind renaming i64->cy
open Prod.mk renaming injEq->cz
def y0x:=@List.length_append
def y0y:=@if_neg
def y0z:=@List.length_map
def y1a:=@if_pos
def y1b:=@Nat.eq_of_beq_eq_true
def y1c:=@List.getElem?_eq_some_iff
def y1d:=@List.length_cons
def y1e:=@List.append_assoc
def y1f:=@List.mem_cons_self
def y1g:=@List.mem_cons_of_mem
def y1h:=@List.getD_eq_getElem?_getD
def y1i:=@List.map_append
def y1j:=@List.mem_of_getElem?
def y1k:=@List.take_of_length_le
def y1l:=@Bool.and_eq_true
def y1m:=@List.map_cons
def y1n:=@List.perm_middle
def y1o:=@Int.toNat_natCast
def y1p:=@Bool.false_eq_true
def y1q:=@List.length_take
def y1r:=@List.mem_cons
def y1s:=@decide_eq_false
def y1t:=@List.append_nil
def y1u:=@Nat.le_refl
def y1v:=@decide_eq_true
def y1w:=@List.length_drop
def y1x:=@Nat.zero_add
def y1y:=@of_decide_eq_true
def y1z:=@List.eq_nil_of_length_eq_zero
def y2a:=@Nat.zero_le
def y2b:=@List.take_append_of_le_length
def y2c:=@List.mem_map_of_mem
def y2d:=@List.length_set
def y2e:=@List.take_add_one
def y2f:=@List.mem_append
def y2g:=@List.map_congr_left
def y2h:=@List.getElem?_eq_getElem
def y2i:=@List.getElem?_eq_none
def y2j:=@List.take_succ_cons
def y2k:=@Nat.mul_le_mul_right
def y2l:=@List.mem_singleton
def y2m:=@List.mem_map
def y2n:=@List.getElem?_map
def y2o:=@List.sum_cons
def y2p:=@List.cons_append
def y2q:=@List.flatMap_cons
def y2r:=@List.length_nil
def y2s:=@Array.getD_eq_getD_getElem?
def y2t:=@List.mem_append_left
def y2u:=@List.flatMap_append
def y2v:=@decide_eq_true_eq
def y2w:=@List.getElem?_cons_succ
def y2x:=@List.mem_filter
def y2y:=@List.getElem?_toArray
def y2z:=@List.length_singleton
def y3a:=@List.mem_append_right
def y3b:=@Option.map_some
def y3c:=@List.getElem?_append_right
def y3d:=@List.perm_append_comm
def y3e:=@Nat.le_of_ble_eq_true
def y3f:=@List.drop_eq_getElem_cons
def y3g:=@List.nodup_append
def y3h:=@List.getElem?_cons_zero
def y3i:=@Option.getD_some
def y3j:=@List.map_map
def y3k:=@List.nil_append
def y3l:=@List.nodup_cons
def y3m:=@List.mem_iff_getElem?
def y3n:=@List.drop_append_of_le_length
def y3o:=@List.flatten_cons
def y3p:=@List.getElem?_drop
def y3q:=@Nat.lt_or_ge
def y3r:=@List.getElem?_append_left
def y3s:=@List.take_append_drop
def y3t:=@List.mem_flatMap
def y3u:=@Nat.le_trans
def y3v:=@List.length_replicate
def y3w:=@List.take_length
def y3x:=@Array.getElem?_eq_none
def y3y:=@Nat.add_mul
def y3z:=@Option.toList_some
def y4a:=@Nat.blt_eq
def y4b:=@Bool.true_and
def y4c:=@Nat.succ_mul
def y4d:=@List.set_eq_take_append_cons_drop
def y4e:=@List.findIdx?_eq_some_iff_getElem
def y4f:=@List.mem_range
def y4g:=@Bool.false_and
def y4h:=@List.all_eq_true
def y4i:=@List.length_filter_le
def y4j:=@List.drop_eq_nil_of_le
def y4k:=@Bool.not_eq_true'
def y4l:=@List.getElem?_set
def y4m:=@Nat.add_assoc
def y4n:=@List.pairwise_cons
def y4o:=@List.mem_of_mem_drop
def y4p:=@Array.getElem?_setIfInBounds_self_of_lt
def y4q:=@List.map_nil
def y4r:=@List.drop_zero
def y4s:=@Int.le_refl
def y4t:=@Array.length_toList
def y4u:=@Nat.min_eq_left
def y4v:=@List.getElem?_take
def y4w:=@List.prefix_append
def y4x:=@List.set_set
def y4y:=@List.filter_append
def y4z:=@Array.getElem?_setIfInBounds
def y5a:=@List.drop_drop
def y5b:=@List.size_toArray
def y5c:=@List.ext_getElem?
def y5d:=@List.foldl_cons
def y5e:=@List.replicate_succ
def y5f:=@List.getElem?_range
def y5g:=@List.map_take
def y5h:=@List.perm_append_singleton
def y5i:=@List.prefix_refl
def y5j:=@of_decide_eq_false
def y5k:=@Array.getElem?_eq_getElem
def y5l:=@List.findIdx?_eq_none_iff
def y5m:=@List.getElem?_zip_eq_some
def y5n:=@Array.getElem?_setIfInBounds_ne
def y5o:=@Nat.add_zero
def y5p:=@List.mem_of_mem_take
def y5q:=@List.foldl_append
def y5r:=@List.filter_cons_of_pos
def y5s:=@List.filter_cons_of_neg
def y5t:=@List.flatten_append
def y5u:=@List.length_flatMap
def y5v:=@List.drop_append
def y5w:=@List.take_zero
def y5x:=@Bool.and_false
def y5y:=@List.flatMap_nil
def y5z:=@Nat.lt_succ_self
def y6a:=@List.mem_filterMap
def y6b:=@Option.map_none
def y6c:=@List.modify_succ_cons
def y6d:=@List.map_drop
def y6e:=@Array.toArray_toList
def y6f:=@Bool.not_false
def y6g:=@Nat.sub_self
def y6h:=@Array.getElem?_replicate
def y6i:=@Option.isSome_iff_exists
def y6j:=@List.eq_of_mem_replicate
def y6k:=@List.filter_eq_self
def y6l:=@List.filter_sublist
def y6m:=@List.takeWhile_append_dropWhile
def y6n:=@Array.ext_getElem?
def y6o:=@List.set_cons_zero
def y6p:=@List.set_cons_succ
def y6q:=@Bool.eq_iff_iff
def y6r:=@List.range_succ
def y6s:=@List.find?_cons
def y6t:=@List.sum_append
def y6u:=@List.take_left
namespace Cv
open Go
@[reducible] def Env:=Nat->ab
def put (ρ:Env):Option Nat->ab->Env
 |none,_=>ρ
 |some d,v=>λi=>bif cn i d then v else ρ i
def ev (ρ:Env):ap->ab
 | .tmp t=>ρ t
 | .const v=>v
 | .global g=> .pointer (ay ⟨g,0,az⟩)
 | .func f=> .func (.func f) #[] #[]
def vP {α:Type} (P:aa):Sem α->Option α
 | .pure a=>ay a
 | .program k=>vP P (k P)
 | .mark _ k=>vP P k
 |_=>az
def jR {α:Type} {P:aa}:∀{s:Sem α} {a:α},vP P s=ay a->∀w,s.run P w= .ok a w:=by
 intro s
 induction s with
 |pure a=>intro b h w;simp only[vP,cj]at h;subst h;rfl
 |program k ih=>intro b h w;simp only[vP]at h;exact ih _ h w
 |mark m k ih=>intro b h w;simp only[vP]at h;exact ih h w
 |_=>intro b h w;simp[vP]at h
def run_bind {α β:Type} (P:aa) (s:Sem α) (f:α->Sem β) (w:ac):(s.bind f).run P w=match s.run P w with| .ok a w'=>(f a).run P w'| .halt h w'=> .halt h w':=by
 induction s generalizing w with
 |pure a=>rfl
 |halt h=>rfl
 |load m a k ih=>simp only[be,bc];split<;>first|exact ih _ _|(split<;>first|exact ih _ _|rfl)
 |store m a v k ih=>
  cases v<;>simp only[be,bc]<;>first|rfl|(split<;>first|(split<;>first|exact ih _|rfl))
 |new o k ih=>exact ih _ _
 |shape r k ih=>exact ih _ _
 |freeze a n k ih=>exact ih _
 |frozen a k ih=>exact ih _ _
 |getObj r k ih=>simp only[be,bc];split<;>first|rfl|exact ih _ _
 |setObj r o k ih=>simp only[be,bc];split<;>first|rfl|exact ih _
 |choose q k ih=>simp only[be,bc];split<;>exact ih _ _
 |sys c k ih=>exact ih _ _
 |program k ih=>exact ih _ _
 |mark m k ih=>exact ih _
inductive Sh where
 |int (k:ag)|bool|str|ptr|sl|map|any
def yAp:ab->Sh
 | .int k _=> .int k
 | .bool _=> .bool
 | .string _=> .str
 | .pointer _=> .ptr
 | .slice _ _ _=> .sl
 | .map _=> .map
 |_=> .any
def exC:Sh->(ab->Prop)->Prop
 | .int k,K=>∃n:Int,K (.int k n)
 | .bool,K=>∃b:Bool,K (.bool b)
 | .str,K=>∃s:ByteArray,K (.string s)
 | .ptr,K=>∃a:Option am,K (.pointer a)
 | .sl,K=>∃(a:Option am) (n c:Nat),K (.slice a n c)
 | .map,K=>∃r:Option Nat,K (.map r)
 | .any,K=>∃v:ab,K v
def jA {s:Sh} {K:ab->Prop} (h:exC s K):∃v,K v:=by
 cases s<;>simp only[exC]at h<;>first|(obtain⟨n,h⟩:=h;exact⟨_,h⟩)|(obtain⟨a,n,c,h⟩:=h;exact⟨_,h⟩)
def exL:List ab->(List ab->Prop)->Prop
 |[],K=>K []
 |z::zs,K=>exC (yAp z) λv=>exL zs λvs=>K (v::vs)
def z3z:∀{zs:List ab} {K:List ab->Prop},exL zs K->∃vs,K vs
 |[],_,h=>⟨_,h⟩
 |_::_,_,h=>let⟨_,h1⟩:=jA h;let⟨_,h2⟩:=z3z h1;⟨_,h2⟩
structure Raw where
 i:Nat->Int
 b:Nat->Bool
 s:Nat->ByteArray
 p:Nat->Option am
 a:Nat->Option am
 n:Nat->Nat
 k:Nat->Nat
 m:Nat->Option Nat
 v:Nat->ab
def Raw.cell (r:Raw) (j:Nat):ab->ab
 | .int k _=> .int k (r.i j)
 | .bool _=> .bool (r.b j)
 | .string _=> .string (r.s j)
 | .pointer _=> .pointer (r.p j)
 | .slice _ _ _=> .slice (r.a j) (r.n j) (r.k j)
 | .map _=> .map (r.m j)
 |_=>r.v j
def yVi (r:Raw):List ab->Nat->List ab
 |[],_=>[]
 |z::zs,j=>r.cell j z::yVi r zs (j+1)
def yYw (z:ab) (r:Raw):ab:=
 match z with
 | .agg cs=> .agg (yVi r cs.toList 0).toArray
 |z=>z
def exV:ab->(ab->Prop)->Prop
 | .agg cs,K=>bif cp cs.size 9 then exL cs.toList λvs=>K (.agg vs.toArray)else ∃r:Raw,K (yYw (.agg cs) r)
 |z,K=>exC (yAp z) K
def jZ {z:ab} {K:ab->Prop} (h:exV z K):∃v,K v:=by
 cases z<;>simp only[exV]at h<;>first
  |exact jA h
  |(revert h;cases cp _ 9<;>intro h
    ·obtain⟨r,h⟩:=h;exact⟨_,h⟩
    ·obtain⟨_,h⟩:=z3z h;exact⟨_,h⟩)
def ySj (P:aa) (t:ae):ab:=
 match P.info? t with
 |some i=>i.zero.getD ao
 |none=>ao
def exT (P:aa) (t:ae) (K:ab->Prop):Prop:=exV (ySj P t) K
def yQj (P:aa):List ae->(List ab->Prop)->Prop
 |[],K=>K []
 |t::ts,K=>exT P t λv=>yQj P ts λvs=>K (v::vs)
def zVi {P:aa}:∀{ts:List ae} {K:List ab->Prop},yQj P ts K->∃vs,K vs
 |[],_,h=>⟨_,h⟩
 |_::_,_,h=>let⟨_,h1⟩:=jZ h;let⟨_,h2⟩:=zVi h1;⟨_,h2⟩
def exR (P:aa) (t:ae) (K:ab->Prop):Prop:=
 match P.underlying t with
 |some (.tuple ts)=>yQj P ts.toList λvs=>K (.tuple vs.toArray)
 |_=>exT P t K
def z5r {P:aa} {t:ae} {K:ab->Prop} (h:exR P t K):∃v,K v:=by
 unfold exR at h;split at h
 ·obtain⟨_,h⟩:=zVi h;exact⟨_,h⟩
 ·exact jZ h
def v7 (P:aa) (t:ae):Option Nat:=
 match P.underlying t with
 |some (.slice e)=>(P.info? e).map λ(x:TypeInfo)=>x.size
 |_=>az
def cA (P:aa) (t:ae):Option (Nat×Nat):=
 match P.underlying t with
 |some (.array n e)=>(P.info? e).map λ(x:TypeInfo)=>(n,x.size)
 |_=>az
def zVa (p:Option am) (K:am->Prop):Prop:=
 match p with
 |some a=>K a
 |none=>False
def ySt (p:Option am) (n:Nat) (i:Int) (K:am->Prop):Prop:=
 match p with
 |some a=>(0<=i/\i<n)/\K a
 |none=>False
def yTv (s:ByteArray) (i:Int) (K:UInt8->Prop):Prop:=∃b:UInt8,(0<=i/\s[i.toNat]?=ay b)/\K b
def slN (p:Option am) (n c:Nat) (lo hi:Option Int) (sz:Nat) (K:Option am->Nat->Nat->Prop):Prop:=
 match lo,hi with
 |none,az=>(n<=c)/\K p n c
 |some l,az=>(0<=l/\l<=n/\n<=c)/\K (if c=l.toNat then p else p.map (·.add (l.toNat*sz))) (n-l.toNat) (c-l.toNat)
 |none,ay h=>(0<=h/\h<=c)/\K p h.toNat c
 |some l,ay h=>(0<=l/\l<=h/\h<=c)/\K (if c=l.toNat then p else p.map (·.add (l.toNat*sz))) (h.toNat-l.toNat) (c-l.toNat)
def yTy (p:Option am) (c:Nat) (l h m:Int) (sz:Nat) (K:Option am->Nat->Nat->Prop):Prop:=
 (0<=l/\l<=h/\h<=m/\m<=c)/\K (if m.toNat=l.toNat then p else p.map (·.add (l.toNat*sz))) (h.toNat-l.toNat) (m.toNat-l.toNat)
def yMn (s:ByteArray) (lo hi:Option Int) (K:ByteArray->Prop):Prop:=
 match lo,hi with
 |none,az=>K s
 |some l,az=>(0<=l/\l<=s.size)/\K (s.extract l.toNat s.size)
 |none,ay h=>(0<=h/\h<=s.size)/\K (s.extract 0 h.toNat)
 |some l,ay h=>(0<=l/\l<=h/\h<=s.size)/\K (s.extract l.toNat h.toNat)
def bnd (ρ:Env):Option ap->Option (Option Int)
 |none=>ay az
 |some x=>match ev ρ x with
  | .int _ n=>ay (ay n)
  |_=>az
def zIk (l h:Option (Option Int)) (K:Option Int->Option Int->Prop):Prop:=
 match l,h with
 |some l,ay h=>K l h
 |_,_=>False
def gY (P:aa) (t:ae) (x:ab):Option Bool:=
 match P.underlying t,x with
 |some (.pointer _),.pointer p=>ay p.isNone
 |some (.slice _),.slice p _ _=>ay p.isNone
 |some (.map _ _),.map r=>ay r.isNone
 |_,_=>az
def y0u:ab->Bool
 | .pointer az=>bo
 | .slice az _ _=>bo
 | .map az=>bo
 |_=>bp
def zLx:ab->Bool
 | .pointer az=>bo
 |_=>bp
def zIh:ab->Bool
 | .slice az _ _=>bo
 |_=>bp
def yJc:ab->Bool
 | .map az=>bo
 |_=>bp
def zPo (P:aa) (s:Sem Next) (K:ab->Prop):Prop:=
 match vP P s with
 |some (.value v)=>K v
 |_=>False
def yNg (P:aa) (neg:Bool) (t:ae) (x y:ab) (K:Bool->Prop):Prop:=
 ∃b:Bool,vP P (Op.equal t x y)=ay b/\vP P (ak (if neg then .neq else .eql) t (.tmp 0) (.tmp 0) x y)=ay ()/\
  (match y with| .agg _=>bo|_=>bp)=bo/\K (if neg then !b else b)
def z2q (o:Option Bool) (K:Bool->Prop):Prop:=
 match o with
 |some r=>K r
 |none=>False
def nR {o:Option Bool} {K:Bool->Prop} (h:z2q o K):∃r,o=ay r/\K r:=by
 cases o with
 |none=>exact h.elim
 |some r=>exact⟨r,rfl,h⟩
def yXu (k k':ag) (b:Int) (A:Prop):Prop:=k=k'/\b≠0/\A
def shN (b:Int) (A:Prop):Prop:=0<=b/\A
def y0f (a b:ByteArray) (A:Prop):Prop:=(((a.size+b.size:Nat):Int)<=cy.max)/\A
def eqK (k k':ag) (A:Prop):Prop:=
 match k,k' with
 | .i8,.i8=>A
 | .i16,.i16=>A
 | .i32,.i32=>A
 | .i64,.i64=>A
 | .u8,.u8=>A
 | .u16,.u16=>A
 | .u32,.u32=>A
 | .u64,.u64=>A
 |_,_=>False
def zJa {k k':ag} {A:Prop} (h:eqK k k' A):k=k'/\A:=by
 cases k<;>cases k'<;>first|exact⟨rfl,h⟩|exact h.elim
def zXa (k:ag) (a b:Int):Int:=k.wrap (a*2 ^ (min b.toNat k.bits))
def cE (k:ag) (a b:Int):Int:=a.fdiv (2 ^ (min b.toNat k.bits))
def zBw (k:ag) (a b:Int):Int:=k.wrap ((cr k.bits a &&& cr k.bits b).toNat:Int)
def iOr (k:ag) (a b:Int):Int:=k.wrap ((cr k.bits a|||BitVec.ofInt k.bits b).toNat:Int)
def zAb (k:ag) (a b:Int):Int:=k.wrap ((cr k.bits a ^^^ cr k.bits b).toNat:Int)
def zDu (k:ag) (a b:Int):Int:=k.wrap ((cr k.bits a &&& ~~~ cr k.bits b).toNat:Int)
def fP (P:aa) (o:aj) (ρ:Env) (K:ab->Prop):Prop:=
 match o.op with
 | .move x=>K (ev ρ x)
 | .assign x=>K (ev ρ x)
 | .pick c a b=>
   match ev ρ c with
   | .bool t=>K (bif t then ev ρ a else ev ρ b)
   |_=>False
 | .nilCheck x=>
   match ev ρ x with
   | .pointer p=>zVa p λa=>K (.pointer (ay a))
   |_=>zPo P (af (ev ρ) o) K
 | .indexAddr t x i=>
   match ev ρ x,ev ρ i with
   | .slice p n _,.int _ i=>match v7 P t with
     |some sz=>ySt p n i λa=>K (.pointer (ay (a.add (i.toNat*sz))))
     |none=>False
   | .pointer p,.int _ i=>match cA P t with
     |some (len,sz)=>ySt p len i λa=>K (.pointer (ay (a.add (i.toNat*sz))))
     |none=>False
   |_,_=>False
 | .index t x i=>
   match ev ρ x,ev ρ i with
   | .string s,.int _ i=>match P.underlying t with
     |some .string=>yTv s i λb=>K (.int .u8 b.toNat)
     |_=>False
   |x,j=>match i with
    | .const _=>zPo P (af (ev ρ) o) K
    |_=>exT P o.type λv=>vP P (Instr.index t x j)=ay v/\K v
 | .panic _=>False
 | .typeAssert x xT asserted ok=>
   match ok with
   |true=>exT P asserted λv=>exC .bool λb=>vP P (ci (ev ρ x) xT asserted bo)=ay (.tuple #[v,b])/\K (.tuple #[v,b])
   |false=>exT P asserted λv=>vP P (ci (ev ρ x) xT asserted bp)=ay v/\K v
 | .slice t x lo hi mx=>
   match ev ρ x,mx with
   | .slice p _ c,ay m=>match v7 P t,bnd ρ lo,bnd ρ hi,ev ρ m with
     |some sz,ay (ay l),ay (ay h),.int _ m=>yTy p c l h m sz λp n c=>K (.slice p n c)
     |_,_,_,_=>False
   | .slice p n c,az=>match v7 P t with
     |some sz=>zIk (bnd ρ lo) (bnd ρ hi) λl h=>slN p n c l h sz λp n c=>K (.slice p n c)
     |none=>False
   | .string s,az=>match P.underlying t with
     |some .string=>zIk (bnd ρ lo) (bnd ρ hi) λl h=>yMn s l h λs=>K (.string s)
     |_=>False
   | .pointer p,az=>match cA P t with
     |some (n,sz)=>zVa p λa=>zIk (bnd ρ lo) (bnd ρ hi) λl h=>slN (ay a) n n l h sz λp n c=>K (.slice p n c)
     |none=>False
   |_,_=>False
 | .binOp op t x y _=>
   match op,ev ρ x,ev ρ y with
   | .quo,.int k a,.int k' b=>yXu k k' b (K (.int k (k.wrap (a.tdiv b))))
   | .rem,.int k a,.int k' b=>yXu k k' b (K (.int k (a.tmod b)))
   | .shl,.int k a,.int _ b=>shN b (K (.int k (zXa k a b)))
   | .shr,.int k a,.int _ b=>shN b (K (.int k (cE k a b)))
   | .and,.int k a,.int k' b=>eqK k k' (K (.int k (zBw k a b)))
   | .or,.int k a,.int k' b=>eqK k k' (K (.int k (iOr k a b)))
   | .xor,.int k a,.int k' b=>eqK k k' (K (.int k (zAb k a b)))
   | .andNot,.int k a,.int k' b=>eqK k k' (K (.int k (zDu k a b)))
   | .add,.string a,.string b=>y0f a b (K (.string (a++b)))
   | .eql,.pointer p,b=>bif zLx b then(z2q (gY P t (.pointer p)) λr=>K (.bool r))else False
   | .neq,.pointer p,b=>bif zLx b then(z2q (gY P t (.pointer p)) λr=>K (.bool !r))else False
   | .eql,.slice p n c,b=>bif zIh b then(z2q (gY P t (.slice p n c)) λr=>K (.bool r))else False
   | .neq,.slice p n c,b=>bif zIh b then(z2q (gY P t (.slice p n c)) λr=>K (.bool !r))else False
   | .eql,.map r,b=>bif yJc b then(z2q (gY P t (.map r)) λr=>K (.bool r))else False
   | .neq,.map r,b=>bif yJc b then(z2q (gY P t (.map r)) λr=>K (.bool !r))else False
   | .eql,.agg a,b=>yNg P bp t (.agg a) b λr=>K (.bool r)
   | .neq,.agg a,b=>yNg P bo t (.agg a) b λr=>K (.bool r)
   |_,_,_=>zPo P (af (ev ρ) o) K
 |_=>zPo P (af (ev ρ) o) K
def zMf (P:aa) (s:Sem Next) (v:ab):Prop:=∀w,s.run P w=.ok (.value v) w
def dA {P:aa} {s:Sem Next} {K:ab->Prop} (h:zPo P s K):∃v,K v/\zMf P s v:=by
 unfold zPo at h;split at h
 ·rename_i v hv;exact⟨v,h,jR hv⟩
 ·exact h.elim
def Addr.add_zero (a:am):a.add 0=a:=by simp[Addr.add]
def rS (p:Option am):p.map (·.add 0)=p:=by cases p<;>simp[Addr.add_zero]
def z8 {P:aa} {s:Sem ab} {v:ab} (h:∀w,s.run P w= .ok v w):zMf P (do pure (Next.value (<- s))) v:=by
 intro w;show(s.bind λa=> .pure (Next.value a)).run P w=_;rw[run_bind,h w];rfl
def sL {P:aa} {t:ae} {sz:Nat} (h:v7 P t=ay sz):∃e i,P.underlying t=ay (.slice e)/\P.info? e=ay i/\i.size=sz:=by
 unfold v7 at h;split at h
 ·rename_i e he;cases hi:P.info? e with
  |none=>simp[hi]at h
  |some i=>simp[hi]at h;exact⟨e,i,he,hi,h⟩
 ·cases h
def zEe {P:aa} {t:ae} {n sz:Nat} (h:cA P t=ay (n,sz)):∃e i,P.underlying t=ay (.array n e)/\P.info? e=ay i/\i.size=sz:=by
 unfold cA at h;split at h
 ·rename_i m e he;cases hi:P.info? e with
  |none=>simp[hi]at h
  |some i=>simp[hi]at h;obtain⟨rfl,h⟩:=h;exact⟨e,i,he,hi,h⟩
 ·cases h
def run_underlying {P:aa} {t:ae} {d:TypeDesc} (h:P.underlying t=ay d) (w:ac):(underlying t).run P w= .ok d w:=by
 show ((Sem.program Sem.pure).bind λp => match p.underlying t with | some d => Sem.pure d | none => stuck "no such type").run P w = _;simp only[be,bc,h]
def run_sizeOf {P:aa} {t:ae} {i:TypeInfo} (h:P.info? t=ay i) (w:ac):(Go.sizeOf t).run P w= .ok i.size w:=by
 have hti:(typeInfo t).run P w= .ok i w:=by
  unfold typeInfo;show((Sem.program bg).bind _).run P w=_;simp only[be,bc,h];rfl
 show((typeInfo t).bind λi=>bg i.size).run P w=_;rw[run_bind,hti];rfl
def kL {P:aa} {t:ae} {sz n c:Nat} {a:am} {k:ag} {i:Int} (h:v7 P t=ay sz) (hi:0<=i/\i<n) (w:ac):
 (Instr.indexAt t (.slice (ay a) n c) (.int k i)).run P w= .ok (.pointer (ay (a.add (i.toNat*sz)))) w:=by
 obtain⟨e,ti,h1,h2,rfl⟩:=sL h;simp only[Instr.indexAt,asIntOf,bind,pure,run_bind,be,bc,run_underlying h1,y1a hi,run_sizeOf h2]
def gW {P:aa} {t:ae} {sz n:Nat} {a:am} {k:ag} {i:Int} (h:cA P t=ay (n,sz)) (hi:0<=i/\i<n) (w:ac):
 (Instr.indexAt t (.pointer (ay a)) (.int k i)).run P w= .ok (.pointer (ay (a.add (i.toNat*sz)))) w:=by
 obtain⟨e,ti,h1,h2,rfl⟩:=zEe h;simp only[Instr.indexAt,asIntOf,Instr.sureAddr,bind,pure,run_bind,be,bc,run_underlying h1,y1a hi,run_sizeOf h2]
def qV {P:aa} {k:ag} {i:Int} {y:Nat} {code:BoundsCode} (h:0<=i/\i<=y) (w:ac):(Instr.sliceBound (.int k i) y code).run P w= .ok i.toNat w:=by
 simp only[Instr.sliceBound,asIntOf,bind,pure,be,bc,y1a h]
def zDb {ρ:Env} {x:Option ap} {r:Option Int} (h:bnd ρ x=ay r):(x=az/\r=az)\/∃y k n,x=ay y/\ev ρ y= .int k n/\r=ay n:=by
 unfold bnd at h;split at h
 ·left;exact⟨rfl,by simpa using h.symm⟩
 ·rename_i y;right;split at h
  ·rename_i k n hv;exact⟨y,k,n,rfl,hv,by simpa using h.symm⟩
  ·cases h
def nP {l h:Option (Option Int)} {K:Option Int->Option Int->Prop} (hh:zIk l h K):∃a b,l=ay a/\h=ay b/\K a b:=by
 unfold zIk at hh;split at hh
 ·rename_i a b;exact⟨a,b,rfl,rfl,hh⟩
 ·exact hh.elim
def zAp {P:aa} {ρ:Env} {lo hi:Option ap} {l h:Option Int} (isSlice:Bool) {len cap:Nat} (h1:bnd ρ lo=ay l) (h2:bnd ρ hi=ay h)
 (hlen:h=az->len<=cap) (hh:∀x,h=ay x->0<=x/\x<=cap) (hl:∀x,l=ay x->0<=x/\x<=((h.map cq).getD len:Nat)) (w:ac):
 (cf isSlice len cap (lo.map (ev ρ)) (hi.map (ev ρ)) az).run P w= .ok ((l.map cq).getD 0,(h.map cq).getD len,cap) w:=by
 rcases zDb h1 with⟨rfl,rfl⟩|⟨x,k,n,rfl,hx,rfl⟩<;>rcases zDb h2 with⟨rfl,rfl⟩|⟨y,k',m,rfl,hy,rfl⟩
 ·simp only[cf,y6b,bind,pure,be,bc,run_bind,Option.getD_none]
 ·have:=hh m rfl;simp only[cf,y6b,y3b,hy,bind,pure,be,bc,run_bind,Option.getD_none,qV this,y3i]
 ·have h3:=hl n rfl;simp only[y6b,Option.getD_none]at h3;simp only[cf,y6b,y3b,hx,bind,pure,be,bc,run_bind,Option.getD_none,qV h3,y3i]
 ·have h3:=hl n rfl;have h4:=hh m rfl;simp only[y3b,y3i]at h3;simp only[cf,y3b,hx,hy,bind,pure,be,bc,run_bind,qV h3,qV h4,y3i]
def z3a {p:Option am} {n c:Nat} {l h:Option Int} {sz:Nat} {K:Option am->Nat->Nat->Prop} (hk:slN p n c l h sz K):
 (h=az->n<=c)/\(∀x,h=ay x->0<=x/\x<=c)/\(∀x,l=ay x->0<=x/\x<=((h.map cq).getD n:Nat))/\
 K (if c=(l.map cq).getD 0 then p else p.map (·.add ((l.map cq).getD 0*sz))) ((h.map cq).getD n-(l.map cq).getD 0) (c-(l.map cq).getD 0):=by
 unfold slN at hk;split at hk
 ·refine⟨λ_=>hk.1,by simp,by simp,?_⟩;simpa[rS]using hk.2
 ·refine⟨λ_=>hk.1.2.2,by simp,?_,by simpa using hk.2⟩;intro x hx;cases hx;simp;omega
 ·refine⟨by simp,?_,by simp,by simpa[rS]using hk.2⟩;intro x hx;cases hx;omega
 ·refine⟨by simp,?_,?_,by simpa using hk.2⟩
  ·intro x hx;cases hx;omega
  ·intro x hx;cases hx;simp;omega
def z2k {P:aa} {ρ:Env} {t:ae} {x:ap} {lo hi:Option ap} {o:aj} {K:ab->Prop} (ho:o.op= .slice t x lo hi az)
 (h:fP P o ρ K):∃v,K v/\zMf P (af (ev ρ) o) v:=by
 simp only[fP,ho]at h;split at h
 ·rename_i heq;cases heq
 ·rename_i p n c hx _;split at h
  ·rename_i sz hsz;obtain⟨l,u,h1,h2,h3⟩:=nP h;obtain⟨q1,q2,q3,q4⟩:=z3a h3;obtain⟨e,ti,e1,e2,rfl⟩:=sL hsz;refine⟨_,q4,?_⟩;simp only[af,ho];refine z8 λw=> ?_
   simp only[Instr.sliceAt,Instr.slice,hx,bind,pure,be,bc,run_bind,run_underlying e1,y6b,zAp bo h1 h2 q1 q2 q3,run_sizeOf e2]
  ·exact h.elim
 ·rename_i s hx _;split at h
  ·rename_i ht;obtain⟨l,u,h1,h2,h3⟩:=nP h;have q:(∀x,u=ay x->0<=x/\x<=s.size)/\(∀x,l=ay x->0<=x/\x<=((u.map cq).getD s.size:Nat))/\K (.string (s.extract ((l.map cq).getD 0) ((u.map cq).getD s.size))):=by
    unfold yMn at h3;split at h3
    ·refine⟨by simp,by simp,?_⟩;have:s.extract 0 s.size=s:=by simp
     simpa[this]using h3
    ·refine⟨by simp,?_,by simpa using h3.2⟩;intro x hx;cases hx;simp;omega
    ·refine⟨?_,by simp,by simpa using h3.2⟩;intro x hx;cases hx;omega
    ·refine⟨?_,?_,by simpa using h3.2⟩
     ·intro x hx;cases hx;omega
     ·intro x hx;cases hx;simp;omega
   obtain⟨q2,q3,q4⟩:=q;refine⟨_,q4,?_⟩;simp only[af,ho];refine z8 λw=> ?_
   simp only[Instr.sliceAt,Instr.slice,hx,bind,pure,be,bc,run_bind,run_underlying ht,y6b,Option.isSome_none,y1p,if_false,zAp bp h1 h2 (λ_=>y1u _) q2 q3]
  ·exact h.elim
 ·rename_i p hx _;split at h
  ·rename_i n sz hsz;unfold zVa at h;split at h
   ·rename_i a;obtain⟨l,u,h1,h2,h3⟩:=nP h;obtain⟨q1,q2,q3,q4⟩:=z3a h3;obtain⟨e,ti,e1,e2,rfl⟩:=zEe hsz;refine⟨_,q4,?_⟩;simp only[af,ho];refine z8 λw=> ?_
    simp only[Instr.sliceAt,Instr.sureAddr,hx,bind,pure,be,bc,run_bind,run_underlying e1,y6b,zAp bp h1 h2 q1 q2 q3,run_sizeOf e2];split<;>simp
   ·exact h.elim
  ·exact h.elim
 ·exact h.elim
def aF (t:ae) (x y:ab):Op.equal t x y=Op.equalIn (9999+1) t x y:=rfl
def fZ {P:aa} {t:ae} {p:Option am} {r:Bool} (h:gY P t (.pointer p)=ay r) (w:ac):(Op.equal t (.pointer p) (.pointer az)).run P w= .ok r w:=by
 have hu:r=p.isNone/\∃d,P.underlying t=ay d/\(match d with| .pointer _=>True|_=>False):=by
  unfold gY at h;cases hd:P.underlying t with
  |none=>simp[hd]at h
  |some d=>cases d<;>simp[hd]at h;exact⟨h.symm,_,rfl,trivial⟩
 obtain⟨rfl,d,hd,hm⟩:=hu;cases d<;>first|exact hm.elim|skip
 rw[aF];generalize 9999=d;unfold Op.equalIn;simp only[bind,pure,run_bind,run_underlying hd];cases p<;>rfl
def uK {P:aa} {t:ae} {p:Option am} {n c m k:Nat} {r:Bool} (h:gY P t (.slice p n c)=ay r) (w:ac):(Op.equal t (.slice p n c) (.slice az m k)).run P w= .ok r w:=by
 have hu:r=p.isNone/\∃d,P.underlying t=ay d/\(match d with| .slice _=>True|_=>False):=by
  unfold gY at h;cases hd:P.underlying t with
  |none=>simp[hd]at h
  |some d=>cases d<;>simp[hd]at h;exact⟨h.symm,_,rfl,trivial⟩
 obtain⟨rfl,d,hd,hm⟩:=hu;cases d<;>first|exact hm.elim|skip
 rw[aF];generalize 9999=d;unfold Op.equalIn;simp only[bind,pure,run_bind,run_underlying hd];cases p<;>rfl
def f8 {P:aa} {t:ae} {p:Option Nat} {r:Bool} (h:gY P t (.map p)=ay r) (w:ac):(Op.equal t (.map p) (.map az)).run P w= .ok r w:=by
 have hu:r=p.isNone/\∃d,P.underlying t=ay d/\(match d with| .map _ _=>True|_=>False):=by
  unfold gY at h;cases hd:P.underlying t with
  |none=>simp[hd]at h
  |some d=>cases d<;>simp[hd]at h;exact⟨h.symm,_,rfl,trivial⟩
 obtain⟨rfl,d,hd,hm⟩:=hu;cases d<;>first|exact hm.elim|skip
 rw[aF];generalize 9999=d;unfold Op.equalIn;simp only[bind,pure,run_bind,run_underlying hd];cases p<;>rfl
def nB {p:Option am} {K:am->Prop} (h:zVa p K):∃a,p=ay a/\K a:=by
 cases p with
 |none=>exact h.elim
 |some a=>exact⟨a,rfl,h⟩
def zVs {p:Option am} {n:Nat} {i:Int} {K:am->Prop} (h:ySt p n i K):∃a,p=ay a/\(0<=i/\i<n)/\K a:=by
 cases p with
 |none=>exact h.elim
 |some a=>exact⟨a,rfl,h⟩
def xF {P:aa} {o:aj} {ρ:Env} {neg:Bool} {t:ae} {x y:ap} {u:ae} {r:Bool} (ho:o.op= .binOp (if neg then .neq else .eql) t x y u)
 (hx:match ev ρ x with| .pointer _=>True| .slice _ _ _=>True| .map _=>True| .agg _=>True|_=>False)
 (hy:match ev ρ y with| .pointer _=>True| .slice _ _ _=>True| .map _=>True| .agg _=>True|_=>False)
 (hg:∀w,(ak (if neg then .neq else .eql) t x y (ev ρ x) (ev ρ y)).run P w= .ok () w)
 (he:∀w,(Op.equal t (ev ρ x) (ev ρ y)).run P w= .ok r w):zMf P (af (ev ρ) o) (.bool (if neg then !r else r)):=by
 simp only[af,ho];refine z8 λw=> ?_
 simp only[bind,run_bind,hg w];generalize ev ρ x=a at*;generalize ev ρ y=b at*;cases neg<;>cases a<;>(first|exact hx.elim|skip)<;>cases b<;>(first|exact hy.elim|skip)<;>simp only[binOp,y1p,if_false,if_true,bind,pure,run_bind,he w,bc]
def zIa {P:aa} {op:BinOp} {t:ae} {x y x' y':ap} {a b:ab} (ha:a≠.nilIface) (w:ac):
 (ak op t x y a b).run P w=(ak op t x' y' a b).run P w:=by
 cases a<;>first|exact(ha rfl).elim|skip
 all_goals cases op<;>first|rfl|(cases b<;>rfl)
def yY {P:aa} {op:BinOp} {t:ae} {x y:ap} {a b:ab} (ha:match a with| .pointer _=>True| .slice _ _ _=>True| .map _=>True|_=>False) (w:ac):
 (ak op t x y a b).run P w= .ok () w:=by
 cases a<;>first|exact ha.elim|(cases op<;>rfl)
def z5b {y:ab} (h:zLx y=bo):y= .pointer az:=by
 cases y<;>simp[zLx]at h
 rename_i a;cases a<;>simp at h ⊢
def z3g {y:ab} (h:zIh y=bo):∃n c,y= .slice az n c:=by
 cases y<;>simp[zIh]at h
 rename_i a n c;cases a<;>simp at h ⊢
def z5z {y:ab} (h:yJc y=bo):y= .map az:=by
 cases y<;>simp[yJc]at h
 rename_i a;cases a<;>simp at h ⊢
def zJ {b:Bool} {A:Prop} (h:bif b then A else False):b=bo/\A:=by
 cases b
 ·exact h.elim
 ·exact⟨rfl,h⟩
def yBp {P:aa} {ρ:Env} {op:BinOp} {t u:ae} {x y:ap} {o:aj} {K:ab->Prop} (ho:o.op= .binOp op t x y u)
 (h:fP P o ρ K):∃v,K v/\zMf P (af (ev ρ) o) v:=by
 simp only[fP,ho]at h;split at h
 ·rename_i k a k' b hx hy;obtain⟨rfl,hb,h⟩:=h;refine⟨_,h,?_⟩;simp only[af,ho];refine z8 λw=> ?_
  simp[hx,hy,ak,binOp,Op.intDiv,hb,bind,pure,be,bc]
 ·rename_i k a k' b hx hy;obtain⟨rfl,hb,h⟩:=h;refine⟨_,h,?_⟩;simp only[af,ho];refine z8 λw=> ?_
  simp[hx,hy,ak,binOp,Op.intDiv,hb,bind,pure,be,bc]
 ·rename_i k a k' b hx hy;obtain⟨hb,h⟩:=h;refine⟨_,h,?_⟩;simp only[af,ho];refine z8 λw=> ?_
  simp[hx,hy,ak,binOp,Op.shift,Int.not_lt.2 hb,bind,pure,be,bc,zXa,cE]
 ·rename_i k a k' b hx hy;obtain⟨hb,h⟩:=h;refine⟨_,h,?_⟩;simp only[af,ho];refine z8 λw=> ?_
  simp[hx,hy,ak,binOp,Op.shift,Int.not_lt.2 hb,bind,pure,be,bc,zXa,cE]
 ·rename_i k a k' b hx hy;obtain⟨hk,h'⟩:=zJa h;subst hk;refine⟨_,h',?_⟩;simp only[af,ho];refine z8 λw=> ?_
  simp[hx,hy,ak,binOp,Op.intBits,bind,pure,be,bc,zBw,iOr,zAb,zDu]
 ·rename_i k a k' b hx hy;obtain⟨hk,h'⟩:=zJa h;subst hk;refine⟨_,h',?_⟩;simp only[af,ho];refine z8 λw=> ?_
  simp[hx,hy,ak,binOp,Op.intBits,bind,pure,be,bc,zBw,iOr,zAb,zDu]
 ·rename_i k a k' b hx hy;obtain⟨hk,h'⟩:=zJa h;subst hk;refine⟨_,h',?_⟩;simp only[af,ho];refine z8 λw=> ?_
  simp[hx,hy,ak,binOp,Op.intBits,bind,pure,be,bc,zBw,iOr,zAb,zDu]
 ·rename_i k a k' b hx hy;obtain⟨hk,h'⟩:=zJa h;subst hk;refine⟨_,h',?_⟩;simp only[af,ho];refine z8 λw=> ?_
  simp[hx,hy,ak,binOp,Op.intBits,bind,pure,be,bc,zBw,iOr,zAb,zDu]
 ·rename_i a b hx hy;obtain⟨hb,h⟩:=h;refine⟨_,h,?_⟩;simp only[af,ho];refine z8 λw=> ?_
  have hb':¬(((a.size+b.size:Nat):Int)>cy.max):=Int.not_lt.2 hb;simp only[hx,hy,ak,binOp,Op.stringOp,y0y hb',bind,pure,be,bc];rfl
 ·rename_i p hx;generalize hy:ev ρ y=b at h;obtain⟨hn,h⟩:=zJ h;obtain⟨r,hr,h⟩:=nR h;have hb:=z5b hn;refine⟨_,h,?_⟩;exact xF (neg:=bp) ho (by simp[hx]) (by simp[hy,hb]) (λw=>by rw[hx];exact yY trivial w) (λw=>by rw[hx,hy,hb];exact fZ hr w)
 ·rename_i p hx;generalize hy:ev ρ y=b at h;obtain⟨hn,h⟩:=zJ h;obtain⟨r,hr,h⟩:=nR h;have hb:=z5b hn;refine⟨_,h,?_⟩;exact xF (neg:=bo) ho (by simp[hx]) (by simp[hy,hb]) (λw=>by rw[hx];exact yY trivial w) (λw=>by rw[hx,hy,hb];exact fZ hr w)
 ·rename_i p n c hx;generalize hy:ev ρ y=b at h;obtain⟨hn,h⟩:=zJ h;obtain⟨r,hr,h⟩:=nR h;obtain⟨m,d,hb⟩:=z3g hn;refine⟨_,h,?_⟩;exact xF (neg:=bp) ho (by simp[hx]) (by simp[hy,hb]) (λw=>by rw[hx];exact yY trivial w) (λw=>by rw[hx,hy,hb];exact uK hr w)
 ·rename_i p n c hx;generalize hy:ev ρ y=b at h;obtain⟨hn,h⟩:=zJ h;obtain⟨r,hr,h⟩:=nR h;obtain⟨m,d,hb⟩:=z3g hn;refine⟨_,h,?_⟩;exact xF (neg:=bo) ho (by simp[hx]) (by simp[hy,hb]) (λw=>by rw[hx];exact yY trivial w) (λw=>by rw[hx,hy,hb];exact uK hr w)
 ·rename_i p hx;generalize hy:ev ρ y=b at h;obtain⟨hn,h⟩:=zJ h;obtain⟨r,hr,h⟩:=nR h;have hb:=z5z hn;refine⟨_,h,?_⟩;exact xF (neg:=bp) ho (by simp[hx]) (by simp[hy,hb]) (λw=>by rw[hx];exact yY trivial w) (λw=>by rw[hx,hy,hb];exact f8 hr w)
 ·rename_i p hx;generalize hy:ev ρ y=b at h;obtain⟨hn,h⟩:=zJ h;obtain⟨r,hr,h⟩:=nR h;have hb:=z5z hn;refine⟨_,h,?_⟩;exact xF (neg:=bo) ho (by simp[hx]) (by simp[hy,hb]) (λw=>by rw[hx];exact yY trivial w) (λw=>by rw[hx,hy,hb];exact f8 hr w)
 ·rename_i a hx;generalize hy:ev ρ y=b at h;obtain⟨r,h1,h2,h3,h⟩:=h;refine⟨_,h,?_⟩;obtain⟨c,rfl⟩:∃c,b= .agg c:=by cases b<;>first|exact⟨_,rfl⟩|(simp at h3)
  exact xF (neg:=bp) ho (by simp[hx]) (by simp[hy]) (λw=>by rw[hx,hy];exact(zIa (by simp) w).trans (jR h2 w)) (λw=>by rw[hx,hy];exact jR h1 w)
 ·rename_i a hx;generalize hy:ev ρ y=b at h;obtain⟨r,h1,h2,h3,h⟩:=h;refine⟨_,h,?_⟩;obtain⟨c,rfl⟩:∃c,b= .agg c:=by cases b<;>first|exact⟨_,rfl⟩|(simp at h3)
  exact xF (neg:=bo) ho (by simp[hx]) (by simp[hy]) (λw=>by rw[hx,hy];exact(zIa (by simp) w).trans (jR h2 w)) (λw=>by rw[hx,hy];exact jR h1 w)
 ·exact dA h
def uR {P:aa} {ρ:Env} {o:aj} {K:ab->Prop} (h:fP P o ρ K):∃v,K v/\zMf P (af (ev ρ) o) v:=by
 cases ho:o.op
 case move x=>simp only[fP,ho]at h;exact⟨_,h,λw=>by simp only[af,ho];rfl⟩
 case assign x=>simp only[fP,ho]at h;exact⟨_,h,λw=>by simp only[af,ho];rfl⟩
 case pick c a b=>
  simp only[fP,ho]at h;split at h
  ·rename_i t hc;refine⟨_,h,λw=> ?_⟩;simp only[af,ho,hc,asBool,bind,pure,be,bc];cases t<;>rfl
  ·exact h.elim
 case nilCheck x=>
  simp only[fP,ho]at h;split at h
  ·rename_i p hx;obtain⟨a,rfl,h⟩:=nB h;exact⟨_,h,λw=>by simp only[af,ho,hx];rfl⟩
  ·exact dA h
 case indexAddr t x i=>
  simp only[fP,ho]at h;split at h
  ·rename_i p n c k i hx hi;split at h
   ·rename_i sz hsz;obtain⟨a,rfl,hb,h⟩:=zVs h;refine⟨_,h,?_⟩;simp only[af,ho];refine z8 λw=> ?_
    rw[hx,hi];exact kL hsz hb w
   ·exact h.elim
  ·rename_i p k i hx hi;split at h
   ·rename_i n sz hsz;obtain⟨a,rfl,hb,h⟩:=zVs h;refine⟨_,h,?_⟩;simp only[af,ho];refine z8 λw=> ?_
    rw[hx,hi];exact gW hsz hb w
   ·exact h.elim
  ·exact h.elim
 case index t x i=>
  simp only[fP,ho]at h;split at h
  ·rename_i s k i hx hi;split at h
   ·rename_i ht;obtain⟨b,⟨h0,h1⟩,h⟩:=h;refine⟨_,h,?_⟩;simp only[af,ho];refine z8 λw=> ?_
    simp only[Instr.index,hx,hi,asIntOf,bind,pure,be,bc,run_bind,run_underlying ht,y1a h0,h1]
   ·exact h.elim
  ·split at h
   ·exact dA h
   ·obtain⟨v,hv,h⟩:=jZ h;refine⟨v,h,?_⟩;simp only[af,ho];exact z8 (jR hv)
 case typeAssert x xT asserted ok=>
  cases ok
  ·simp only[fP,ho]at h;obtain⟨v,hv,h⟩:=jZ h;refine⟨v,h,?_⟩;simp only[af,ho];exact z8 (jR hv)
  ·simp only[fP,ho]at h;obtain⟨v,h⟩:=jZ h;obtain⟨b,hv,h⟩:=jA h;refine⟨_,h,?_⟩;simp only[af,ho];exact z8 (jR hv)
 case slice t x lo hi mx=>
  cases mx with
  |none=>exact z2k ho h
  |some m=>
   simp only[fP,ho]at h;split at h<;>first|exact h.elim|contradiction|skip
   rename_i p n c m' hx hm;cases hm;split at h<;>first|exact h.elim|skip
   rename_i sz l u k m' hsz h1 h2 hm;obtain⟨⟨q1,q2,q3,q4⟩,h⟩:=h;obtain⟨e,ti,e1,e2,rfl⟩:=sL hsz;rcases zDb h1 with⟨_,h1⟩|⟨y,ky,ny,rfl,hy,h1⟩
   ·cases h1
   cases h1;rcases zDb h2 with⟨_,h2⟩|⟨z,kz,nz,rfl,hz,h2⟩
   ·cases h2
   cases h2;refine⟨_,h,?_⟩;simp only[af,ho];refine z8 λw=> ?_
   have b1:(0:Int)<=m'/\m'<=(c:Nat):=by omega
   have b2:0<=u/\u<=(m'.toNat:Nat):=by omega
   have b3:0<=l/\l<=(u.toNat:Nat):=by omega
   simp only[Instr.sliceAt,Instr.slice,cf,hx,hm,hy,hz,y3b,bind,pure,be,bc,run_bind,run_underlying e1,qV b1,qV b2,qV b3,run_sizeOf e2]
 case binOp op t x y u=>exact yBp ho h
 case panic x=>simp only[fP,ho]at h
 all_goals(simp only[fP,ho]at h;exact dA h)
def fM (P:aa) (s:Sem ab) (w:ac) (v:ab):Prop:=s.run P w=.ok v w
def uE (P:aa) (s:Sem ab) (w:ac) (v:ab) (w':ac):Prop:=s.run P w=.ok v w'
def l7 (P:aa) (s:Sem Unit) (w:ac) (w':ac):Prop:=s.run P w=.ok () w'
def aO (P:aa) (t:ae) (a:am) (w:ac) (v:ab):Prop:=(loadVar t a).run P w=.ok v w
def z4b (P:aa) (t:ae):Option ae:=
 match P.underlying t with
 |some (.map _ e)=>ay e
 |_=>az
def sD (P:aa) (o:aj) (ρ:Env) (w:ac) (K:ab->Prop):Prop:=
 match o.op with
 | .load t x=>
   match ev ρ x with
   | .pointer p=>zVa p λa=>exT P t λv=>aO P t a w v/\K v
   |_=>False
 | .lookup t m k ok=>
   match z4b P t with
   |some e=>exT P e λv=>exC .bool λb=>fM P (cg t (ev ρ m) (ev ρ k) bo) w (.tuple #[v,b])/\K (bif ok then .tuple #[v,b]else v)
   |none=>False
 | .convert s d x=>exT P d λv=>fM P (ax s d (ev ρ x)) w v/\K v
 | .binOp op t x y _=>
   match op with
   | .eql=>exC .bool λv=>fM P (binOp .eql t (ev ρ x) (ev ρ y)) w v/\(ak .eql t x y (ev ρ x) (ev ρ y)).run P w=.ok () w/\K v
   | .neq=>exC .bool λv=>fM P (binOp .neq t (ev ρ x) (ev ρ y)) w v/\(ak .neq t x y (ev ρ x) (ev ρ y)).run P w=.ok () w/\K v
   |_=>False
 | .call {callee:= .builtin .len,args,argTypes}=>exC (.int .i64) λv=>fM P (bv argTypes o.type (args.map (ev ρ))) w v/\K v
 | .entry x=>∃v,fM P (Instr.entry (ev ρ x)) w v/\K v
 |_=>False
def yD {P:aa} {s:Sem ab} {v:ab} {w:ac} (h:s.run P w= .ok v w):((do pure (Next.value (<- s)):Sem Next)).run P w= .ok (.value v) w:=by
 show(s.bind λa=> .pure (Next.value a)).run P w=_;rw[run_bind,h];rfl
def zYx {P:aa} {s:Sem ab} {v:ab} {w w':ac} (h:s.run P w= .ok v w'):((do pure (Next.value (<- s)):Sem Next)).run P w= .ok (.value v) w':=by
 show(s.bind λa=> .pure (Next.value a)).run P w=_;rw[run_bind,h];rfl
def z6v {P:aa} {s:Sem Unit} {w w':ac} (h:s.run P w= .ok () w'):((do s;pure Next.skip:Sem Next)).run P w= .ok .skip w':=by
 show(s.bind λ_=> .pure Next.skip).run P w=_;rw[run_bind,h];rfl
def Sim (P:aa) (s1 s2:Sem ab):Prop:=∀w v b w',s1.run P w=.ok (.tuple #[v,b]) w'->s2.run P w=.ok v w'
def dQ {α:Type} {P:aa} (s:Sem α) {f g:α->Sem ab} (h:∀a,Sim P (f a) (g a)):Sim P (s.bind f) (s.bind g):=by
 intro w v b w' hr;rw[run_bind]at hr ⊢;cases hs:s.run P w with
 |ok a w1=>rw[hs]at hr;exact h a _ _ _ _ hr
 |halt x w1=>rw[hs]at hr;cases hr
def z8j {P:aa} {x y:String}:Sim P (stuck x) (stuck y):=by
 intro w v b w' hr;cases hr
def zXh {P:aa} {v b:ab}:Sim P (.pure (.tuple #[v,b])) (.pure v):=by
 intro w v b w' hr;simp only[bc,Result.ok.injEq,Value.tuple.injEq,Array.mk.injEq,List.cons.injEq]at hr ⊢;exact⟨hr.1.1,hr.2⟩
def sim_lookup {P:aa} {t:ae} {m k:ab}:Sim P (cg t m k bo) (cg t m k bp):=by
 unfold cg;refine dQ _ λd=> ?_
 have tail:∀(key elem:ae) (es:Array aq),Sim P
  ((Instr.checkKey es.isEmpty 10000 key k).bind λ_=>(Instr.findKey key k es.toList).bind λr=>
    match r with
    |some (_,v)=>(bg (v,bo)).bind λx=>bg (if bo=bo then Value.tuple #[x.1,.bool x.2]else x.1)
    |none=>(zeroValue elem).bind λz=>(bg (z,bp)).bind λx=>bg (if bo=bo then Value.tuple #[x.1,.bool x.2]else x.1))
  ((Instr.checkKey es.isEmpty 10000 key k).bind λ_=>(Instr.findKey key k es.toList).bind λr=>
    match r with
    |some (_,v)=>(bg (v,bo)).bind λx=>bg (if bp=bo then Value.tuple #[x.1,.bool x.2]else x.1)
    |none=>(zeroValue elem).bind λz=>(bg (z,bp)).bind λx=>bg (if bp=bo then Value.tuple #[x.1,.bool x.2]else x.1)):=by
  intro key elem es;refine dQ _ λ_=>dQ _ λr=> ?_
  cases r with
  |some p=>obtain⟨i,v⟩:=p;exact zXh
  |none=>exact dQ _ λz=>zXh
 cases d<;>first|exact z8j|skip
 rename_i key elem;cases m<;>first|exact dQ _ (λes=>tail key elem es)|skip
 rename_i r;cases r with
 |none=>exact dQ _ (λes=>tail key elem es)
 |some r=>
  refine dQ _ λo=> ?_
  cases o<;>exact dQ _ (λes=>tail key elem es)
def zHo {P:aa} {t:ae} {m k v b:ab} {w w':ac} (h:(cg t m k bo).run P w= .ok (.tuple #[v,b]) w'):(cg t m k bp).run P w= .ok v w':=
 sim_lookup w v b w' h
def z0d {P:aa} {ρ:Env} {o:aj} {w:ac} {K:ab->Prop} (h:sD P o ρ w K):∃v,K v/\(af (ev ρ) o).run P w= .ok (.value v) w:=by
 cases ho:o.op
 case load t x=>
  simp only[sD,ho]at h;split at h
  ·rename_i p hx;obtain⟨a,rfl,h⟩:=nB h;obtain⟨v,hv,h⟩:=jZ h;refine⟨v,h,?_⟩;simp only[af,ho,hx];exact yD hv
  ·exact h.elim
 case lookup t m k ok=>
  simp only[sD,ho]at h;split at h
  ·rename_i e he;obtain⟨v,h⟩:=jZ h;obtain⟨b,hb,h⟩:=jA h;refine⟨_,h,?_⟩;simp only[af,ho];cases ok
   ·exact yD (zHo hb)
   ·exact yD hb
  ·exact h.elim
 case convert s d x=>
  simp only[sD,ho]at h;obtain⟨v,hv,h⟩:=jZ h;refine⟨v,h,?_⟩;simp only[af,ho];exact yD hv
 case binOp op t x y u=>
  simp only[sD,ho]at h;split at h
  ·obtain⟨v,h1,h2,h⟩:=jA h;refine⟨v,h,?_⟩;simp only[af,ho];refine yD ?_;simp only[bind,run_bind,h2];exact h1
  ·obtain⟨v,h1,h2,h⟩:=jA h;refine⟨v,h,?_⟩;simp only[af,ho];refine yD ?_;simp only[bind,run_bind,h2];exact h1
  ·exact h.elim
 case call c=>
  simp only[sD,ho]at h;split at h<;>first|exact h.elim|skip
  all_goals first|(exfalso;rename_i hh;cases hh;done)|skip
  rename_i args argTypes hh;cases hh;obtain⟨v,hv,h⟩:=jA h;refine⟨v,h,?_⟩;simp only[af,ho];exact yD hv
 case entry x=>
  simp only[sD,ho]at h;obtain⟨v,hv,h⟩:=h;refine⟨v,h,?_⟩;simp only[af,ho];exact yD hv
 all_goals(simp only[sD,ho]at h)
def Does (P:aa) (s:Sem Next) (w:ac) (K:ab->ac->Prop):Prop:=
 match s.run P w with
 | .ok (.value v) w'=>K v w'
 | .ok .skip w'=>K ao w'
 | .ok (.enter f args) w'=>Calls P f args w' λe w''=>∃v,e=.returned v/\K v w''
 |_=>False
def zYv (w:ac) (o:Obj) (K:Nat->ac->Prop):Prop:=∀b w',b=w.heap.size->w'=w.alloc o->K b w'
def zero? (P:aa) (t:ae):Option ab:=
 match P.info? t with
 |some i=>i.zero
 |none=>az
def lY (z:Array ab) (n:Nat):Array ab:=((ct n).map λj=>z.toList.getD (j % z.size) default).toArray
def zKv (z:Array ab) (n:Nat):(Array.range n).map (z[·% z.size]!)=lY z n:=by
 apply cx;simp only[lY,Array.toList_map,Array.toList_range];refine y2g λj _=> ?_
 rw[Array.getElem!_eq_getD,y2s,y1h,Array.getElem?_toList]
def bsl (P:aa) (t:ae) (len:Nat) (parts:Array (Nat×ab)):Option (ae×Array ab):=
 match P.underlying t with
 |some (.slice e)=>
  match P.info? e with
  |some i=>
   if len*i.size>2 ^ 24 then az else
   match(if len*i.size=0 then ay #[]else i.zero.map Value.cells)with
   |some z=>(Instr.fill (λj=>ay (j*i.size,i.size)) (lY z (len*i.size)) parts.toList).map λcs=>(e,cs)
   |none=>az
  |none=>az
 |_=>az
def wS (P:aa) (t:ae):Option (ae×Nat×Nat×Array ab):=
 match P.underlying t with
 |some (.slice e)=>
  match P.info? e with
  |some i=>i.zero.map λz=>(e,i.size,i.bytes,z.cells)
  |none=>az
 |_=>az
def vI (P:aa) (f:av):Bool:=
 match P.funcs[f]? with
 | some fn => !fn.body.isNone && !(fn.name == "runtime.NumGoroutine")
 |none=>bp
def yAx (P:aa) (f:av) (args:Array ab) (w:ac) (rt:ae) (K:ab->ac->Prop):Prop:=
 Calls P f args w λe w'=>exR P rt λv=>e=.returned v/\K v w'
def Ext (P:aa) (f:av) (args:Array ab) (w:ac) (v:ab) (w':ac):Prop:=(au f args).run P w=.ok (.value v) w'
def gT (P:aa) (o:aj) (ρ:Env) (w:ac) (K:ab->ac->Prop):Prop:=
 match o.op with
 | .alloc e=>
   match zero? P e with
   |some z=>zYv w (.cells z.cells e) λb w'=>K (.pointer (ay ⟨b,0,az⟩)) w'
   |none=>False
 | .box e x=>zYv w (.cells (ev ρ x).cells e) λb w'=>K (.pointer (ay ⟨b,0,az⟩)) w'
 | .buildSlice t len parts=>
   match bsl P t len (parts.map λ(i,x)=>(i,ev ρ x))with
   |some (e,cs)=>zYv w (.cells cs e) λb w'=>K (.slice (ay ⟨b,0,az⟩) len len) w'
   |none=>False
 | .makeMap _ az=>zYv w (.map #[] 0) λb w'=>K (.map (ay b)) w'
 | .makeSlice t l c=>
   match ev ρ l,ev ρ c with
   | .int _ l,.int _ c=>
     match wS P t with
     |some (e,sz,by_,z)=>(0<=l/\l<=c/\c<=9223372036854775807/\(by_:Int)*c<=2 ^ 48)/\
       zYv w (.cells (madeCells z (c.toNat*sz)) e) λb w'=>K (.slice (ay ⟨b,0,az⟩) l.toNat c.toNat) w'
     |none=>False
   |_,_=>False
 | .store t x v=>
   match ev ρ x with
   | .pointer p=>zVa p λa=>∃w',l7 P (storeVar t a (ev ρ v)) w w'/\K ao w'
   |_=>False
 | .mapUpdate t m k x=>∃w',l7 P (Instr.mapUpdate t (ev ρ m) (ev ρ k) (ev ρ x)) w w'/\K ao w'
 | .mapEntry t m k=>
   match z4b P t with
   |some e=>exT P e λv=>exC (.int .i64) λs=>∃w',uE P (Instr.mapEntry t (ev ρ m) (ev ρ k)) w (.tuple #[v,s]) w'/\K (.tuple #[v,s]) w'
   |none=>False
 | .entryStore t m s x=>∃w',l7 P (Instr.entryStore t (ev ρ m) (ev ρ s) (ev ρ x)) w w'/\K ao w'
 | .range t x=>
   match P.underlying t,ev ρ x with
   |some .string,.string s=>zYv w (.stringIter s 0) λb w'=>K (.pointer (ay ⟨b,0,az⟩)) w'
   |_,x=>exC .ptr λv=>∃w',uE P (Instr.range t x) w v w'/\K v w'
 | .next it bo=>
   (∃w',uE P (Instr.next (ev ρ it) bo o.type) w (.tuple #[.bool bp]) w'/\K (.tuple #[.bool bp]) w')\/
   exC (.int .i64) λk=>exC (.int .i32) λv=>∃w',uE P (Instr.next (ev ρ it) bo o.type) w (.tuple #[.bool bo,k,v]) w'/\K (.tuple #[.bool bo,k,v]) w'
 | .next it bp=>
   (∃w',uE P (Instr.next (ev ρ it) bp o.type) w (.tuple #[.bool bp]) w'/\K (.tuple #[.bool bp]) w')\/
   ∃(k v:ab) (w':ac),uE P (Instr.next (ev ρ it) bp o.type) w (.tuple #[.bool bo,k,v]) w'/\K (.tuple #[.bool bo,k,v]) w'
 | .convert s d x=>exT P d λv=>∃w',uE P (ax s d (ev ρ x)) w v w'/\K v w'
 | .call c=>
   match c.callee with
   | .value (.func f)=>bif vI P f then yAx P f (c.args.map (ev ρ)) w o.type K else exR P o.type λv=>∃w',Ext P f (c.args.map (ev ρ)) w v w'/\K v w'
   | .value x=>
     match ev ρ x with
     | .func (.func f) first cap=>vI P f=bo/\yAx P f (first++c.args.map (ev ρ)++cap) w o.type K
     |_=>False
   | .builtin .append=>exT P o.type λv=>∃w',uE P (bu c.argTypes o.type (c.args.map (ev ρ))) w v w'/\K v w'
   | .builtin .copy=>exC (.int .i64) λv=>∃w',uE P (bw c.argTypes o.type (c.args.map (ev ρ))) w v w'/\K v w'
   | .builtin .delete=>∃w',uE P (Builtin.delete_ c.argTypes o.type (c.args.map (ev ρ))) w (.tuple #[]) w'/\K (.tuple #[]) w'
   | .builtin .clear=>∃w',uE P (Builtin.clear_ c.argTypes o.type (c.args.map (ev ρ))) w (.tuple #[]) w'/\K (.tuple #[]) w'
   |_=>False
 |_=>False
def yA {P:aa} {s:Sem ab} {w w':ac} {v:ab} {K:ab->ac->Prop} (h:s.run P w= .ok v w') (hk:K v w'):Does P (do pure (Next.value (<- s))) w K:=by
 unfold Does;rw[zYx h];exact hk
def jE {P:aa} {s:Sem Unit} {w w':ac} {K:ab->ac->Prop} (h:s.run P w= .ok () w') (hk:K ao w'):Does P (do s;pure Next.skip) w K:=by
 unfold Does;rw[z6v h];exact hk
def zPa {P:aa} {f:av} {args:Array ab} {w:ac} {rt:ae} {K:ab->ac->Prop} (hb:vI P f=bo) (h:yAx P f args w rt K):Does P (au f args) w K:=by
 unfold vI at hb;split at hb
 ·rename_i fn hfn;simp only[y1l,y4k,Bool.not_eq_eq_eq_not,Bool.not_true]at hb;unfold Does;have:(au f args).run P w= .ok (.enter f args) w:=by
   simp only[au,bind,pure,run_bind,program,bc,be,hfn,hb.1,hb.2,y1p,if_false]
  rw[this];exact h.mono λe w' hh=>by
   obtain⟨v,hv,hk⟩:=z5r hh;exact⟨v,hv,hk⟩
 ·cases hb
def zero_run {P:aa} {t:ae} {z:ab} (h:zero? P t=ay z) (w:ac):(zeroValue t).run P w= .ok z w:=by
 unfold zero? at h;split at h
 ·rename_i i hi;have hti:(typeInfo t).run P w= .ok i w:=by
   unfold typeInfo;show((Sem.program bg).bind _).run P w=_;simp only[be,bc,hi];rfl
  unfold zeroValue;simp only[bind,run_bind,hti,h];rfl
 ·cases h
def zLk {P:aa} {t:ae} {v:ab} (w:ac):(newVar t v).run P w= .ok ⟨w.heap.size,0,az⟩ (w.alloc (.cells v.cells t)):=rfl
def zDk {P:aa} {t:ae} {i:TypeInfo} (h:P.info? t=ay i) (w:ac):(typeInfo t).run P w= .ok i w:=by
 unfold typeInfo;show((Sem.program bg).bind _).run P w=_;simp only[be,bc,h];rfl
def bV {P:aa} {t:ae} {len:Nat} {parts:Array (Nat×ab)} {e:ae} {cs:Array ab} (h:bsl P t len parts=ay (e,cs)) (w:ac):
 (Instr.buildSlice t len parts).run P w= .ok (.slice (ay ⟨w.heap.size,0,az⟩) len len) (w.alloc (.cells cs e)):=by
 unfold bsl at h;split at h<;>first|(cases h;done)|skip
 rename_i e' ht;split at h<;>first|(cases h;done)|skip
 rename_i i hi;split at h<;>first|(cases h;done)|skip
 rename_i hlen;split at h<;>first|(cases h;done)|skip
 rename_i z hz;simp only[ba,cz]at h;obtain⟨cs',hcs,rfl,rfl⟩:=h;by_cases h0:len*i.size=0
 ·simp only[h0,if_true,cj]at hz;subst hz;simp only[Instr.buildSlice,bind,pure,run_bind,be,bc,run_underlying ht,run_sizeOf hi,y0y hlen,y1a h0,zKv,hcs];rfl
 ·simp only[h0,if_false,ba]at hz;obtain⟨z',hz',rfl⟩:=hz;have hzr:∀w,(zeroValue e').run P w= .ok z' w:=λw=>zero_run (by unfold zero?;rw[hi];exact hz') w
  simp only[Instr.buildSlice,bind,pure,run_bind,be,bc,run_underlying ht,run_sizeOf hi,y0y hlen,y0y h0,hzr,zKv,hcs];rfl
def qO {P:aa} {t e:ae} {sz by_:Nat} {z:Array ab} (h:wS P t=ay (e,sz,by_,z)):
 ∃i zv,P.underlying t=ay (.slice e)/\P.info? e=ay i/\i.size=sz/\i.bytes=by_/\i.zero=ay zv/\zv.cells=z:=by
 unfold wS at h;split at h<;>first|(cases h;done)|skip
 rename_i e' ht;split at h<;>first|(cases h;done)|skip
 rename_i i hi;simp only[ba,cz]at h;obtain⟨zv,hzv,rfl,rfl,rfl,rfl⟩:=h;exact⟨i,zv,ht,hi,rfl,rfl,hzv,rfl⟩
def wrap_i64 {x:Int} (h0: -9223372036854775808<=x) (h1:x<=9223372036854775807):cy.wrap x=x:=IntWalk.i64_in x ⟨h0,h1⟩
def zId (P:aa) (n:Nat) (w:ac):(askRoom n).run P w= .ok () w:=by
 unfold askRoom;split<;>rfl
def zKn {P:aa} {t e:ae} {sz by_:Nat} {z:Array ab} {k k':ag} {l c:Int} (h:wS P t=ay (e,sz,by_,z))
 (hb:0<=l/\l<=c/\c<=9223372036854775807/\(by_:Int)*c<=2 ^ 48) (w:ac):
 (Instr.makeSlice t (.int k l) (.int k' c)).run P w= .ok (.slice (ay ⟨w.heap.size,0,az⟩) l.toNat c.toNat) (w.alloc (.cells (madeCells z (c.toNat*sz)) e)):=by
 obtain⟨i,zv,ht,hi,rfl,rfl,hz,rfl⟩:=qO h;obtain⟨h1,h2,h3,h4⟩:=hb;have wl:cy.wrap l=l:=wrap_i64 (by omega) (by omega);have wc:cy.wrap c=c:=wrap_i64 (by omega) (by omega);have hc1:¬(((decide (c<0)||decide ((i.bytes:Int)*c>2 ^ 48))||decide (l<0)||decide (l>c))=bo):=by
  simp only[Bool.or_eq_true,y2v,not_or];omega
 have hzr:∀w,(zeroValue e).run P w= .ok zv w:=λw=>zero_run (by unfold zero?;rw[hi];exact hz) w
 simp only[Instr.makeSlice,asInt,asIntOf,bind,pure,run_bind,be,bc,run_underlying ht,zDk hi,run_sizeOf hi,wl,wc];rw[y0y hc1];simp only[run_bind,zId,run_sizeOf hi];by_cases h0:c.toNat*i.size=0
 ·simp only[h0,if_true,bc,run_bind,madeCells];have e1:(Array.map (λx=>(#[]:Array ab)[x % (#[]:Array ab).size]!) (Array.range 0))= #[]:=by simp
  have e2:(Array.map (λx=>zv.cells[x % zv.cells.size]!) (Array.range 0))= #[]:=by simp
  rw[e1,e2];rfl
 ·simp only[y0y h0,run_bind,hzr,bc,madeCells];rfl
def zQk {P:aa} {ρ:Env} {o:aj} {w:ac} {K:ab->ac->Prop} (h:gT P o ρ w K):Does P (af (ev ρ) o) w K:=by
 cases ho:o.op
 case alloc e=>
  simp only[gT,ho]at h;split at h
  ·rename_i z hz;simp only[af,ho];refine yA (v:= .pointer (ay ⟨w.heap.size,0,az⟩)) (w':=w.alloc (.cells z.cells e)) ?_ (h _ _ rfl rfl);simp only[Instr.alloc,bind,pure,run_bind,zero_run hz,bc,zLk]
  ·exact h.elim
 case box e x=>
  simp only[gT,ho]at h;simp only[af,ho];exact yA (v:= .pointer (ay ⟨w.heap.size,0,az⟩)) (w':=w.alloc (.cells (ev ρ x).cells e)) rfl (h _ _ rfl rfl)
 case buildSlice t len parts=>
  simp only[gT,ho]at h;split at h
  ·rename_i e cs hcs;simp only[af,ho];exact yA (bV hcs w) (h _ _ rfl rfl)
  ·exact h.elim
 case makeMap t r=>
  cases r with
  |some r=>simp only[gT,ho]at h
  |none=>
   simp only[gT,ho]at h;simp only[af,ho];exact yA (v:= .map (ay w.heap.size)) (w':=w.alloc (.map #[] 0)) rfl (h _ _ rfl rfl)
 case makeSlice t l c=>
  simp only[gT,ho]at h;split at h<;>first|exact h.elim|skip
  rename_i k l' k' c' hl hc;split at h<;>first|exact h.elim|skip
  rename_i e sz by_ z hs;simp only[af,ho,hl,hc];exact yA (zKn hs h.1 w) (h.2 _ _ rfl rfl)
 case store t x v=>
  simp only[gT,ho]at h;split at h<;>first|exact h.elim|skip
  rename_i p hx;obtain⟨a,rfl,w',hw,hk⟩:=nB h;simp only[af,ho,hx];exact jE (w':=w') hw hk
 case mapUpdate t m k x=>
  simp only[gT,ho]at h;obtain⟨w',hw,hk⟩:=h;simp only[af,ho];exact jE hw hk
 case mapEntry t m k=>
  simp only[gT,ho]at h;split at h<;>first|exact h.elim|skip
  obtain⟨v,h⟩:=jZ h;obtain⟨s,w',hw,hk⟩:=jA h;simp only[af,ho];exact yA hw hk
 case entryStore t m s x=>
  simp only[gT,ho]at h;obtain⟨w',hw,hk⟩:=h;simp only[af,ho];exact jE hw hk
 case range t x=>
  simp only[gT,ho]at h;split at h
  ·rename_i s ht hx;simp only[af,ho];refine yA (v:= .pointer (ay ⟨w.heap.size,0,az⟩)) (w':=w.alloc (.stringIter s 0)) ?_ (h _ _ rfl rfl);rw[hx];simp only[Instr.range,bind,pure,run_bind,be,run_underlying ht];rfl
  ·obtain⟨v,w',hw,hk⟩:=jA h;simp only[af,ho];exact yA hw hk
 case next it isString=>
  simp only[af,ho];cases isString
  ·simp only[gT,ho]at h;rcases h with⟨w',hw,hk⟩|⟨k,v,w',hw,hk⟩
   ·exact yA hw hk
   ·exact yA hw hk
  ·simp only[gT,ho]at h;rcases h with⟨w',hw,hk⟩|h
   ·exact yA hw hk
   ·obtain⟨k,h⟩:=jA h;obtain⟨v,w',hw,hk⟩:=jA h;exact yA hw hk
 case convert s d x=>
  simp only[gT,ho]at h;obtain⟨v,w',hw,hk⟩:=jZ h;simp only[af,ho];exact yA hw hk
 case call c=>
  have hexec:af (ev ρ) o=(ar (ev ρ) c o.type).bind λd=>invoke d.target d.args:=by
   simp only[af,ho];rfl
  simp only[gT,ho]at h;split at h
  ·rename_i f hc;have hrun:(af (ev ρ) o)=au f (c.args.map (ev ρ)):=by
    rw[hexec];unfold ar;rw[hc];simp only[ev,Deferred.ofValue,pure,be,invoke,Array.append_empty,Array.empty_append]
   rw[hrun];revert h;cases hb:vI P f<;>intro h
   ·replace h:exR P o.type λv=>∃w',Ext P f (c.args.map (ev ρ)) w v w'/\K v w':=h
    obtain⟨v,w',hw,hk⟩:=z5r h;exact(by unfold Does;rw[show(au f (c.args.map (ev ρ))).run P w=_ from hw];exact hk)
   ·exact zPa hb h
  ·rename_i x hc;split at h<;>first|exact h.elim|skip
   rename_i f first cap hx
   have hrun:(af (ev ρ) o)=au f (first++c.args.map (ev ρ)++cap):=by
    rw[hexec];unfold ar;rw[hc];simp only[hx,Deferred.ofValue,pure,be,invoke]
   rw[hrun];exact zPa h.1 h.2
  all_goals first|exact h.elim|skip
  ·rename_i hc;have hrun:af (ev ρ) o=builtin .append c.argTypes o.type (c.args.map λ| .const _=>bo|_=>bp) (c.args.map (ev ρ)):=by
    rw[hexec];unfold ar;rw[hc];rfl
   rw[hrun];obtain⟨v,w',hw,hk⟩:=jZ h;exact yA hw hk
  ·rename_i hc;have hrun:af (ev ρ) o=builtin .copy c.argTypes o.type (c.args.map λ| .const _=>bo|_=>bp) (c.args.map (ev ρ)):=by
    rw[hexec];unfold ar;rw[hc];rfl
   rw[hrun];obtain⟨v,w',hw,hk⟩:=jA h;exact yA hw hk
  ·rename_i hc;have hrun:af (ev ρ) o=builtin .delete c.argTypes o.type (c.args.map λ| .const _=>bo|_=>bp) (c.args.map (ev ρ)):=by
    rw[hexec];unfold ar;rw[hc];rfl
   rw[hrun];obtain⟨w',hw,hk⟩:=h;exact yA hw hk
  ·rename_i hc;have hrun:af (ev ρ) o=builtin .clear c.argTypes o.type (c.args.map λ| .const _=>bo|_=>bp) (c.args.map (ev ρ)):=by
    rw[hexec];unfold ar;rw[hc];rfl
   rw[hrun];obtain⟨w',hw,hk⟩:=h;exact yA hw hk
 all_goals(simp only[gT,ho]at h)
end Cv
namespace Cv
open Go
def zNb:ap->Bool
 | .const (.pointer az)=>bo
 |_=>bp
def zSe (P:aa) (op:Op):Nat:=
 match op with
 | .load _ _=>1
 | .lookup _ _ _ _=>1
 | .convert s d _=>
   match P.underlying s,P.underlying d with
   |some .string,ay (.slice _)=>2
   |some (.slice _),ay .string=>1
   |_,_=>0
 | .binOp op t x y _=>
   match op,P.underlying t with
   | .eql,ay (.pointer _)=>bif zNb y then 0 else 1
   | .neq,ay (.pointer _)=>bif zNb y then 0 else 1
   |_,_=>0
 | .call c=>
   match c.callee with
   | .builtin .len=>
     match(c.argTypes[0]?).bind P.underlying with
     |some (.map _ _)=>1
     |_=>0
   | .builtin .cap=>0
   | .builtin .min=>0
   | .builtin .max=>0
   |_=>2
 | .alloc _=>2
 | .box _ _=>2
 | .buildSlice _ _ _=>2
 | .makeMap _ _=>2
 | .makeSlice _ _ _=>2
 | .store _ _ _=>2
 | .mapUpdate _ _ _ _=>2
 | .mapEntry _ _ _=>2
 | .entryStore _ _ _ _=>2
 | .range _ _=>2
 | .entry _=>1
 | .next _ _=>2
 |_=>0
def opV (P:aa) (o:aj) (ρ:Env) (w:ac) (K:ab->ac->Prop):Prop:=
 match zSe P o.op with
 |0=>fP P o ρ λv=>K v w
 |1=>sD P o ρ w λv=>K v w
 |_=>gT P o ρ w K
def kX {P:aa} {s:Sem Next} {w w':ac} {v:ab} {K:ab->ac->Prop} (h:s.run P w= .ok (.value v) w') (hk:K v w'):Does P s w K:=by
 unfold Does;rw[h];exact hk
def z8n {P:aa} {o:aj} {ρ:Env} {w:ac} {K:ab->ac->Prop} (h:opV P o ρ w K):Does P (af (ev ρ) o) w K:=by
 unfold opV at h;split at h
 ·obtain⟨v,hk,hf⟩:=uR h;exact kX (hf w) hk
 ·obtain⟨v,hk,hf⟩:=z0d h;exact kX hf hk
 ·exact zQk h
def z5w (ops:List aj) (j:Nat):Option Nat:=
 match ops[j]? with
 |some o=>o.dst
 |none=>az
def gd (c want:Bool) (Y N:Prop):Prop:=
 match c,want with
 |true,bo=>Y
 |false,bp=>Y
 |true,bp=>N
 |false,bo=>N
def zKe (ops:List aj) (g:Option (Nat×Bool)) (ρ:Env) (Y N:Env->Prop):Prop:=
 match g with
 |none=>Y ρ
 |some (j,want)=>
  match z5w ops j with
  |none=>N ρ
  |some d=>
   match ρ d with
   | .bool c=>gd c want (Y (put ρ (ay d) (.bool want))) (N (put ρ (ay d) (.bool !want)))
   |_=>N ρ
def zWv {ρ:Env} {d:Nat} {v:ab} (h:ρ d=v):put ρ (ay d) v=ρ:=by
 funext i;simp only[put];cases hb:cn i d
 ·rfl
 ·have:=y1b hb;subst this;exact h.symm
@[reducible] def yI (a:Act):Env:=λi=>a.tmps.getD i ao
def jD (a:Act):ev (yI a)=a.eval:=by
 funext x;cases x<;>rfl
def envOf_put {a:Act} {dst:Option Nat} {v:ab} (h:∀d,dst=ay d->d<a.tmps.size):yI (a.put dst v)=put (yI a) dst v:=by
 cases dst with
 |none=>rfl
 |some d=>
  funext i;have:=h d rfl;simp only[yI,Act.put,put];cases hb:cn i d
  ·have hne:i≠d:=λe=>by subst e;simp at hb
   simp[y2s,y5n (Ne.symm hne)]
  ·have e:=y1b hb;subst e;simp[y2s,y4p this]
def zCw (ops:List aj) (tmps:Array ab) (j:Nat):yielded ops.toArray tmps j=match z5w ops j with
 |none=>az
 |some d=>match tmps[d]? with|some (.bool b)=>ay b|_=>az:=by
 unfold yielded z5w;simp only[y2y];cases ops[j]? with
 |none=>rfl
 |some o=>
  obtain⟨dst,op,ty,pos,after,g⟩:=o;cases dst with
  |none=>rfl
  |some d=>
   simp only[Option.bind_some];cases tmps[d]? with
   |none=>rfl
   |some v=>cases v<;>rfl
def rR {ops:List aj} {o:aj} {a:Act} {Y N:Env->Prop} (h:zKe ops o.guard (yI a) Y N):
 if ce o (yielded ops.toArray a.tmps)then Y (yI a)else N (yI a):=by
 unfold zKe at h;unfold ce;split at h
 ·rename_i hg;rw[hg];exact h
 ·rename_i j want hg;rw[hg];have hy:=zCw ops a.tmps j;split at h
  ·rename_i hd;rw[hd]at hy;simp only[hy];simpa using h
  ·rename_i d hd;rw[hd]at hy;simp only[hy];have hv:yI a d=(a.tmps[d]?).getD ao:=by simp[yI,y2s]
   rw[hv]at h;cases ht:a.tmps[d]? with
   |none=>
    rw[ht]at h;simpa[ao]using h
   |some v=>
    rw[ht]at h hv;simp only[y3i]at h hv;cases v with
    |bool c=>
     simp only[]at h ⊢;have hs:∀b,c=b->put (yI a) (ay d) (.bool b)=yI a:=λb hb=>zWv (by rw[hv,hb])
     cases c<;>cases want<;>simp only[gd,Bool.not_true,y6f]at h<;>rw[hs _ rfl]at h<;>simpa using h
    |_=>simpa using h
def zVg (P:aa) (ops:List aj):List aj->Env->ac->(Env->ac->Prop)->Prop
 |[],ρ,w,K=>K ρ w
 |o::rest,ρ,w,K=>
  zKe ops o.guard ρ (λρ=>opV P o ρ w λv w'=>zVg P ops rest (put ρ o.dst v) w' K) (λρ=>zVg P ops rest (put ρ o.dst ao) w K)
def zHk (n:Nat) (A:Nat->Bool) (ops:List aj):Prop:=∀o∈ops,∀d,o.dst=ay d->d<n/\A d=bo
structure Good (n:Nat) (A:Nat->Bool) (e0:Env) (a:Act):Prop where
 size:a.tmps.size=n
 defers:a.defers=[]
 same:∀s,A s=bp->yI a s=e0 s
def zXx (a:Act) (d:Option Nat) (v:ab):(a.put d v).tmps.size=a.tmps.size/\(a.put d v).defers=a.defers:=by
 cases d<;>simp[Act.put]
def Good.envOf_put {n:Nat} {A:Nat->Bool} {e0:Env} {a:Act} (h:Good n A e0 a) {dst:Option Nat} (hd:∀d,dst=ay d->d<n/\A d=bo) (v:ab):
 yI (a.put dst v)=put (yI a) dst v:=Cv.envOf_put λd hd'=>by rw[h.size];exact(hd d hd').1
def Good.put {n:Nat} {A:Nat->Bool} {e0:Env} {a:Act} (h:Good n A e0 a) {dst:Option Nat} (hd:∀d,dst=ay d->d<n/\A d=bo) (v:ab):Good n A e0 (a.put dst v):=by
 refine⟨(zXx _ _ _).1.trans h.size,(zXx _ _ _).2.trans h.defers,λs hs=> ?_⟩;rw[h.envOf_put hd];cases dst with
 |none=>exact h.same s hs
 |some d=>
  simp only[Cv.put];cases hb:cn s d
  ·exact h.same s hs
  ·have e:=y1b hb;subst e;have:=(hd s rfl).2;rw[hs]at this;cases this
def zAw {P:aa} {o:aj} {a:Act} {w:ac} {K:Act->ac->Prop} {Q:Exit->Act->ac->Prop}
 (h:Does P (af a.eval o) w λv w'=>K (a.put o.dst v) w'):o.wp P a w K Q:=by
 unfold Does at h;unfold Oper.wp;split at h
 ·rename_i v w' hr;rw[hr];exact h
 ·rename_i w' hr;rw[hr];exact h
 ·rename_i f args w' hr;rw[hr];exact h.mono λe w'' ⟨v,he,hk⟩=>by subst he;exact hk
 ·exact h.elim
def zNm {P:aa} {ops:List aj} {n:Nat} {A:Nat->Bool} {e0:Env} {Q:Exit->Act->ac->Prop} {K:Env->ac->Prop}
 (hQ:∀a w,Good n A e0 a->K (yI a) w->Q .normal a w):
 ∀(l:List aj) (a:Act) (w:ac),zHk n A l->Good n A e0 a->zVg P ops l (yI a) w K->wpList P ops.toArray Q l a w
 |[],a,w,_,hg,h=>hQ a w hg h
 |o::l,a,w,hf,hgd,h=>by
  have hdst:=hf o y1f;have hf':zHk n A l:=λo' ho'=>hf o' (y1g _ ho')
  have hg:=rR h;have nx:∀{v:ab} {w:ac},zVg P ops l (put (yI a) o.dst v) w K->wpList P ops.toArray Q l (a.put o.dst v) w:=λ{v w} hh=>
   zNm hQ l _ _ hf' (hgd.put hdst v) (by rw[hgd.envOf_put hdst];exact hh)
  unfold wpList;split
  ·rename_i hw;rw[y1a hw]at hg;left;refine zAw ?_;have:=z8n hg;rw[jD]at this;unfold Does at this ⊢;split at this
   ·exact nx this
   ·exact nx this
   ·exact this.mono λe w'' ⟨v,he,hk⟩=>⟨v,he,nx hk⟩
   ·exact this
  ·rename_i hw;rw[y0y hw]at hg;exact nx hg
end Cv
namespace Cv
open Go
def yCe (acc:List Nat) (o:aj):Nat:=
 o.after.toList.foldl (λs e=>bif cd .any e then s|||2 ^ e.on|||acc.getD e.on 0 else s) 0
def vL:List aj->List Nat->List Nat
 |[],acc=>acc
 |o::rest,acc=>vL rest (acc++[yCe acc o])
def Bef (bf:List Nat) (i r:Nat):Bool:=(bf.getD i 0).testBit r
def rC (ops:List aj) (L:Nat->Prop):Prop:=∀i o,ops[i]?=ay o->L i->∀e∈o.after,cd .any e=bo->L e.on
def zPd {ops:List aj} {acc:List Nat} {L:Nat->Prop} (hacc:∀k,L k->∀r,(acc.getD k 0).testBit r=bo->L r):
 ∀(l:List Edge) (s:Nat),(∀r,s.testBit r=bo->L r)->(∀e∈l,cd .any e=bo->L e.on)->
  ∀r,(l.foldl (λs e=>bif cd .any e then s|||2 ^ e.on|||acc.getD e.on 0 else s) s).testBit r=bo->L r
 |[],s,hs,_,r,h=>hs r h
 |e::l,s,hs,hl,r,h=>by
  refine zPd (ops:=ops) hacc l _ ?_ (λe' he'=>hl e' (y1g _ he')) r h;intro r hr;dsimp only at hr;cases hb:cd .any e
  ·rw[hb]at hr;exact hs r hr
  ·have hon:=hl e (by simp) hb;rw[hb]at hr;simp only[cond_true,Nat.testBit_or,Nat.testBit_two_pow,Bool.or_eq_true,y2v]at hr;rcases hr with(hr|hr)|hr
   ·exact hs r hr
   ·exact hr▸hon
   ·exact hacc _ hon r hr
def befL_bits {ops:List aj} {L:Nat->Prop} (hc:rC ops L):∀(l:List aj) (acc:List Nat),(∀j,l[j]? =ops[acc.length+j]?)->
 (∀k o,k<acc.length->ops[k]? =ay o->(∀e∈o.after,cd .any e=bo->L e.on)->∀r,(acc.getD k 0).testBit r=bo->L r)->
 ∀k o,ops[k]? =ay o->(∀e∈o.after,cd .any e=bo->L e.on)->∀r,((vL l acc).getD k 0).testBit r=bo->L r
 |[],acc,hl,hacc,k,o,ho,hd,r,hr=>by
  by_cases hk:k<acc.length
  ·exact hacc k o hk ho hd r hr
  ·exfalso;have:=hl (k-acc.length);rw[show acc.length+(k-acc.length)=k by omega,ho]at this;simp at this
 |o::l,acc,hl,hacc,k,o',ho',hd,r,hr=>by
  refine befL_bits hc l (acc++[yCe acc o]) ?_ ?_ k o' ho' hd r hr
  ·intro j;have:=hl (j+1);simp only[y0x,y1d,y2r];rw[show acc.length+(0+1)+j=acc.length+(j+1)by omega];simpa using this
  ·intro k2 o2 hk2 ho2 hd2 r2 hr2;have hlook:∀k,L k->∀r,(acc.getD k 0).testBit r=bo->L r:=by
    intro k3 hL r3 h3;by_cases hk3:k3<acc.length
    ·cases ho3:ops[k3]? with
     |none=>
      exfalso;have:=hl 0;simp only[y5o]at this;rw[List.getElem?_eq_none_iff]at ho3;have h4:acc.length<ops.length:=by
       rcases y3q acc.length ops.length with h|h
       ·exact h
       ·rw[y2i h]at this;simp at this
      omega
     |some o3=>exact hacc k3 o3 hk3 ho3 (hc k3 o3 ho3 hL) r3 h3
    ·simp[y1h,y2i (Nat.not_lt.1 hk3)]at h3
   by_cases hk:k2<acc.length
   ·rw[y1h,y3r hk,<- y1h]at hr2;exact hacc k2 o2 hk ho2 hd2 r2 hr2
   ·have hk':k2=acc.length:=by simp at hk2;omega
    subst hk';rw[y1h,y3c (y1u _)]at hr2;simp only[y6g,y3h,y3i]at hr2;have h0:=hl 0;simp only[y3h,y5o]at h0;rw[ho2]at h0;cases h0;exact zPd (ops:=ops) hlook _ 0 (by simp) (λe he hb=>hd2 e (by simpa using he) hb) r2 hr2
def zZs {ops:List aj} {L:Nat->Prop} (hc:rC ops L) {i:Nat} {o:aj} (ho:ops[i]? =ay o) (hd:∀e∈o.after,cd .any e=bo->L e.on)
 {r:Nat} (h:Bef (vL ops []) i r=bo):L r:=
 befL_bits hc ops [] (by simp) (by simp) i o ho hd r h
@[reducible] def Mon:=Nat×(ac->Prop)
def kB (bf:List Nat) (i:Nat) (M:List Mon):List Mon:=M.filter λm=> !Bef bf i m.1
def zNc (M:List Mon) (w:ac):Prop:=∀m∈M,m.2 w
def zIo (P:aa) (ops:Array aj) (i:Nat) (K:Act->ac->Prop) (a:Act) (w:ac):Prop:=
 match ops[i]? with
 |none=>K a w
 |some o=>if ce o (yielded ops a.tmps)then Does P (af a.eval o) w (λv w'=>K (a.put o.dst v) w')else K (a.put o.dst ao) w
def Does.mono {P:aa} {s:Sem Next} {w:ac} {K K':ab->ac->Prop} (h:Does P s w K) (hk:∀v w',K v w'->K' v w'):Does P s w K':=by
 unfold Does at*;split at h
 ·exact hk _ _ h
 ·exact hk _ _ h
 ·exact h.mono λe w'' ⟨v,he,h⟩=>⟨v,he,hk _ _ h⟩
 ·exact h
def eQ {P:aa} {ops:Array aj} {i:Nat} {K K':Act->ac->Prop} {a:Act} {w:ac} (h:zIo P ops i K a w) (hk:∀a w,K a w->K' a w):zIo P ops i K' a w:=by
 unfold zIo at*;split
 ·rename_i ho;simp only[ho]at h;exact hk _ _ h
 ·rename_i o ho;simp only[ho]at h;split
  ·rename_i hw;rw[y1a hw]at h;exact h.mono λv w'=>hk _ _
  ·rename_i hw;rw[y0y hw]at h;exact hk _ _ h
def zDg (P:aa) (ops:Array aj) (bf:List Nat) (Q:Act->ac->Prop):Nat->List Mon->Array Bool->Act->ac->Prop
 |0,_,listed,a,w=>bz .any ops listed=[]/\Q a w
 |fuel+1,M,listed,a,w=>
  (bz .any ops listed=[]->Q a w)/\
  ∀i∈bz .any ops listed,zIo P ops i (λa' w'=>zNc (kB bf i M) w'/\zDg P ops bf Q fuel (kB bf i M) (listed.setIfInBounds i bo) a' w') a w
def zOz {bf:List Nat} {i:Nat} {M M':List Mon} (h:∀m∈M',m∈M):∀m∈kB bf i M',m∈kB bf i M:=by
 intro m hm;simp only[kB,y2x]at hm ⊢;exact⟨h m hm.1,hm.2⟩
def zUq {P:aa} {ops:Array aj} {bf:List Nat} {Q:Act->ac->Prop}:∀(fuel:Nat) {M M':List Mon} (listed:Array Bool) (a:Act) (w:ac),
 (∀m∈M',m∈M)->zDg P ops bf Q fuel M listed a w->zDg P ops bf Q fuel M' listed a w
 |0,_,_,_,_,_,_,h=>h
 |fuel+1,M,M',listed,a,w,hs,h=>⟨h.1,λi hi=>eQ (h.2 i hi) λa' w' hh=>
   ⟨λm hm=>hh.1 m (zOz hs m hm),zUq fuel _ _ _ (zOz hs) hh.2⟩⟩
def uC {P:aa} {ops:Array aj} {bf:List Nat} {Q:Act->ac->Prop} {Q':Exit->Act->ac->Prop} (hQ:∀a w,Q a w->Q' .normal a w):
 ∀(fuel:Nat) {M:List Mon} (listed:Array Bool) (a:Act) (w:ac),zDg P ops bf Q fuel M listed a w->wpAny P .any ops Q' fuel listed a w
 |0,_,_,_,_,h=>⟨h.1,hQ _ _ h.2⟩
 |fuel+1,M,listed,a,w,h=>⟨λh0=>hQ _ _ (h.1 h0),λi hi=>by
   have:=h.2 i hi;unfold zIo at this;unfold wpOp;split
   ·rename_i ho;simp only[ho]at this;exact uC hQ fuel _ _ _ this.2
   ·rename_i o ho;simp only[ho]at this;split
    ·rename_i hw;rw[y1a hw]at this;exact .inl (zAw (this.mono λv w' hh=>uC hQ fuel _ _ _ hh.2))
    ·rename_i hw;rw[y0y hw]at this;exact uC hQ fuel _ _ _ this.2⟩
def pQ (P:aa) (ops:Array aj) (o:aj) (v:ab) (a:Act) (w:ac):Prop:=
 (ce o (yielded ops a.tmps)=bo/\(af a.eval o).run P w=.ok (.value v) w)\/(ce o (yielded ops a.tmps)=bp/\v=ao)
def zPg {P:aa} {ops:Array aj} {i:Nat} {o:aj} {v:ab} {a:Act} {w:ac} {K:Act->ac->Prop} (hi:ops[i]? =ay o) (h:pQ P ops o v a w) (hk:K (a.put o.dst v) w):zIo P ops i K a w:=by
 unfold zIo;simp only[hi];rcases h with⟨hw,hr⟩|⟨hw,rfl⟩
 ·rw[y1a hw];exact kX hr hk
 ·rw[y0y (by rw[hw];simp)];exact hk
def z7z {listed:Array Bool} {i:Nat} (h:listed.getD i bo=bp):i<listed.size:=by
 rcases y3q i listed.size with h'|h'
 ·exact h'
 ·simp[y2s,y3x h']at h
def xZ (listed:Array Bool) (i:Nat):Prop:=listed.getD i bp=bo
def zDz {listed:Array Bool} {i j:Nat} (h:xZ listed j):xZ (listed.setIfInBounds i bo) j:=by
 unfold xZ at*;by_cases hij:i=j
 ·subst hij;have:i<listed.size:=by
   rcases y3q i listed.size with h'|h'
   ·exact h'
   ·simp[y2s,y3x h']at h
  simp[y2s,y4p this]
 ·simpa[y2s,y5n hij]using h
def zFp {listed:Array Bool} {i j:Nat} (h:xZ (listed.setIfInBounds i bo) j):j=i\/xZ listed j:=by
 unfold xZ at*;by_cases hij:i=j
 ·exact .inl hij.symm
 ·right;simpa[y2s,y5n hij]using h
def zLy {listed:Array Bool} {i:Nat} (h:listed.getD i bo=bp):¬xZ listed i:=by
 unfold xZ;have:=z7z h;simp only[y2s,y5k this]at h ⊢;simp at h ⊢;exact h
def wP {ops:List aj} {listed:Array Bool} (hc:rC ops (xZ listed)) {i:Nat} (hi:i∈bz .any ops.toArray listed):rC ops (xZ (listed.setIfInBounds i bo)):=by
 intro j o ho hj e he hb;rcases zFp hj with rfl|hj
 ·obtain⟨_,o',ho',hall⟩:=mem_ready.1 hi;simp only[y2y]at ho';rw[ho]at ho';cases ho';exact zDz (hall e he hb)
 ·exact zDz (hc j o ho hj e he hb)
def n6 (ops:List aj) (bf:List Nat):Bool:=
 Region.noSelect ops.toArray && (ct ops.length).all λi=>(ct i).all λj=>
  match ops[i]?,ops[j]? with
  |some oi,ay oj=>Bef bf i j||(oi.apart ops.toArray oj && oj.apart ops.toArray oi)
  |_,_=>bo
def zXg {ops:List aj} {bf:List Nat} (h:n6 ops bf=bo) {i j:Nat} {oi oj:aj} (hi:ops[i]? =ay oi) (hj:ops[j]? =ay oj) (hne:i≠j)
 (h1:Bef bf i j=bp) (h2:Bef bf j i=bp):oi.apart ops.toArray oj=bo:=by
 simp only[n6,y1l,y4h,y4f]at h;have lt:∀{k:Nat} {o:aj},ops[k]? =ay o->k<ops.length:=λ{k o} hk=>by
  rcases y3q k ops.length with h'|h'
  ·exact h'
  ·rw[y2i h']at hk;cases hk
 rcases Nat.lt_or_gt_of_ne hne with hlt|hlt
 ·have:=h.2 j (lt hj) i hlt;simp only[hi,hj,h2,Bool.false_or,y1l]at this;exact this.2
 ·have:=h.2 i (lt hi) j hlt;simp only[hi,hj,h1,Bool.false_or,y1l]at this;exact this.1
def yDf {P:aa} {ops:Array aj} {o:aj} {v u:ab} {a:Act} {w:ac} {d:Option Tmp} (hs:∀cs b,o.op≠.select cs b) (hd:∀t,d=ay t->t∉o.looksAt ops):
 pQ P ops o v (a.put d u) w↔pQ P ops o v a w:=by
 unfold pQ;rw[execOp_put o hs a d u hd,wanted_put o a d u hd]
def yEm {P:aa} {ops:Array aj} {j:Nat} {oi oj:aj} {v:ab} (hj:ops[j]? =ay oj) (hap:oi.apart ops oj=bo) (hsj:∀cs b,oj.op≠.select cs b)
 {K:Act->ac->Prop} {a:Act} {w:ac} (h:zIo P ops j K (a.put oi.dst v) w):
 zIo P ops j (λa' w'=>(∃u,a'=a.put oj.dst u)/\K (a'.put oi.dst v) w') a w:=by
 obtain⟨h1,h2,h3⟩:=Oper.apart_spec hap;unfold zIo at*;simp only[hj]at*;rw[wanted_put oj a oi.dst v h1]at h;split
 ·rename_i hw;rw[y1a hw]at h;rw[execOp_put oj hsj a oi.dst v h1]at h;refine h.mono λu w' hk=>⟨⟨u,rfl⟩,?_⟩
  rw[<- Act.put_comm a v u h2];exact hk
 ·rename_i hw;rw[y0y hw]at h;exact⟨⟨_,rfl⟩,by rw[<- Act.put_comm a v ao h2];exact h⟩
def uL {P:aa} {ops:List aj} {Q:Act->ac->Prop} (hok:n6 ops (vL ops [])=bo) {r:Nat} {o:aj} {v:ab} (hr:ops[r]? =ay o):
 ∀(fuel:Nat) (M:List Mon) (listed:Array Bool) (a:Act) (w:ac),rC ops (xZ listed)->r∈bz .any ops.toArray listed->
  pQ P ops.toArray o v a w->zNc M w->
  zDg P ops.toArray (vL ops []) Q fuel ((r,λw=>pQ P ops.toArray o v a w)::M) (listed.setIfInBounds r bo) (a.put o.dst v) w->
  zDg P ops.toArray (vL ops []) Q (fuel+1) M listed a w:=by
 have hns:∀(i:Nat) (o:aj),ops[i]? =ay o->∀cs b,o.op≠.select cs b:=by
  intro i o hi cs b;simp only[n6,y1l]at hok;exact Region.noSelect_spec hok.1 i o cs b (by simpa using hi)
 intro fuel
 induction fuel with
 |zero=>
  intro M listed a w hc hrr hs hM H;refine⟨λh=>(by rw[h]at hrr;cases hrr),λi hi=> ?_⟩;by_cases hir:i=r
  ·subst hir;refine zPg (by simpa using hr) hs ⟨λm hm=>hM m (by simp only[kB,y2x]at hm;exact hm.1),?_⟩;exact H
  ·have:=ready_mono hi hir;rw[H.1]at this;cases this
 |succ fuel ih=>
  intro M listed a w hc hrr hs hM H;refine⟨λh=>(by rw[h]at hrr;cases hrr),λi hi=> ?_⟩;by_cases hir:i=r
  ·subst hir;refine zPg (by simpa using hr) hs ⟨λm hm=>hM m (by simp only[kB,y2x]at hm;exact hm.1),?_⟩;refine zUq _ _ _ _ ?_ H;intro m hm;simp only[kB,y2x]at hm;exact y1g _ hm.1
  ·have h1:=H.2 i (ready_mono hi hir);obtain⟨hiun,oi,hoi,hall⟩:=mem_ready.1 hi;obtain⟨hrun,o',ho',hrall⟩:=mem_ready.1 hrr;simp only[y2y]at hoi ho';rw[hr]at ho';cases ho';have hL:∀(k:Nat) (ok:aj),ops[k]? =ay ok->(∀e∈ok.after,cd .any e=bo->listed.getD e.on bp=bo)->∀q,Bef (vL ops []) k q=bo->xZ listed q:=
    λk ok hk hd q hq=>zZs hc hk hd hq
   have nri:Bef (vL ops []) i r=bp:=by
    cases hb:Bef (vL ops []) i r with
    |false=>rfl
    |true=>exact absurd (hL i oi hoi hall r hb) (zLy hrun)
   have nir:Bef (vL ops []) r i=bp:=by
    cases hb:Bef (vL ops []) r i with
    |false=>rfl
    |true=>exact absurd (hL r o hr hrall i hb) (zLy hiun)
   have hap:=zXg hok hr hoi (Ne.symm hir) nir nri;have h2:=yEm (by simpa using hoi) hap (hns i oi hoi) h1;have hap':=(Oper.apart_spec hap).2.2;have hkeep:kB (vL ops []) i ((r,λw=>pQ P ops.toArray o v a w)::M)=(r,λw=>pQ P ops.toArray o v a w)::kB (vL ops []) i M:=by
    simp[kB,nri]
   refine eQ h2 λa' w' hh=> ?_
   obtain⟨⟨u,rfl⟩,hA,hB⟩:=hh;rw[hkeep]at hA hB;have hs':∀w,pQ P ops.toArray o v (a.put oi.dst u) w↔pQ P ops.toArray o v a w:=λw=>yDf (hns r o hr) hap'
   refine⟨λm hm=>hA m (y1g _ hm),?_⟩;have hfun:(λw=>pQ P ops.toArray o v a w)=λw=>pQ P ops.toArray o v (a.put oi.dst u) w:=by
    funext w;exact propext (hs' w).symm
   rw[hfun]at hA hB;refine ih _ _ _ _ (wP hc hi) (ready_mono hrr (Ne.symm hir)) (hA _ y1f) (λm hm=>hA m (y1g _ hm)) ?_;rw[Array.setIfInBounds_comm _ _ hir];exact hB
end Cv
namespace Cv
open Go
def rX (P:aa) (o:aj) (ρ:Env) (v:ab) (w:ac):Prop:=
 match o.op with
 | .load t x=>
   match ev ρ x with
   | .pointer p=>zVa p λa=>aO P t a w v
   |_=>False
 | .lookup t m k ok=>fM P (cg t (ev ρ m) (ev ρ k) ok) w v
 | .convert s d x=>fM P (ax s d (ev ρ x)) w v
 | .binOp op t x y _=>fM P (do ak op t x y (ev ρ x) (ev ρ y);binOp op t (ev ρ x) (ev ρ y)) w v
 | .call {callee:= .builtin .len,args,argTypes}=>fM P (bv argTypes o.type (args.map (ev ρ))) w v
 | .entry x=>fM P (Instr.entry (ev ρ x)) w v
 |_=>False
def z7s {P:aa} {o:aj} {ρ:Env} {v:ab} {w:ac} (h:rX P o ρ v w):(af (ev ρ) o).run P w= .ok (.value v) w:=by
 unfold rX at h;split at h
 ·rename_i t x ho;split at h
  ·rename_i p hx;obtain⟨a,rfl,h⟩:=nB h;simp only[af,ho,hx];exact yD h
  ·exact h.elim
 ·rename_i t m k ok ho;simp only[af,ho];exact yD h
 ·rename_i s d x ho;simp only[af,ho];exact yD h
 ·rename_i op t x y u ho;simp only[af,ho];exact yD h
 ·rename_i args argTypes ho;simp only[af,ho];exact yD h
 ·rename_i x ho;simp only[af,ho];exact yD h
 ·exact h.elim
def z1e {P:aa} {ρ:Env} {o:aj} {w:ac} {K:ab->Prop} (h:sD P o ρ w K):∃v,K v/\rX P o ρ v w:=by
 cases ho:o.op
 case load t x=>
  simp only[sD,ho]at h;split at h
  ·rename_i p hx;obtain⟨a,rfl,h⟩:=nB h;obtain⟨v,hv,h⟩:=jZ h;refine⟨v,h,?_⟩;simp only[rX,ho,hx];exact hv
  ·exact h.elim
 case lookup t m k ok=>
  simp only[sD,ho]at h;split at h
  ·rename_i e he;obtain⟨v,h⟩:=jZ h;obtain⟨b,hb,h⟩:=jA h;refine⟨_,h,?_⟩;simp only[rX,ho];cases ok
   ·exact zHo hb
   ·exact hb
  ·exact h.elim
 case convert s d x=>
  simp only[sD,ho]at h;obtain⟨v,hv,h⟩:=jZ h;refine⟨v,h,?_⟩;simp only[rX,ho];exact hv
 case binOp op t x y u=>
  simp only[sD,ho]at h;split at h
  ·obtain⟨v,h1,h2,h⟩:=jA h;refine⟨v,h,?_⟩;simp only[rX,ho,fM,bind,run_bind,h2];exact h1
  ·obtain⟨v,h1,h2,h⟩:=jA h;refine⟨v,h,?_⟩;simp only[rX,ho,fM,bind,run_bind,h2];exact h1
  ·exact h.elim
 case call c=>
  simp only[sD,ho]at h;split at h<;>first|exact h.elim|skip
  all_goals first|(exfalso;rename_i hh;cases hh;done)|skip
  rename_i args argTypes hh;cases hh;obtain⟨v,hv,h⟩:=jA h;refine⟨v,h,?_⟩;simp only[rX,ho];exact hv
 case entry x=>
  simp only[sD,ho]at h;obtain⟨v,hv,h⟩:=h;refine⟨v,h,?_⟩;simp only[rX,ho];exact hv
 all_goals(simp only[sD,ho]at h)
def zZn:List Mon->ac->Prop->Prop
 |[],_,X=>X
 |m::ms,w,X=>m.2 w/\zZn ms w X
def zNw:∀{M:List Mon} {w:ac} {X:Prop},zZn M w X->zNc M w/\X
 |[],_,_,h=>⟨λm hm=>(by cases hm),h⟩
 |m::ms,w,X,h=>by
  obtain⟨h1,h2⟩:=h;obtain⟨h3,h4⟩:=zNw h2;refine⟨λm' hm=> ?_,h4⟩;rcases y1r.1 hm with rfl|hm
  ·exact h1
  ·exact h3 _ hm
def yIx:List Nat->(Nat->Prop)->Prop
 |[],_=>True
 |[e],f=>f e
 |e::es,f=>f e/\yIx es f
def zNu:∀{l:List Nat} {f:Nat->Prop},yIx l f->∀i∈l,f i
 |[],_,_,i,hi=>by cases hi
 |[e],f,h,i,hi=>by rcases y2l.1 hi with rfl;exact h
 |e::e'::es,f,h,i,hi=>by
  rcases y1r.1 hi with rfl|hi
  ·exact h.1
  ·exact zNu h.2 i hi
def yJr (P:aa) (ops:List aj) (i:Nat):Bool:=
 match ops[i]? with
 |some o=>match zSe P o.op with
  |2=>bp
  |_=>bo
 |none=>bo
def lZ (P:aa) (ops:List aj) (bf:List Nat):Nat->Array Bool->List Mon->Env->ac->(Env->ac->Prop)->Prop
 |0,listed,_,ρ,w,K=>
  match bz .any ops.toArray listed with
  |[]=>K ρ w
  |_=>False
 |fuel+1,listed,M,ρ,w,K=>
  match bz .any ops.toArray listed with
  |[]=>K ρ w
  |r::rs=>
   match(r::rs).find? (yJr P ops)with
   |some i=>
    match ops[i]? with
    |none=>False
    |some o=>zKe ops o.guard ρ
      (λρ'=>match zSe P o.op with
        |0=>fP P o ρ' λv=>lZ P ops bf fuel (listed.setIfInBounds i bo) M (put ρ' o.dst v) w K
        |_=>sD P o ρ' w λv=>lZ P ops bf fuel (listed.setIfInBounds i bo) ((i,rX P o ρ' v)::M) (put ρ' o.dst v) w K)
      (λρ'=>lZ P ops bf fuel (listed.setIfInBounds i bo) M (put ρ' o.dst ao) w K)
   |none=>yIx (r::rs) λi=>
    match ops[i]? with
    |none=>False
    |some o=>zKe ops o.guard ρ
      (λρ'=>gT P o ρ' w λv w'=>zZn (kB bf i M) w' (lZ P ops bf fuel (listed.setIfInBounds i bo) (kB bf i M) (put ρ' o.dst v) w' K))
      (λρ'=>lZ P ops bf fuel (listed.setIfInBounds i bo) (kB bf i M) (put ρ' o.dst ao) w K)
def bJ {n:Nat} {A:Nat->Bool} {l:List aj} (h:zHk n A l) {i:Nat} {o:aj} (ho:l[i]? =ay o):∀d,o.dst=ay d->d<n/\A d=bo:=
 h o (y1j ho)
def bH {P:aa} {ops:Array aj} {bf:List Nat} {Q:Act->ac->Prop} {i:Nat} {f:ac->Prop} (hf:∀w,f w):
 ∀(fuel:Nat) {M:List Mon} (listed:Array Bool) (a:Act) (w:ac),zDg P ops bf Q fuel M listed a w->zDg P ops bf Q fuel ((i,f)::M) listed a w
 |0,_,_,_,_,h=>h
 |fuel+1,M,listed,a,w,h=>⟨h.1,λj hj=>eQ (h.2 j hj) λa' w' hh=>by
   have hk:kB bf j ((i,f)::M)=if Bef bf j i then kB bf j M else(i,f)::kB bf j M:=by
    simp only[kB,List.filter_cons];cases Bef bf j i<;>simp
   rw[hk];cases Bef bf j i
   ·refine⟨λm hm=> ?_,bH hf fuel _ _ _ hh.2⟩;simp only[y1p,if_false,y1r]at hm;rcases hm with rfl|hm
    ·exact hf w'
    ·exact hh.1 m hm
   ·exact hh⟩
def zWr {P:aa} {ops:Array aj} {bf:List Nat} {Q:Act->ac->Prop} {i:Nat} {f g:ac->Prop} (hfg:∀w,f w->g w):
 ∀(fuel:Nat) {M:List Mon} (listed:Array Bool) (a:Act) (w:ac),zDg P ops bf Q fuel ((i,f)::M) listed a w->zDg P ops bf Q fuel ((i,g)::M) listed a w
 |0,_,_,_,_,h=>h
 |fuel+1,M,listed,a,w,h=>⟨h.1,λj hj=>eQ (h.2 j hj) λa' w' hh=>by
   have hk:∀f:ac->Prop,kB bf j ((i,f)::M)=if Bef bf j i then kB bf j M else(i,f)::kB bf j M:=by
    intro f;simp only[kB,List.filter_cons];cases Bef bf j i<;>simp
   rw[hk]at hh ⊢;cases hb:Bef bf j i
   ·rw[hb]at hh;simp only[y1p,if_false]at hh ⊢;refine⟨λm hm=> ?_,zWr hfg fuel _ _ _ hh.2⟩;rcases y1r.1 hm with rfl|hm
    ·exact hfg w' (hh.1 _ y1f)
    ·exact hh.1 m (y1g _ hm)
   ·rw[hb]at hh;exact hh⟩
def z0h {P:aa} {ops:List aj} {n:Nat} {A:Nat->Bool} {e0:Env} {K:Env->ac->Prop} {Q:Act->ac->Prop} (hok:n6 ops (vL ops [])=bo) (hf:zHk n A ops)
 (hQ:∀a w,Good n A e0 a->K (yI a) w->Q a w):
 ∀(fuel:Nat) (listed:Array Bool) (M:List Mon) (a:Act) (w:ac),rC ops (xZ listed)->zNc M w->Good n A e0 a->
  lZ P ops (vL ops []) fuel listed M (yI a) w K->zDg P ops.toArray (vL ops []) Q fuel M listed a w:=by
 intro fuel
 induction fuel with
 |zero=>
  intro listed M a w hc hM hgd h;unfold lZ at h;split at h
  ·rename_i hr;exact⟨hr,hQ a w hgd h⟩
  ·exact h.elim
 |succ fuel ih=>
  intro listed M a w hc hM hgd h;unfold lZ at h;split at h
  ·rename_i hr;exact⟨λ_=>hQ a w hgd h,λi hi=>by rw[hr]at hi;cases hi⟩
  ·rename_i r rs hr;have hne:bz .any ops.toArray listed≠[]:=by rw[hr];simp
   split at h
   ·rename_i i hfind;have hi:i∈bz .any ops.toArray listed:=by rw[hr];exact List.mem_of_find?_eq_some hfind
    split at h<;>first|exact h.elim|skip
    rename_i o ho;have hput:∀v,yI (a.put o.dst v)=put (yI a) o.dst v:=λv=>hgd.envOf_put (bJ hf ho) v
    have hg:=rR h;have nx:∀{M:List Mon} {v:ab},zNc M w->lZ P ops (vL ops []) fuel (listed.setIfInBounds i bo) M (put (yI a) o.dst v) w K->
     zDg P ops.toArray (vL ops []) Q fuel M (listed.setIfInBounds i bo) (a.put o.dst v) w:=λ{M v} hM hh=>
     ih _ _ _ _ (wP hc hi) hM (hgd.put (bJ hf ho) _) (by rw[hput];exact hh)
    by_cases hw:ce o (yielded ops.toArray a.tmps)=bo
    ·rw[y1a hw]at hg;split at hg
     ·obtain⟨v,hk,hfree⟩:=uR hg;rw[jD]at hfree;have hs:∀w,pQ P ops.toArray o v a w:=λw=> .inl ⟨hw,hfree w⟩
      exact uL hok ho fuel M listed a w hc hi (hs w) hM (bH hs fuel _ _ _ (nx hM hk))
     ·obtain⟨v,hk,hst⟩:=z1e hg;have hw':∀w,rX P o (yI a) v w->pQ P ops.toArray o v a w:=λw hst=> .inl ⟨hw,by rw[<- jD];exact z7s hst⟩
      refine uL hok ho fuel M listed a w hc hi (hw' w hst) hM (zWr hw' fuel _ _ _ (nx ?_ hk));intro m hm;rcases y1r.1 hm with rfl|hm
      ·exact hst
      ·exact hM m hm
    ·rw[y0y hw]at hg;have hs:∀w,pQ P ops.toArray o ao a w:=λw=> .inr ⟨by simpa using hw,rfl⟩
     exact uL hok ho fuel M listed a w hc hi (hs w) hM (bH hs fuel _ _ _ (nx hM hg))
   ·refine⟨λh0=>absurd h0 hne,λi hi=> ?_⟩;have h1:=zNu h i (by rw[<- hr];exact hi);split at h1<;>first|exact h1.elim|skip
    rename_i o ho;have hput:∀v,yI (a.put o.dst v)=put (yI a) o.dst v:=λv=>hgd.envOf_put (bJ hf ho) v
    have hg:=rR h1;unfold zIo;simp only[y2y,ho];by_cases hw:ce o (yielded ops.toArray a.tmps)=bo
    ·rw[y1a hw]at hg ⊢;have hdoes:=zQk hg;rw[jD]at hdoes;refine hdoes.mono λv w' hh=> ?_
     obtain⟨hM',hh⟩:=zNw hh;exact⟨hM',ih _ _ _ _ (wP hc hi) hM' (hgd.put (bJ hf ho) _) (by rw[hput];exact hh)⟩
    ·rw[y0y hw]at hg ⊢;have hM':zNc (kB (vL ops []) i M) w:=λm hm=>hM m (by simp only[kB,y2x]at hm;exact hm.1)
     exact⟨hM',ih _ _ _ _ (wP hc hi) hM' (hgd.put (bJ hf ho) _) (by rw[hput];exact hg)⟩
end Cv
namespace Cv
open Go
structure yAf where
 ι:Type
 chg:ι->List (Nat×ab)
 fix:List Nat
def zWm:List (Nat×ab)->Env->Prop
 |[],_=>True
 |[p],ρ=>ρ p.1=p.2
 |p::l,ρ=>ρ p.1=p.2/\zWm l ρ
def satV_cons {p:Nat×ab} {l:List (Nat×ab)} {ρ:Env}:zWm (p::l) ρ↔ρ p.1=p.2/\zWm l ρ:=by
 cases l<;>simp[zWm]
def z5h:List (Nat×ab)->Env->Env
 |[],ρ=>ρ
 |p::l,ρ=>put (z5h l ρ) (ay p.1) p.2
def zQc:∀{l:List (Nat×ab)} {ρ:Env},zWm l ρ->z5h l ρ=ρ
 |[],_,_=>rfl
 |p::l,ρ,h=>by
  have h:=satV_cons.1 h;simp only[z5h];rw[zQc h.2];exact zWv h.1
def mA (s:Nat):List Nat->Bool
 |[]=>bp
 |x::l=>bif cn s x then bo else mA s l
def memN_iff {s:Nat}:∀{l:List Nat},mA s l=bo↔s∈l
 |[]=>by simp[mA]
 |x::l=>by
  simp only[mA];cases hb:cn s x
  ·have hne:s≠x:=λe=>by subst e;simp at hb
   simp[memN_iff,hne]
  ·have:=y1b hb;simp[this]
def yFq (fix:List Nat) (ρ j:Env):Env:=λs=>bif mA s fix then ρ s else j s
def z1v {fix:List Nat} {ρ j:Env} (h:∀s∈fix,j s=ρ s):yFq fix ρ j=j:=by
 funext s;simp only[yFq];cases hb:mA s fix
 ·rfl
 ·exact(h s (memN_iff.1 hb)).symm
def asg:Code->List Nat
 | .region _ ops _=>ops.toList.filterMap (·.dst)
 | .seq a b=>asg a++asg b
 | .cond _ a b=>asg a++asg b
 | .block _ a=>asg a
 | .loop a=>asg a
 |_=>[]
def nL:Code->Nat
 | .seq a b=>nL a+nL b
 | .cond _ a b=>nL a+nL b
 | .block _ a=>nL a
 | .loop a=>nL a+1
 |_=>0
def yNk (next:Env->ac->Prop) (Q:Exit->Env->ac->Prop):Exit->Env->ac->Prop
 | .normal,ρ,w=>next ρ w
 |e,ρ,w=>Q e ρ w
def yFe (id:Nat) (Q:Exit->Env->ac->Prop):Exit->Env->ac->Prop
 | .exit id',ρ,w=>bif cn id' id then Q .normal ρ w else Q (.exit id') ρ w
 |e,ρ,w=>Q e ρ w
def cnd (t:Bool) (A B:Prop):Prop:=
 match t with
 |true=>A
 |false=>B
def cnd.mk {t:Bool} {A B:Prop} (h1:t=bo->A) (h2:t=bp->B):cnd t A B:=by
 cases t
 ·exact h2 rfl
 ·exact h1 rfl
def z3s (w:ac) (K:ac->Prop):Prop:=∀w',w'=w.drew->K w'
def cwp (P:aa):List yAf->Code->(Exit->Env->ac->Prop)->Env->ac->Prop
 |_,.skip,Q,ρ,w=>Q .normal ρ w
 |an,.seq a b,Q,ρ,w=>cwp P (an.take (nL a)) a (yNk (λρ w=>cwp P (an.drop (nL a)) b Q ρ w) Q) ρ w
 |an,.cond c a b,Q,ρ,w=>
  match ev ρ c with
  | .bool t=>cnd t (cwp P (an.take (nL a)) a Q ρ w) (cwp P (an.drop (nL a)) b Q ρ w)
  |_=>False
 |an,.block id a,Q,ρ,w=>cwp P an a (yFe id Q) ρ w
 |an,.loop a,Q,ρ,w=>
  match an with
  |[]=>False
  |x::rest=>∃(I:x.ι->ac->Prop) (μ:x.ι->ac->Nat),(∃i0,zWm (x.chg i0) ρ/\I i0 w)/\
    ∀(j:Env) (i:x.ι) (w1:ac),I i w1->cwp P rest a (yNk (λρ' w'=>∃i',zWm (x.chg i') ρ'/\I i' w'/\μ i' w'<μ i w1) Q) (z5h (x.chg i) (yFq x.fix ρ j)) w1
 |_,.exit id,Q,ρ,w=>Q (.exit id) ρ w
 |_,.ret,Q,ρ,w=>Q .ret ρ w
 |_,.region _ ops d,Q,ρ,w=>bif d then z3s w λw=>lZ P ops.toList (vL ops.toList []) ops.toList.length (cw ops.toList.length bp) [] ρ w (Q .normal)
    else zVg P ops.toList ops.toList ρ w (Q .normal)
 |_,_,_,_,_=>False
def okC (n:Nat):Code->Bool
 | .region _ ops d=>(ops.toList.all λo=>match o.dst with|none=>bo|some d=>co d n) && (bif d then n6 ops.toList (vL ops.toList [])else bo)
 | .seq a b=>okC n a && okC n b
 | .cond _ a b=>okC n a && okC n b
 | .block _ a=>okC n a
 | .loop a=>okC n a
 |_=>bo
def okF:List yAf->Code->Bool
 |an,.seq a b=>okF (an.take (nL a)) a && okF (an.drop (nL a)) b
 |an,.cond _ a b=>okF (an.take (nL a)) a && okF (an.drop (nL a)) b
 |an,.block _ a=>okF an a
 |an,.loop a=>match an with
  |[]=>bp
  |x::rest=>(x.fix.all λs=> !mA s (asg a)) && okF rest a
 |_,_=>bo
def zUl {n:Nat} {A:Nat->Bool} {ops:List aj} (h:(ops.all λo=>match o.dst with|none=>bo|some d=>co d n)=bo) (hA:∀s∈ops.filterMap (·.dst),A s=bo):zHk n A ops:=by
 intro o ho d hd;have:=y4h.1 h o ho;rw[hd]at this;exact⟨by simpa[y4a]using this,hA d (y6a.2 ⟨o,ho,hd⟩)⟩
def z5n (n:Nat) (A:Nat->Bool) (e0:Env) (Q:Exit->Env->ac->Prop):Exit->Act->ac->Prop:=λe a w=>Good n A e0 a/\Q e (yI a) w
def z7a {P:aa} (hm:P.follows .mixedOrders=bo) {n:Nat}:∀(c:Code) (an:List yAf) (Q:Exit->Env->ac->Prop) (A:Nat->Bool) (e0:Env) (a:Act) (w:ac),
 okC n c=bo->okF an c=bo->(∀s∈asg c,A s=bo)->Good n A e0 a->cwp P an c Q (yI a) w->c.wp P (z5n n A e0 Q) a w:=by
 intro c
 induction c with
 |skip=>intro an Q A e0 a w _ _ _ hg h;exact wp_skip ⟨hg,h⟩
 |region id ops d=>
  intro an Q A e0 a w hc _ hA hg h;simp only[okC,y1l]at hc;have hdst:=zUl (A:=A) hc.1 hA;cases d
  ·refine wp_region_list ?_;exact zNm (Q:=z5n n A e0 Q) (K:=Q .normal) (λa w hg h=>⟨hg,h⟩) ops.toList a w hdst hg h
  ·refine wp_region_any hm ?_;have h':=h _ rfl;have hok:n6 ops.toList (vL ops.toList [])=bo:=hc.2;refine uC (Q:=λa w=>z5n n A e0 Q .normal a w) (λ_ _ h=>h) ops.size _ _ _ (M:=[]) (bf:=vL ops.toList []) ?_;have hclosed:rC ops.toList (xZ (cw ops.toList.length bp)):=by
    intro i o ho hi;exfalso;unfold xZ at hi;simp[y2s]at hi;rw[y6h]at hi;split at hi<;>simp at hi
   have:=z0h (P:=P) (K:=Q .normal) (Q:=λa w=>z5n n A e0 Q .normal a w) hok hdst (λa w hg h=>⟨hg,h⟩) ops.toList.length _ [] a _ hclosed (λm hm=>by cases hm) hg h';simpa using this
 |seq x y ihx ihy=>
  intro an Q A e0 a w hc hf hA hg h;simp only[okC,okF,y1l,asg,y2f]at hc hf hA;refine wp_seq (aw (ihx _ _ A e0 a w hc.1 hf.1 (λs hs=>hA s (.inl hs)) hg h) ?_);rintro e a' w' ⟨hg',h'⟩;cases e<;>first|exact ihy _ _ A e0 a' w' hc.2 hf.2 (λs hs=>hA s (.inr hs)) hg' h'|exact⟨hg',h'⟩
 |cond c x y ihx ihy=>
  intro an Q A e0 a w hc hf hA hg h;simp only[okC,okF,y1l,asg,y2f]at hc hf hA;simp only[cwp]at h;rw[jD]at h;split at h
  ·rename_i t ht;refine wp_cond_split ht (λe=> ?_) (λe=> ?_)
   ·subst e;exact ihx _ _ A e0 a w hc.1 hf.1 (λs hs=>hA s (.inl hs)) hg h
   ·subst e;exact ihy _ _ A e0 a w hc.2 hf.2 (λs hs=>hA s (.inr hs)) hg h
  ·exact h.elim
 |block id x ih=>
  intro an Q A e0 a w hc hf hA hg h;refine wp_block (aw (ih an _ A e0 a w hc hf hA hg h) ?_);rintro e a' w' ⟨hg',h'⟩;cases e<;>first|exact⟨hg',h'⟩|skip
  rename_i id';simp only[Exit.inBlock];simp only[yFe]at h';split
  ·rename_i heq;subst heq;rw[Nat.beq_refl]at h';exact⟨hg',h'⟩
  ·rename_i hne;have hb:cn id' id=bp:=by
    cases hb:cn id' id with
    |false=>rfl
    |true=>exact absurd (y1b hb) hne
   rw[hb]at h';exact⟨hg',h'⟩
 |loop x ih=>
  intro an Q A e0 a w hc hf hA hg h;cases an with
  |nil=>exact h.elim
  |cons an rest=>
   simp only[okF,y1l]at hf;obtain⟨I,μ,⟨i0,hs0,hi0⟩,hround⟩:=h;refine wp_loop_ghost (λm a' w'=>Good n A e0 a'/\(∀s∈an.fix,yI a' s=yI a s)/\∃i,zWm (an.chg i) (yI a')/\I i w'/\μ i w'=m) (μ i0 w) ⟨hg,λ_ _=>rfl,i0,hs0,hi0,rfl⟩ ?_;rintro m a' w' ⟨hg',hfix,i,hsat,hI,rfl⟩;have h1:=hround (yI a') i w' hI;rw[z1v hfix,zQc hsat]at h1;have hgB:Good n (λs=>A s && mA s (asg x)) (yI a') a':=⟨hg'.size,hg'.defers,λ_ _=>rfl⟩
   refine aw (ih rest _ (λs=>A s && mA s (asg x)) (yI a') a' w' hc hf.2 (λs hs=>by rw[hA s hs,memN_iff.2 hs];rfl) hgB h1) ?_;rintro e a2 w2 ⟨hg2,h2⟩;have hg3:Good n A e0 a2:=⟨hg2.size,hg2.defers,λs hs=>by rw[hg2.same s (by simp[hs]),hg'.same s hs]⟩
   cases e<;>first|exact⟨hg3,h2⟩|skip
   obtain⟨i',hs',hI',hlt⟩:=h2;refine⟨_,hlt,hg3,λs hs=> ?_,i',hs',hI',rfl⟩;have:=y4h.1 hf.1 s hs;rw[hg2.same s (by simp at this;simp[this]),hfix s hs]
 |exit id=>intro an Q A e0 a w _ _ _ hg h;exact wp_exit ⟨hg,h⟩
 |ret=>intro an Q A e0 a w _ _ _ hg h;exact wp_ret ⟨hg,h⟩
 |rangeFunc f ps x y ihx ihy=>intro an Q A e0 a w _ _ _ hg h;exact h.elim
 |scope x ih=>intro an Q A e0 a w _ _ _ hg h;exact h.elim
 |label l=>intro an Q A e0 a w _ _ _ hg h;exact h.elim
 |goto l=>intro an Q A e0 a w _ _ _ hg h;exact h.elim
 |refuse s=>intro an Q A e0 a w _ _ _ hg h;exact h.elim
end Cv
namespace Cv
open Go
def bs (l:List Nat):ByteArray:=⟨(l.map Nat.toUInt8).toArray⟩
def z1s (P:aa):List ResultVar->Env->ac->(List ab->Prop)->Prop
 |[],_,_,K=>K []
 | .tmp t::rs,ρ,w,K=>z1s P rs ρ w λvs=>K (ρ t::vs)
 | .cell a t::rs,ρ,w,K=>
   match ρ a with
   | .pointer p=>zVa p λad=>exT P t λv=>aO P t ad w v/\z1s P rs ρ w λvs=>K (v::vs)
   |_=>False
def zCq:List ab->ab
 |[v]=>v
 |vs=> .tuple vs.toArray
def zRp (P:aa) (fn:Func) (R:Ending->ac->Prop):Exit->Env->ac->Prop
 | .normal,ρ,w=>z1s P fn.results.toList ρ w λvs=>R (.returned (zCq vs)) w
 | .ret,ρ,w=>z1s P fn.results.toList ρ w λvs=>R (.returned (zCq vs)) w
 |_,_,_=>False
def vK (args:List ab):Env:=λi=>args.getD i ao
def zTs (tmps:Array ab):ResultVar->Sem ab
 | .tmp t=>pure (tmps.getD t ao)
 | .cell a t=>(asAddr (tmps.getD a ao)).bind λad=>loadVar t ad
def zKc {P:aa} {tmps:Array ab} {w:ac}:∀{rs:List ResultVar} {K:List ab->Prop},z1s P rs (λi=>tmps.getD i ao) w K->
 ∃vs,(rs.mapM (zTs tmps)).run P w= .ok vs w/\K vs
 |[],K,h=>⟨[],rfl,h⟩
 | .tmp t::rs,K,h=>by
   obtain⟨vs,h1,h3⟩:=zKc (rs:=rs) h;refine⟨_::vs,?_,h3⟩;simp only[cu,zTs,bind,pure,run_bind,be,bc]at h1 ⊢;rw[h1]
 | .cell a t::rs,K,h=>by
   simp only[z1s]at h;split at h
   ·rename_i p hp;obtain⟨ad,rfl,h⟩:=nB h;obtain⟨v,hv,h⟩:=jZ h;obtain⟨vs,h1,h3⟩:=zKc (rs:=rs) h;refine⟨v::vs,?_,h3⟩;simp only[cu,zTs,bind,pure,run_bind,be,bc,hp,asAddr]at h1 ⊢;rw[hv];simp only[h1]
   ·exact h.elim
def zHd {P:aa} {tmps:Array ab} {w:ac} {vs:List ab} {rs:List ResultVar} (h:(rs.mapM (zTs tmps)).run P w= .ok vs w) (F:ResultVar->Sem ab) (hF:∀r,F r=zTs tmps r):
 ((rs.mapM F).bind λvs=>bg (if h:vs.toArray.size=1 then vs.toArray[0]else .tuple vs.toArray)).run P w= .ok (zCq vs) w:=by
 obtain rfl:F=zTs tmps:=funext hF;rw[run_bind,h];simp only[bc];cases vs with
 |nil=>rfl
 |cons v vs=>
  cases vs with
  |nil=>rfl
  |cons u us=>simp[zCq]
def zHm {P:aa} {fn:Func} {tmps:Array ab} {w:ac} {K:ab->Prop} (h:z1s P fn.results.toList (λi=>tmps.getD i ao) w λvs=>K (zCq vs)):
 ∃v,(results fn tmps).run P w= .ok v w/\K v:=by
 obtain⟨vs,h1,h3⟩:=zKc h;refine⟨zCq vs,?_,h3⟩;unfold results;rw[Array.mapM_eq_mapM_toList,map_eq_pure_bind,bind_assoc];exact zHd h1 _ (λr=>by cases r<;>rfl)
def calls_of_cwp {P:aa} {f:av} {fn:Func} {c:Code} {args:List ab} {w:ac} {R:Ending->ac->Prop} (hm:P.follows .mixedOrders=bo)
 (hf:P.funcs[f]? =ay fn) (hb:fn.body=ay c) (an:List yAf) (hok:okC fn.ntmps c=bo) (hfx:okF an c=bo) (hsz':cp args.length fn.ntmps=bo)
 (h:cwp P an c (zRp P fn R) (vK args) w):Calls P f args.toArray w R:=by
 have hsz:=y3e hsz';refine calls_of_wp hf hb ?_;have hg:Good fn.ntmps (λ_=>bo) (vK args) {tmps:=args.toArray++cw (fn.ntmps-args.toArray.size) ao,defers:=[]}:=
  ⟨by simp;omega,rfl,λs hs=>by cases hs⟩
 have henv:yI {tmps:=args.toArray++cw (fn.ntmps-args.toArray.size) ao,defers:=[]}=vK args:=by
  funext i;simp only[yI,vK,y2s,y1h,Array.getElem?_append];split
  ·simp
  ·rename_i hlt;simp at hlt;rw[y2i hlt,y6h];split<;>rfl
 refine aw (z7a hm c an _ (λ_=>bo) (vK args) _ w hok hfx (λ_ _=>rfl) hg (henv▸h)) ?_;rintro e a' w' ⟨hg',h'⟩;cases e<;>first|exact h'.elim|skip
 ·obtain⟨v,hv,hk⟩:=zHm (K:=λv=>R (.returned v) w') h';exact⟨hg'.defers,v,hv,hk⟩
 ·obtain⟨v,hv,hk⟩:=zHm (K:=λv=>R (.returned v) w') h';exact⟨hg'.defers,v,hv,hk⟩
def zHh {P:aa} {f:av} {fn:Func} {c:Code} {args:List ab} {w:ac} {R:Ending->ac->Prop} {V:Prop} (hm:P.follows .mixedOrders=bo)
 (hf:P.funcs[f]? =ay fn) (hb:fn.body=ay c) (an:List yAf) (hok:okC fn.ntmps c=bo) (hfx:okF an c=bo) (hsz:cp args.length fn.ntmps=bo)
 (e:V=cwp P an c (zRp P fn R) (vK args) w) (h:V):Calls P f args.toArray w R:=
 calls_of_cwp hm hf hb an hok hfx hsz (e▸h)
end Cv
namespace Cv
open Go Go.RowKit
@[reducible] def PH:=Nat->Option Obj
@[reducible] def HP:=PH->Prop
def pe:PH:=λ_=>az
def one (b:Nat) (o:Obj):PH:=λx=>if x=b then ay o else az
def Dj (g h:PH):Prop:=∀b,g b=az\/h b=az
def Sub (h:PH) (w:ac):Prop:=∀b o,h b=ay o->w.heap[b]?=ay o
def un (g h:PH):PH:=λb=>match g b with|some o=>ay o|none=>h b
def Dj.symm {g h:PH} (d:Dj g h):Dj h g:=λb=>(d b).symm
def Dj.pe (h:PH):Dj pe h:=λ_=> .inl rfl
def z5u {g g' h:PH} (d:Dj g h) (d':Dj g' h):Dj (un g g') h:=λb=>by
 rcases d b with e|e
 ·rcases d' b with e'|e'
  ·left;simp[un,e,e']
  ·exact .inr e'
 ·exact .inr e
def zMu {g g' h:PH} (d:Dj (un g g') h) (dg:Dj g g'):Dj g h/\Dj g' h:=by
 refine⟨λb=> ?_,λb=> ?_⟩
 ·rcases d b with e|e
  ·left;simp only[un]at e;cases hg:g b with
   |none=>rfl
   |some o=>rw[hg]at e;cases e
  ·exact .inr e
 ·rcases d b with e|e
  ·left;simp only[un]at e;cases hg:g b with
   |none=>rw[hg]at e;exact e
   |some o=>rw[hg]at e;cases e
  ·exact .inr e
def yBd {g h:PH} {w:ac} (a:Sub g w) (b:Sub h w):Sub (un g h) w:=λx o e=>by
 simp only[un]at e;cases hg:g x with
 |some o'=>rw[hg]at e;cases e;exact a x _ hg
 |none=>rw[hg]at e;exact b x o e
def z8u {g h:PH} {w:ac} (s:Sub (un g h) w) (d:Dj g h):Sub g w/\Sub h w:=by
 refine⟨λx o e=>s x o (by simp[un,e]),λx o e=>s x o ?_⟩;rcases d x with e'|e'
 ·simp[un,e',e]
 ·rw[e]at e';cases e'
def Sub.pe (w:ac):Sub Cv.pe w:=λ_ _ e=>by cases e
def Sub.lt {h:PH} {w:ac} (s:Sub h w) {b:Nat} (hb:h b≠az):b<w.heap.size:=by
 cases e:h b with
 |none=>exact absurd e hb
 |some o=>
  have:=s b o e;rcases y3q b w.heap.size with h'|h'
  ·exact h'
  ·rw[y3x h']at this;cases this
structure Ko where
 os:Os
 tape:Nat->Question->Nat
 output:Array (Nat×ByteArray)
def ko (w:ac):Ko:=⟨w.os,w.tape,w.output⟩
def Kon (k:Ko) (w:ac):Prop:=w.os=k.os/\w.tape=k.tape/\w.output=k.output
inductive Hs (w:ac):List HP->List PH->Prop
 |nil:Hs w [] []
 |cons {A:HP} {h:PH} {L:List HP} {hs:List PH}:A h->Sub h w->(∀g∈hs,Dj h g)->Hs w L hs->Hs w (A::L) (h::hs)
def Hp (k:Ko) (w:ac) (L:List HP):Prop:=Kon k w/\∃hs,Hs w L hs
def Sat (w:ac) (A:HP):Prop:=∃h,A h/\Sub h w
def Hs.perm {w:ac} {L L':List HP} (p:L.Perm L'):∀{hs:List PH},Hs w L hs->∃hs',Hs w L' hs'/\hs.Perm hs':=by
 induction p with
 |nil=>intro hs h;cases h;exact⟨[],.nil,.nil⟩
 |cons A _ ih=>
  intro hs h;cases h with
  |cons ha hsub hd hr=>
   obtain⟨hs',h1,h2⟩:=ih hr;exact⟨_,.cons ha hsub (λg hg=>hd g (h2.mem_iff.2 hg)) h1,.cons _ h2⟩
 |swap A B L=>
  intro hs h;cases h with
  |cons hb hbs hbd hr=>
   cases hr with
   |cons ha has had hr=>
    refine⟨_,.cons ha has ?_ (.cons hb hbs (λg hg=>hbd g (y1g _ hg)) hr),.swap _ _ _⟩;intro g hg;rcases y1r.1 hg with rfl|hg
    ·exact(hbd _ y1f).symm
    ·exact had g hg
 |trans _ _ ih1 ih2=>
  intro hs h;obtain⟨hs1,h1,p1⟩:=ih1 h;obtain⟨hs2,h2,p2⟩:=ih2 h1;exact⟨hs2,h2,p1.trans p2⟩
def Hp.perm {k:Ko} {w:ac} {L L':List HP} (H:Hp k w L) (p:L.Perm L'):Hp k w L':=
 ⟨H.1,let⟨_,h⟩:=H.2;let⟨hs',h',_⟩:=h.perm p;⟨hs',h'⟩⟩
def Hp.drop {k:Ko} {w:ac} {A:HP} {L:List HP} (H:Hp k w (A::L)):Hp k w L:=by
 obtain⟨hk,hs,hh⟩:=H;cases hh with
 |cons _ _ _ hr=>exact⟨hk,_,hr⟩
def Hp.sat {k:Ko} {w:ac} {A:HP} {L:List HP} (H:Hp k w (A::L)):Sat w A:=by
 obtain⟨hk,hs,hh⟩:=H;cases hh with
 |cons ha hsub _ _=>exact⟨_,ha,hsub⟩
def Hp.imp {k:Ko} {w:ac} {A B:HP} {L:List HP} (H:Hp k w (A::L)) (h:∀x,A x->B x):Hp k w (B::L):=by
 obtain⟨hk,hs,hh⟩:=H;cases hh with
 |cons ha hsub hd hr=>exact⟨hk,_,.cons (h _ ha) hsub hd hr⟩
def pt (b:Nat) (o:Obj):HP:=λh=>h=one b o
def hPu (p:Prop):HP:=λh=>p/\h=pe
def hS2 (A B:HP):HP:=λh=>∃g g',A g/\B g'/\Dj g g'/\h=un g g'
def hS:List HP->HP
 |[]=>λh=>h=pe
 |[A]=>A
 |A::L=>hS2 A (hS L)
def vR {k:Ko} {w:ac} {p:Prop} {L:List HP}:Hp k w (hPu p::L)↔p/\Hp k w L:=by
 constructor
 ·rintro⟨hk,hs,hh⟩;cases hh with
  |cons ha hsub hd hr=>exact⟨ha.1,hk,_,hr⟩
 ·rintro⟨hp,hk,hs,hh⟩;exact⟨hk,_,.cons ⟨hp,rfl⟩ (Sub.pe w) (λg _=>Dj.pe g) hh⟩
def hp_star2 {k:Ko} {w:ac} {A B:HP} {L:List HP}:Hp k w (hS2 A B::L)↔Hp k w (A::B::L):=by
 constructor
 ·rintro⟨hk,hs,hh⟩;cases hh with
  |cons ha hsub hd hr=>
   obtain⟨g,g',h1,h2,h3,rfl⟩:=ha;obtain⟨s1,s2⟩:=z8u hsub h3;refine⟨hk,_,.cons h1 s1 ?_ (.cons h2 s2 (λx hx=>(zMu (hd x hx) h3).2) hr)⟩;intro x hx;rcases y1r.1 hx with rfl|hx
   ·exact h3
   ·exact(zMu (hd x hx) h3).1
 ·rintro⟨hk,hs,hh⟩;cases hh with
  |cons h1 s1 d1 hr=>
   cases hr with
   |cons h2 s2 d2 hr=>
    exact⟨hk,_,.cons ⟨_,_,h1,h2,d1 _ y1f,rfl⟩ (yBd s1 s2) (λx hx=>z5u (d1 x (y1g _ hx)) (d2 x hx)) hr⟩
def yGz {k:Ko} {w:ac} {L:List HP}:Hp k w (hS []::L)↔Hp k w L:=by
 have e:hS []=hPu True:=by funext h;simp[hS,hPu]
 rw[e,vR];exact⟨λh=>h.2,λh=>⟨trivial,h⟩⟩
def yAi {k:Ko} {w:ac} {A B:HP} {l L:List HP}:Hp k w (hS (A::B::l)::L)↔Hp k w (A::hS (B::l)::L):=hp_star2
def Hp.swap {k:Ko} {w:ac} {A B:HP} {L:List HP} (H:Hp k w (A::B::L)):Hp k w (B::A::L):=H.perm (.swap _ _ _)
def Hp.cons {k:Ko} {w:ac} {A:HP} {L L':List HP} (H:Hp k w (A::L)) (p:L.Perm L'):Hp k w (A::L'):=H.perm (.cons _ p)
def hp_star {k:Ko} {w:ac}:∀{l L:List HP},Hp k w (hS l::L)↔Hp k w (l++L)
 |[],L=>yGz
 |[A],L=>Iff.rfl
 |A::B::l,L=>by
  rw[yAi];constructor
  ·intro h;have h1:=(hp_star (l:=B::l) (L:=A::L)).1 h.swap;refine h1.perm ?_;exact y1n
  ·intro h;have h1:Hp k w ((B::l)++(A::L)):=h.perm (y1n (l₁:=B::l)).symm;exact((hp_star (l:=B::l) (L:=A::L)).2 h1).swap
def Hs.move {w w':ac} (h:∀(x:PH),Sub x w->Sub x w'):∀{L:List HP} {hs:List PH},Hs w L hs->Hs w' L hs
 |_,_,.nil=> .nil
 |_,_,.cons ha hsub hd hr=> .cons ha (h _ hsub) hd (hr.move h)
def zEw {w w':ac} (h:Below w.heap.size w w') {x:PH} (s:Sub x w):Sub x w':=λb o e=>by
 rw[h.block b (s.lt (by rw[e];simp))];exact s b o e
def zQe {k:Ko} {B:Nat} {w w':ac} (h:Below B w w') (hk:Kon k w):Kon k w':=⟨h.os.trans hk.1,h.tape.trans hk.2.1,h.output.trans hk.2.2⟩
def Hp.below {k:Ko} {w w':ac} {L:List HP} (H:Hp k w L) (h:Below w.heap.size w w'):Hp k w' L:=
 ⟨zQe h H.1,let⟨hs,hh⟩:=H.2;⟨hs,hh.move λ_ s=>zEw h s⟩⟩
def Sat.below {w w':ac} {A:HP} (H:Sat w A) (h:Below w.heap.size w w'):Sat w' A:=let⟨x,a,s⟩:=H;⟨x,a,zEw h s⟩
def Hp.drew {k:Ko} {w:ac} {L:List HP} (H:Hp k w L):Hp k w.drew L:=H.below ((Below.refl _ _).drew)
def Hp.new {k:Ko} {w:ac} {L:List HP} (H:Hp k w L) (o:Obj):Hp k (w.alloc o) (pt w.heap.size o::L):=by
 have hb:Below w.heap.size w (w.alloc o):=(Below.refl _ _).alloc (y1u _) o;obtain⟨hk,hs,hh⟩:=H;refine⟨zQe hb hk,_,.cons rfl ?_ ?_ (hh.move λ_ s=>zEw hb s)⟩
 ·intro b o' e;simp only[one]at e;split at e
  ·rename_i hb';subst hb';cases e;exact heap_alloc_new w o
  ·cases e
 ·intro g hg;have hsub:∀{L:List HP} {hs:List PH},Hs w L hs->∀g∈hs,Sub g w:=by
   intro L hs hh
   induction hh with
   |nil=>intro g hg;cases hg
   |cons _ hs _ _ ih=>
    intro g hg;rcases y1r.1 hg with rfl|hg
    ·exact hs
    ·exact ih g hg
  intro b;by_cases hb':b=w.heap.size
  ·right;cases hgb:g b with
   |none=>rfl
   |some o'=>
    have:=(hsub hh g hg).lt (b:=b) (by rw[hgb];simp);omega
  ·left;simp[one,hb']
def World.setB (w:ac) (b:Nat) (o:Obj):ac:={w with heap:=w.heap.setIfInBounds b o}
def Hp.get {k:Ko} {w:ac} {b:Nat} {o:Obj} {L:List HP} (H:Hp k w (pt b o::L)):w.heap[b]? =ay o:=by
 obtain⟨h,rfl,s⟩:=H.sat;exact s b o (by simp[one])
def Hp.upd {k:Ko} {w:ac} {b:Nat} {o:Obj} {L:List HP} (H:Hp k w (pt b o::L)) (o':Obj):Hp k (World.setB w b o') (pt b o'::L):=by
 have hget:=H.get;obtain⟨hk,hs,hh⟩:=H;cases hh with
 |cons ha hsub hd hr=>
  cases ha;have hlt:b<w.heap.size:=hsub.lt (b:=b) (by simp[one]);rename_i hs;have s0:Sub (one b o') (World.setB w b o'):=by
   intro x o2 e;simp only[one]at e;split at e
   ·rename_i hx;subst hx;cases e;simp[World.setB,y4p hlt]
   ·cases e
  have d0:∀g∈hs,Dj (one b o') g:=by
   intro g hg x;rcases hd g hg x with e|e
   ·left;simp only[one]at e ⊢;split at e<;>simp_all
   ·exact .inr e
  have key:∀{L:List HP} {hs:List PH},Hs w L hs->(∀g∈hs,Dj (one b o) g)->Hs (World.setB w b o') L hs:=by
   intro L hs hh
   induction hh with
   |nil=>intro _;exact .nil
   |cons ha hs' hd' _ ih=>
    intro hdj;refine .cons ha ?_ hd' (ih λg hg=>hdj g (y1g _ hg));intro x o2 e;have hne:x≠b:=by
     intro hx;subst hx;rcases hdj _ y1f x with e'|e'
     ·simp[one]at e'
     ·rw[e]at e';cases e'
    simp only[World.setB];rw[y5n (Ne.symm hne)];exact hs' x o2 e
  exact⟨hk,_,.cons rfl s0 d0 (key hr hd)⟩
def base (w0:ac):HP:=λh=>h=λb=>w0.heap[b]?
def Hp.start (w:ac):Hp (Cv.ko w) w [base w]:=⟨⟨rfl,rfl,rfl⟩,_,.cons rfl (λ_ _ e=>e) (λg hg=>by cases hg) .nil⟩
end Cv
namespace Cv
open Go Go.RowKit
def wO (b o n:Nat):(⟨b,o,az⟩:am).add n=⟨b,o+n,az⟩:=by
 unfold Addr.add;split
 ·rename_i h;subst h;rfl
 ·rfl
def zAu (P:aa) (t:ae):Bool:=
 match P.underlying t with
 |some (.struct _)=>bp
 |some (.array _ _)=>bp
 |some _=>bo
 |none=>bp
def zIm (P:aa) (t:ae):Option Nat:=
 match P.underlying t with
 |some (.struct _)=>(P.info? t).map λ(x:TypeInfo)=>x.size
 |some (.array _ _)=>(P.info? t).map λ(x:TypeInfo)=>x.size
 |_=>az
def aG {P:aa} {t:ae} (h:zAu P t=bo) (w:ac):(isAgg t).run P w= .ok bp w:=by
 unfold zAu at h;cases hd:P.underlying t with
 |none=>rw[hd]at h;cases h
 |some d=>
  rw[hd]at h;unfold isAgg;simp only[bind,run_bind,run_underlying hd];cases d<;>first|rfl|(simp at h)
def f9 {P:aa} {t:ae} {n:Nat} (h:zIm P t=ay n) (w:ac):(isAgg t).run P w= .ok bo w/\(Go.sizeOf t).run P w= .ok n w:=by
 unfold zIm at h;cases hd:P.underlying t with
 |none=>rw[hd]at h;cases h
 |some d=>
  rw[hd]at h;cases d<;>simp only[reduceCtorEq]at h
  all_goals
   cases hi:P.info? t with
   |none=>rw[hi]at h;cases h
   |some i=>
    rw[hi]at h;simp only[y3b,cj]at h;subst h;refine⟨?_,run_sizeOf hi w⟩;unfold isAgg;simp only[bind,run_bind,run_underlying hd];rfl
def zWb {P:aa} {w:ac} {a:am} {v:ab} (h:w.cell? a=ay v):(load a).run P w= .ok v w:=by
 simp only[load,bc,h]
def lK {w:ac} {b o:Nat} {l:List ab} {T:ae} {fr:Nat×Nat} (hb:w.heap[b]? =ay (.cells l.toArray T fr)):w.cell? ⟨b,o,az⟩=l[o]? :=by
 simp[World.cell?,hb]
def j7 {P:aa} {t:ae} {w:ac} {b o:Nat} {l:List ab} {T:ae} {fr:Nat×Nat} {v:ab} (hs:zAu P t=bo)
 (hb:w.heap[b]? =ay (.cells l.toArray T fr)) (hc:l[o]? =ay v):aO P t ⟨b,o,az⟩ w v:=by
 unfold aO loadVar;simp only[bind,run_bind,aG hs,y1p,if_false];exact zWb ((lK hb).trans hc)
def aT {P:aa} {w:ac} {b o:Nat} {l:List ab} {T:ae} {fr:Nat×Nat} (hb:w.heap[b]? =ay (.cells l.toArray T fr)):
 ∀(n i:Nat) (acc:Array ab),o+i+n<=l.length->(loadCellsFrom ⟨b,o,az⟩ i n acc).run P w= .ok (acc++((l.drop (o+i)).take n).toArray) w
 |0,i,acc,_=>by simp[loadCellsFrom,pure,bc]
 |n+1,i,acc,h=>by
  have hlt:o+i<l.length:=by omega
  have hc:w.cell? ⟨b,o+i,az⟩=ay l[o+i]:=by rw[lK hb];exact y2h hlt
  unfold loadCellsFrom;simp only[bind,run_bind,wO,zWb hc];rw[aT hb n (i+1) _ (by omega)];congr 1;rw[y3f hlt,y2j];simp[y4m]
def uG {P:aa} {w:ac} {b o n:Nat} {l:List ab} {T:ae} {fr:Nat×Nat} (hb:w.heap[b]? =ay (.cells l.toArray T fr)) (h:o+n<=l.length):
 (loadCells ⟨b,o,az⟩ n).run P w= .ok ((l.drop o).take n).toArray w:=by
 unfold loadCells;rw[aT hb n 0 #[] (by omega)];simp
def eG {P:aa} {t:ae} {w:ac} {b o n:Nat} {l vs:List ab} {T:ae} {fr:Nat×Nat} (hs:zIm P t=ay n)
 (hb:w.heap[b]? =ay (.cells l.toArray T fr)) (hc:(l.drop o).take n=vs) (hl:vs.length=n):aO P t ⟨b,o,az⟩ w (.agg vs.toArray):=by
 unfold aO loadVar;have hlen:o+n<=l.length\/n=0:=by
  subst hc;simp only[y1q,y1w]at hl;omega
 simp only[bind,run_bind,(f9 hs w).1,if_true,(f9 hs w).2];rcases hlen with hlen|h0
 ·rw[uG hb hlen,hc];rfl
 ·subst h0;have:vs=[]:=y1z hl;subst this;rfl
def _root_.Go.Value.oneC:ab->Bool
 | .agg _=>bp
 | .tuple _=>bp
 |_=>bo
def spl (l:List ab) (o:Nat) (vs:List ab):List ab:=l.take o++vs++l.drop (o+vs.length)
def z6t (w:ac) (b:Nat) (x y:Obj):World.setB (World.setB w b x) b y=World.setB w b y:=by
 simp[World.setB,Array.setIfInBounds_setIfInBounds]
def z2a {P:aa} {w:ac} {b o:Nat} {l:List ab} {T:ae} {v:ab} (hb:w.heap[b]? =ay (.cells l.toArray T (0,0))) (ho:o<l.length) (hv:v.oneC=bo):
 (store ⟨b,o,az⟩ v).run P w= .ok () (World.setB w b (.cells (l.set o v).toArray T (0,0))):=by
 have hc:w.cell? ⟨b,o,az⟩=ay l[o]:=by rw[lK hb];exact y2h ho
 have hf:w.frozen? ⟨b,o,az⟩=bp:=by simp[World.frozen?,hb]
 have hset:w.setCell ⟨b,o,az⟩ v=World.setB w b (.cells (l.set o v).toArray T (0,0)):=by
  unfold World.setCell World.setB;congr 1;apply y6n;intro i;rw[Array.getElem?_modify,y4z];have hlt:b<w.heap.size:=by
   rcases y3q b w.heap.size with h|h
   ·exact h
   ·rw[y3x h]at hb;cases hb
  by_cases hi:b=i
  ·subst hi;have hb2:w.heap[b]= .cells l.toArray T (0,0):=by rw[y5k hlt]at hb;exact cm hb
   simp[hlt,hb2]
  ·simp[hi]
 unfold store;cases v<;>first|(cases hv;done)|(simp only[bc,hc,hf,y1p,if_false,hset])
def zJc {l:List ab} {p:Nat} {v:ab} {vs:List ab} (h:p<l.length):spl (l.set p v) (p+1) vs=spl l p (v::vs):=by
 have h1:(l.set p v).take (p+1)=l.take p++[v]:=by
  rw[y4d,y1a h];rw[List.take_append,y1q];simp[y4u (Nat.le_of_lt h),List.take_take]
 have h2:(l.set p v).drop (p+1+vs.length)=l.drop (p+(v::vs).length):=by
  rw[List.drop_set_of_lt (by omega)];congr 1;simp only[y1d];omega
 simp only[spl,h1,h2,y1e,List.singleton_append]
def jF {P:aa} {b:Nat} {T:ae}:∀(vs:List ab) (i o:Nat) (l:List ab) (w:ac),w.heap[b]? =ay (.cells l.toArray T (0,0))->o+i+vs.length<=l.length->
 (∀v∈vs,v.oneC=bo)->(storeCells ⟨b,o,az⟩ vs i).run P w= .ok () (World.setB w b (.cells (spl l (o+i) vs).toArray T (0,0)))
 |[],i,o,l,w,hb,h,_=>by
  have hlt:b<w.heap.size:=by
   rcases y3q b w.heap.size with h|h
   ·exact h
   ·rw[y3x h]at hb;cases hb
  have:World.setB w b (.cells (spl l (o+i) []).toArray T (0,0))=w:=by
   have e:spl l (o+i) []=l:=by simp[spl]
   rw[e];unfold World.setB;have:w.heap.setIfInBounds b (.cells l.toArray T (0,0))=w.heap:=by
    apply y6n;intro j;rw[y4z];split
    ·rename_i hj;subst hj;rw[hb]
    ·rfl
   rw[this]
  unfold storeCells;rw[this];rfl
 |v::vs,i,o,l,w,hb,h,hv=>by
  have hlt:b<w.heap.size:=by
   rcases y3q b w.heap.size with h|h
   ·exact h
   ·rw[y3x h]at hb;cases hb
  simp only[y1d]at h;unfold storeCells;simp only[bind,run_bind,wO,z2a hb (show o+i<l.length by omega) (hv v y1f)];have hb':(World.setB w b (.cells (l.set (o+i) v).toArray T (0,0))).heap[b]? =ay (.cells (l.set (o+i) v).toArray T (0,0)):=by
   simp[World.setB,y4p hlt]
  rw[jF vs (i+1) o (l.set (o+i) v) _ hb' (by rw[y2d];omega) (λu hu=>hv u (y1g _ hu)),z6t];rw[show o+(i+1)=o+i+1 by omega,zJc (show o+i<l.length by omega)]
end Cv
namespace Cv
open Go Go.RowKit
def slO (e sz:Nat) (a:Option am) (n k:Nat) (xs:List ab):HP:=λh=>
 (a=az/\n=0/\k=0/\xs=[]/\h=pe)\/
 ∃b r,a=ay ⟨b,0,az⟩/\h=one b (.cells (xs++r).toArray e)/\xs.length=n*sz/\(xs++r).length=k*sz/\n<=k
def slR (sz:Nat) (a:Option am) (n k:Nat) (xs:List ab):HP:=λh=>
 (n=0/\xs=[]/\h=pe)\/
 ∃(b o:Nat) (l:List ab) (T:ae) (fr:Nat×Nat),a=ay ⟨b,o,az⟩/\h=one b (.cells l.toArray T fr)/\(l.drop o).take (n*sz)=xs/\xs.length=n*sz/\n<=k
def bF {e sz:Nat} {a:Option am} {n k:Nat} {xs:List ab} {h:PH} (H:slO e sz a n k xs h):slR sz a n k xs h:=by
 rcases H with⟨rfl,rfl,rfl,rfl,rfl⟩|⟨b,r,rfl,rfl,h1,h2,h3⟩
 ·exact .inl ⟨rfl,rfl,rfl⟩
 ·right;exact⟨b,0,_,e,_,rfl,rfl,by rw[y4r,<- h1];simp,h1,h3⟩
def Hp.satR {k:Ko} {w:ac} {e sz:Nat} {a:Option am} {n c:Nat} {xs:List ab} {L:List HP} (H:Hp k w (slO e sz a n c xs::L)):Sat w (slR sz a n c xs):=by
 obtain⟨h,hh,s⟩:=H.sat;exact⟨h,bF hh,s⟩
def Hp.slcases {k:Ko} {w:ac} {e sz:Nat} {a:Option am} {n c:Nat} {xs:List ab} {L:List HP} (H:Hp k w (slO e sz a n c xs::L)):
 (a=az/\n=0/\c=0/\xs=[]/\Hp k w L)\/
 ∃b r,a=ay ⟨b,0,az⟩/\xs.length=n*sz/\(xs++r).length=c*sz/\n<=c/\Hp k w (pt b (.cells (xs++r).toArray e)::L):=by
 obtain⟨hk,hs,hh⟩:=H;cases hh with
 |cons ha hsub hd hr=>
  rcases ha with⟨h1,h2,h3,h4,h5⟩|⟨b,r,h1,h2,h3,h4,h5⟩
  ·exact .inl ⟨h1,h2,h3,h4,hk,_,hr⟩
  ·subst h2;exact .inr ⟨b,r,h1,h3,h4,h5,hk,_,.cons rfl hsub hd hr⟩
def Hp.slmk {k:Ko} {w:ac} {e sz b n c:Nat} {xs r:List ab} {L:List HP} (H:Hp k w (pt b (.cells (xs++r).toArray e)::L)) (h1:xs.length=n*sz) (h2:(xs++r).length=c*sz) (h3:n<=c):
 Hp k w (slO e sz (ay ⟨b,0,az⟩) n c xs::L):=H.imp λx hx=> .inr ⟨b,r,rfl,hx,h1,h2,h3⟩
def z5x (e sz:Nat):slO e sz az 0 0 [] pe:= .inl ⟨rfl,rfl,rfl,rfl,rfl⟩
def Hp.nil {k:Ko} {w:ac} {L:List HP} (e sz:Nat) (H:Hp k w L):Hp k w (slO e sz az 0 0 []::L):=
 ((@vR k w True L).2 ⟨trivial,H⟩).imp λx hx=>by rw[hx.2];exact z5x e sz
def Hp.lit {k:Ko} {w:ac} {b e sz n:Nat} {l:List ab} {L:List HP} (H:Hp k w (pt b (.cells l.toArray e)::L)) (hl:l.length=n*sz):Hp k w (slO e sz (ay ⟨b,0,az⟩) n n l::L):=
 H.imp λx hx=> .inr ⟨b,[],rfl,by rw[hx,y1t],hl,by simpa using hl,y1u _⟩
def zJe {e sz:Nat} {a:Option am} {n k:Nat} {xs:List ab} {h:PH} (H:slO e sz a n k xs h):xs.length=n*sz/\n<=k:=by
 rcases H with⟨rfl,rfl,rfl,rfl,rfl⟩|⟨b,r,rfl,rfl,h1,h2,h3⟩
 ·simp
 ·exact⟨h1,h3⟩
def Hp.len {k:Ko} {w:ac} {e sz:Nat} {a:Option am} {n c:Nat} {xs:List ab} {L:List HP} (H:Hp k w (slO e sz a n c xs::L)):xs.length=n*sz/\n<=c:=by
 obtain⟨h,hh,s⟩:=H.sat;exact zJe hh
def z4i {w:ac} {sz:Nat} {a:Option am} {n k:Nat} {xs:List ab} (H:Sat w (slR sz a n k xs)):xs.length=n*sz:=by
 obtain⟨h,hh,s⟩:=H;rcases hh with⟨rfl,rfl,_⟩|⟨b,o,l,T,fr,rfl,rfl,h1,h2,_⟩
 ·simp
 ·exact h2
def zBa {w:ac} {sz:Nat} {a:Option am} {n k:Nat} {xs:List ab} (H:Sat w (slR sz a n k xs)) (hn:0<n):
 ∃(b o:Nat) (l:List ab) (T:ae) (fr:Nat×Nat),a=ay ⟨b,o,az⟩/\w.heap[b]? =ay (.cells l.toArray T fr)/\(l.drop o).take (n*sz)=xs:=by
 obtain⟨h,hh,s⟩:=H;rcases hh with⟨rfl,rfl,_⟩|⟨b,o,l,T,fr,rfl,rfl,h1,h2,_⟩
 ·omega
 ·exact⟨b,o,l,T,fr,rfl,s b _ (by simp[one]),h1⟩
def zQo (m:Nat) (hm:256<=m):∀(r c:Nat),c<=2*m->Builtin.growBy m r c<=2*m
 |0,c,h=>h
 |r+1,c,h=>by
  unfold Builtin.growBy;split
  ·exact h
  ·exact zQo m hm r _ (by omega)
def zKr {need cap:Nat} (h:cap<need):Builtin.nextslicecap need cap<=2*need:=by
 unfold Builtin.nextslicecap;split
 ·omega
 ·split
  ·omega
  ·exact zQo need (by omega) 4 cap (by omega)
def Src (sz:Nat) (w:ac) (x:ab) (m:Nat) (ys:List ab):Prop:=
 (∃a k,x=.slice a m k/\Sat w (slR sz a m k ys))\/(∃s:ByteArray,x=.string s/\sz=1/\m=s.size/\ys=s.data.toList.map λb=> .int .u8 b.toNat)
def zDw {P:aa} {sz:Nat} {w:ac} {x:ab} {m:Nat} {ys:List ab} (h:Src sz w x m ys):
 (Builtin.lenOf x).run P w= .ok m w/\(br sz m x).run P w= .ok ys.toArray w/\ys.length=m*sz:=by
 rcases h with⟨a,k,rfl,H⟩|⟨s,rfl,rfl,rfl,rfl⟩
 ·refine⟨rfl,?_,z4i H⟩;have hl:=z4i H;obtain⟨h,hh,s⟩:=H;rcases hh with⟨rfl,rfl,_⟩|⟨b,o,l,T,fr,rfl,rfl,h1,h2,_⟩
  ·cases a with
   |none=>rfl
   |some a=>simp[br,loadCells,loadCellsFrom,pure,bc]
  ·have hb:=s b _ (show one b _ b=_ by simp[one];rfl);unfold br;by_cases h0:m*sz=0
   ·rw[h0]at h1 hl ⊢;have:ys=[]:=y1z hl;subst this;rfl
   ·have:o+m*sz<=l.length:=by
     rw[<- h1,y1q,y1w]at h2;omega
    rw[uG hb this,h1]
 ·refine⟨rfl,?_,by simp⟩;simp only[br];have:s.extract 0 s.size=s:=by simp
  rw[this];simp only[pure,bc];congr 1;apply cx;simp
def zZt (P:aa) (t:ae):Bool:=
 match P.underlying t with
 |some (.slice _)=>bo
 |some .string=>bo
 |_=>bp
def zJs {P:aa} {t:ae} (h:zZt P t=bo):(∃e,P.underlying t=ay (.slice e))\/P.underlying t=ay .string:=by
 unfold zZt at h;cases hd:P.underlying t with
 |none=>rw[hd]at h;cases h
 |some d=>
  rw[hd]at h;cases d<;>first|exact .inl ⟨_,rfl⟩|exact .inr rfl|(cases h)
def Hp.append {P:aa} {k:Ko} {w:ac} {L:List HP} {t1 t2 rt e sz by_:Nat} {z:Array ab} (hi:wS P t1=ay (e,sz,by_,z)) (h2:zZt P t2=bo) {a:Option am} {n c:Nat} {xs:List ab}
 (H:Hp k w (slO e sz a n c xs::L)) {x:ab} {m:Nat} {ys:List ab} (hx:Src sz w x m ys) (hv:∀v∈ys,v.oneC=bo) (hz:z.size=sz) (hby:0<by_) (hb:(n+m)*by_<=140737488355328):
 ∃a' c' w',uE P (bu #[t1,t2] rt #[.slice a n c,x]) w (.slice a' (n+m) c') w'/\Hp k w' (slO e sz a' (n+m) c' (xs++ys)::L):=by
 obtain⟨i,zv,q1,q2,rfl,rfl,q5,rfl⟩:=qO hi;obtain⟨r1,r2,hylen⟩:=zDw (P:=P) hx;obtain⟨hxlen,hnc⟩:=H.len;have hnm:n+m<=140737488355328:=y3u (Nat.le_mul_of_pos_right _ hby) hb;have hrow:(n+m)*i.size=n*i.size+m*i.size:=y3y _ _ _;by_cases hfit:n+m<=c
 ·--yPx the capacity
  rcases H.slcases with⟨rfl,rfl,rfl,rfl,H0⟩|⟨b,r,rfl,h3,h4,h5,H0⟩
  ·have hm:m=0:=by omega
   subst hm;have hys:ys=[]:=y1z (by simpa using hylen);subst hys;refine⟨az,0,w,?_,by simpa using H⟩;unfold uE bu;rcases zJs h2 with⟨e2,hd⟩|hd<;>
   simp only[y2y,y3h,y2w,bind,pure,run_bind,be,bc,run_underlying q1,run_sizeOf q2,run_underlying hd,y1p,if_false,r1,r2,y5o,y1u,if_true,y6f]
  ·have hroom:n*i.size+ys.length<=(xs++r).length:=by
    rw[h4,hylen,<- hrow];exact y2k _ hfit
   have hst:=jF (P:=P) ys 0 (n*i.size) (xs++r) w H0.get (by omega) hv;simp only[y5o]at hst;have hspl:spl (xs++r) (n*i.size) ys=(xs++ys)++r.drop ys.length:=by
    simp only[spl];rw[<- h3,y6u,y5v];simp
   rw[hspl]at hst;refine⟨ay ⟨b,0,az⟩,c,_,?_,(H0.upd _).slmk (r:=r.drop ys.length) (by rw[y0x,h3,hylen,hrow]) ?_ hfit⟩
   ·unfold uE bu;rcases zJs h2 with⟨e2,hd⟩|hd<;>
    simp only[y2y,y3h,y2w,bind,pure,run_bind,be,bc,run_underlying q1,run_sizeOf q2,run_underlying hd,y1p,if_false,r1,r2,hfit,if_true,wO,y1x,hst,y6f]
   ·rw[<- h4];simp only[y0x,y1w]at hroom ⊢;omega
 ·have hc1:¬(((n+m:Nat):Int)>cy.max/\(False\/i.bytes=0)):=by
   rintro⟨_,h|h⟩
   ·exact h
   ·omega
  have hc2:¬(Builtin.nextslicecap (n+m) c*i.bytes>2 ^ 48):=by
   have:=zKr (need:=n+m) (cap:=c) (by omega);have:=y2k i.bytes this;have e:2*(n+m)*i.bytes=2*((n+m)*i.bytes):=by rw[Nat.mul_assoc]
   omega
  have hold:(br i.size n (.slice a n c)).run P w= .ok xs.toArray w:=(zDw (P:=P) (.inl ⟨a,c,rfl,H.satR⟩)).2.1;have hzr:∀w,(zeroValue e).run P w= .ok zv w:=λw=>zero_run (by unfold zero?;rw[q2];exact q5) w
  have hti:∀w,(typeInfo e).run P w= .ok i w:=λw=>zDk q2 w
  generalize hcap:(Question.appendCap (n+m) c e).cut (w.tape w.drawn (.appendCap (n+m) c e))=nc;have hge:n+m<=nc:=by
   rw[<- hcap];simp only[Question.cut];omega
  have r2':(br i.size m x).run P w.drew= .ok ys.toArray w.drew:=by
   have hx':Src i.size w.drew x m ys:=by
    rcases hx with⟨a,kk,rfl,H⟩|h
    ·exact .inl ⟨a,kk,rfl,H.below ((Below.refl _ _).drew)⟩
    ·exact .inr h
   exact(zDw (P:=P) hx').2.1
  have hold':(br i.size n (.slice a n c)).run P w.drew= .ok xs.toArray w.drew:=(zDw (P:=P) (.inl ⟨a,c,rfl,H.satR.below ((Below.refl _ _).drew)⟩)).2.1;have hch:(choose (.appendCap (n+m) c e)).run P w= .ok nc w.drew:=by
   simp only[choose,bc,Question.forced,y1p,if_false,hcap];rfl
  have hnew:=(H.drop.drew).new (.cells (xs++(ys++(bt zv.cells (nc-(n+m))).toList)).toArray e);have hlen:(ys++(bt zv.cells (nc-(n+m))).toList).length=m*i.size+(nc-(n+m))*i.size:=by
   rw[y0x,hylen,y4t,size_zeroCells,hz]
  have harr:xs.toArray++ys.toArray++bt zv.cells (nc-(n+m))=(xs++(ys++(bt zv.cells (nc-(n+m))).toList)).toArray:=by
   apply cx;simp
  refine⟨ay ⟨w.drew.heap.size,0,az⟩,nc,w.drew.alloc (.cells (xs++(ys++(bt zv.cells (nc-(n+m))).toList)).toArray e),?_,?_⟩
  ·unfold uE bu;rcases zJs h2 with⟨e2,hd⟩|hd<;>
   simp only[y2y,y3h,y2w,bind,pure,run_bind,be,bc,run_underlying q1,run_sizeOf q2,run_underlying hd,y1p,if_false,r1,hfit,hti,hc1,hc2,hch,zId,hold',r2',hzr,y6f,if_true,harr,newRow,newObj]
   all_goals rfl
  ·have:=Hp.slmk (c:=nc) (n:=n+m) (sz:=i.size) (xs:=xs++ys) (r:=(bt zv.cells (nc-(n+m))).toList) (by rw[y1e];exact hnew) (by rw[y0x,hxlen,hylen,hrow]) ?_ hge
   ·exact this
   ·rw[y1e,y0x,hlen,hxlen,<- y3y,<- y3y];congr 1;omega
end Cv
namespace Sx
@[reducible] def da.{u} {α:Sort u} (x:α):Prop:=x=x
open Go Go.RowKit Cv
inductive D where
 |v (x:ab)
 |ro (sz:Nat) (els:List (List D))
inductive V where
 |top
 |d (x:D)
 |nm (n off:Nat)
 |el (n sz i f:Nat)
 |re (sz:Nat) (els:List (List D)) (i f:Nat)
 |na (n off i:Nat)
 |own (n:Nat)
 |mp (n:Nat)
 |sub (n i:Nat)
 |agg (l:List V)
 |tup (l:List V)
 |fn (f:Nat) (first cap:List V)
 |ifc (t:Nat) (x:V)
inductive AObj:Type 1 where
 |gone
 |nilo
 |cells (vs:List V) (t:ae)
 |own (t sz:Nat) (els:List (List D))
 |fro (sz:Nat) (els:List (List D))
 |mrk (t:ae) (els:List (List D))
 |vec (ds:List D) (t:ae)
 |map (es:List (ab×List D))
 |mapS (es:List (ab×List D)) (kv:ab) (b:Int)
 |iter (s:ByteArray) (pos:Nat)
 |adt (T:Type) (m:Nat) (unf:T->Nat->AObj) (x:T)
 |objs (t:Nat) (T:Type) (m:Nat) (unf:T->Nat->AObj) (l:List T) (hole:Option Nat)
 |hol (q:Bool) (t sz:Nat) (els:List (List D)) (i f:Nat) (b:Bool) (m:Option Nat)
@[reducible] def Hd:=ab×List ab
structure Ev where
 F:PH
 tab:List Hd
def FLe (F G:PH):Prop:=∀b o,F b=ay o->G b=ay o
def Ev.le (E E':Ev):Prop:=FLe E.F E'.F/\E.tab<+:E'.tab
def FLe.refl (F:PH):FLe F F:=λ_ _ h=>h
def FLe.trans {F G H:PH} (a:FLe F G) (b:FLe G H):FLe F H:=λx o h=>b x o (a x o h)
def Ev.le.refl (E:Ev):E.le E:=⟨FLe.refl _,y5i _⟩
def Ev.le.trans {E E' E2:Ev} (a:E.le E') (b:E'.le E2):E.le E2:=⟨a.1.trans b.1,a.2.trans b.2⟩
def zJg {α:Type} {l l':List α} (h:l<+:l') {n:Nat} {x:α} (e:l[n]? =ay x):l'[n]? =ay x:=by
 obtain⟨t,rfl⟩:=h;rw[y3r]
 ·exact e
 ·exact(y1c.1 e).1
def Ev.le.get {E E':Ev} (a:E.le E') {n:Nat} {x:Hd} (e:E.tab[n]? =ay x):E'.tab[n]? =ay x:=zJg a.2 e
mutual
def DR (F:PH):D->ab->Prop
 | .v x,y=>y=x/\x.oneC=bo
 | .ro sz els,y=>∃a c,y= .slice a els.length c/\els.length<=c/\(∀el∈els,el.length=sz)/\
    (els=[]\/∃(b o:Nat) (l:List ab) (T:ae) (fr:Nat×Nat),a=ay ⟨b,o,az⟩/\F b=ay (.cells l.toArray T fr)/\DRS F els (l.drop o))
def DRL (F:PH):List D->List ab->Prop
 |[],l=>l=[]
 |d::ds,l=>∃x xs,l=x::xs/\DR F d x/\DRL F ds xs
def DRS (F:PH):List (List D)->List ab->Prop
 |[],_=>True
 |el::els,l=>∃l1 l2,l=l1++l2/\DRL F el l1/\DRS F els l2
end
mutual
theorem DR.mono {F G:PH} (h:FLe F G):∀{d:D} {y:ab},DR F d y->DR G d y
 | .v x,y,e=>by simpa only[DR]using e
 | .ro sz els,y,e=>by
   simp only[DR]at e ⊢;obtain⟨a,c,h1,h2,h3,h4⟩:=e;refine⟨a,c,h1,h2,h3,?_⟩;rcases h4 with h4|⟨b,o,l,T,fr,q1,q2,q3⟩
   ·exact .inl h4
   ·exact .inr ⟨b,o,l,T,fr,q1,h _ _ q2,DRS.mono h q3⟩
theorem DRL.mono {F G:PH} (h:FLe F G):∀{ds:List D} {l:List ab},DRL F ds l->DRL G ds l
 |[],l,e=>by simpa only[DRL]using e
 |d::ds,l,e=>by
  simp only[DRL]at e ⊢;obtain⟨x,xs,h1,h2,h3⟩:=e;exact⟨x,xs,h1,DR.mono h h2,DRL.mono h h3⟩
theorem DRS.mono {F G:PH} (h:FLe F G):∀{els:List (List D)} {l:List ab},DRS F els l->DRS G els l
 |[],l,e=>by simp only[DRS]
 |el::els,l,e=>by
  simp only[DRS]at e ⊢;obtain⟨x,xs,h1,h2,h3⟩:=e;exact⟨x,xs,h1,DRL.mono h h2,DRS.mono h h3⟩
end
mutual
def VR (E:Ev):V->ab->Prop
 | .top,_=>True
 | .d d,y=>DR E.F d y
 | .nm n o,y=>∃(b oo:Nat) (l:List ab),E.tab[n]? =ay (.pointer (ay ⟨b,oo,az⟩),l)/\y= .pointer (ay ⟨b,oo+o,az⟩)
 | .el n sz i f,y=>∃(b oo m c:Nat) (l:List ab),E.tab[n]? =ay (.slice (ay ⟨b,oo,az⟩) m c,l)/\y= .pointer (ay ⟨b,oo+i*sz+f,az⟩)
 | .re sz els i f,y=>i<els.length/\(∀el∈els,el.length=sz)/\∃(b o:Nat) (l:List ab) (T:ae) (fr:Nat×Nat),y= .pointer (ay ⟨b,o+i*sz+f,az⟩)/\E.F b=ay (.cells l.toArray T fr)/\DRS E.F els (l.drop o)
 | .na n o i,y=>∃(b oo:Nat) (l:List ab),E.tab[n]? =ay (.pointer (ay ⟨b,oo,az⟩),l)/\y= .pointer (ay ⟨b,oo+(o+i),az⟩)
 | .own n,y=>∃l,E.tab[n]? =ay (y,l)/\∃a m c,y= .slice a m c
 | .mp n,y=>∃b l,E.tab[n]? =ay (y,l)/\y= .map (ay b)
 | .sub n i,y=>∃hd l b oo,E.tab[n]? =ay (hd,l)/\l[i]? =ay y/\y= .pointer (ay ⟨b,oo,az⟩)
 | .agg l,y=>∃ys,y= .agg ys.toArray/\VRL E l ys
 | .tup l,y=>∃ys,y= .tuple ys.toArray/\VRL E l ys
 | .fn f a b,y=>∃as bs,y= .func (.func f) as.toArray bs.toArray/\VRL E a as/\VRL E b bs
 | .ifc t x,y=>∃z,y= .iface t z/\VR E x z
def VRL (E:Ev):List V->List ab->Prop
 |[],l=>l=[]
 |v::vs,l=>∃x xs,l=x::xs/\VR E v x/\VRL E vs xs
end
mutual
theorem VR.mono {E E':Ev} (h:E.le E'):∀{v:V} {y:ab},VR E v y->VR E' v y
 | .top,y,e=>by simp only[VR]
 | .d d,y,e=>by simp only[VR]at e ⊢;exact e.mono h.1
 | .nm n o,y,e=>by
   simp only[VR]at e ⊢;obtain⟨b,oo,l,h1,h2⟩:=e;exact⟨b,oo,l,h.get h1,h2⟩
 | .el n sz i f,y,e=>by
   simp only[VR]at e ⊢;obtain⟨b,oo,m,c,l,h1,h2⟩:=e;exact⟨b,oo,m,c,l,h.get h1,h2⟩
 | .re sz els i f,y,e=>by
   simp only[VR]at e ⊢;obtain⟨h0,h1,b,o,l,T,fr,h2,h3,h4⟩:=e;exact⟨h0,h1,b,o,l,T,fr,h2,h.1 _ _ h3,h4.mono h.1⟩
 | .na n o i,y,e=>by
   simp only[VR]at e ⊢;obtain⟨b,oo,l,h1,h2⟩:=e;exact⟨b,oo,l,h.get h1,h2⟩
 | .own n,y,e=>by
   simp only[VR]at e ⊢;obtain⟨l,h1,h2⟩:=e;exact⟨l,h.get h1,h2⟩
 | .mp n,y,e=>by
   simp only[VR]at e ⊢;obtain⟨b,l,h1,h2⟩:=e;exact⟨b,l,h.get h1,h2⟩
 | .sub n i,y,e=>by
   simp only[VR]at e ⊢;obtain⟨hd,l,b,oo,h1,h2⟩:=e;exact⟨hd,l,b,oo,h.get h1,h2⟩
 | .agg l,y,e=>by
   simp only[VR]at e ⊢;obtain⟨ys,h1,h2⟩:=e;exact⟨ys,h1,VRL.mono h h2⟩
 | .tup l,y,e=>by
   simp only[VR]at e ⊢;obtain⟨ys,h1,h2⟩:=e;exact⟨ys,h1,VRL.mono h h2⟩
 | .fn f a b,y,e=>by
   simp only[VR]at e ⊢;obtain⟨as,bs,h1,h2,h3⟩:=e;exact⟨as,bs,h1,VRL.mono h h2,VRL.mono h h3⟩
 | .ifc t x,y,e=>by
   simp only[VR]at e ⊢;obtain⟨z,h1,h2⟩:=e;exact⟨z,h1,VR.mono h h2⟩
theorem VRL.mono {E E':Ev} (h:E.le E'):∀{vs:List V} {l:List ab},VRL E vs l->VRL E' vs l
 |[],l,e=>by simpa only[VRL]using e
 |v::vs,l,e=>by
  simp only[VRL]at e ⊢;obtain⟨x,xs,h1,h2,h3⟩:=e;exact⟨x,xs,h1,VR.mono h h2,VRL.mono h h3⟩
end
def nE:List ab->ab
 |[y]=>y
 |ys=> .agg ys.toArray
def MR (F:PH):List (ab×List D)->List aq->Prop
 |[],l=>l=[]
 |(k,ds)::es,l=>∃(m:aq) (ms:List aq),l=m::ms/\m.key=k/\(∃ys,DRL F ds ys/\m.val=nE ys)/\MR F es ms
def MR.mono {F G:PH} (h:FLe F G):∀{es:List (ab×List D)} {l:List aq},MR F es l->MR G es l
 |[],l,e=>e
 |(k,ds)::es,l,e=>by
  obtain⟨m,ms,h1,h2,⟨ys,h3,h4⟩,h5⟩:=e;exact⟨m,ms,h1,h2,⟨ys,h3.mono h,h4⟩,h5.mono h⟩
def wI (l:List aq) (ck:Nat):Prop:=(l.map (·.born)).Nodup/\∀e∈l,e.born<ck
def zUt (kd:TypeDesc) (x:ab):Prop:=(∃ik k n,kd=.int ik/\x=.int k n)\/(∃s,kd=.string/\x=.string s)
def zJl (l:List aq) (x:ab) (b:Int):Prop:=∃kd,zUt kd x/\∃q m,Instr.findNow kd x l 0=ay (ay (q,m.val))/\l[q]?=ay m/\(m.born:Int)=b
def HolX (tab:List Hd) (p:Nat) (b:Bool) (ys xs:List ab):Option Nat->Prop
 |some m=>∃y l,tab[m]? =ay (y,l)/\(∃a n c,y= .slice a n c)/\xs=bif b then ys.set p y else ys
 |none=>∃y,(∃a n c,y= .slice a n c)/\xs=bif b then ys.set p y else ys
def rowHP (F:PH):AObj->List Hd->Hd->HP
 | .gone,_,_=>λh=>h=pe
 | .nilo,_,hd=>λh=>h=pe/\hd.1= .slice az 0 0/\hd.2=[]
 | .cells vs t,tab,hd=>λh=>∃b l,hd.1= .pointer (ay ⟨b,0,az⟩)/\VRL ⟨F,tab⟩ vs l/\h=one b (.cells l.toArray t)
 | .own t sz els,tab,hd=>λh=>∃a k xs,hd.1= .slice a els.length k/\DRL F els.flatten xs/\(∀el∈els,el.length=sz)/\slO t sz a els.length k xs h
 | .fro sz els,tab,hd=>λh=>h=pe/\DR F (.ro sz els) hd.1
 | .mrk t els,tab,hd=>λh=>∃b k xs r,hd.1= .slice (ay ⟨b,0,az⟩) els.length k/\DRL F els.flatten xs/\(∀el∈els,el.length=1)/\els.length<=k/\h=one b (.cells (xs++r).toArray t ((xs++r).length,(xs++r).length+1))
 | .vec ds t,tab,hd=>λh=>∃b l,hd.1= .pointer (ay ⟨b,0,az⟩)/\DRL F ds l/\h=one b (.cells l.toArray t)
 | .map es,tab,hd=>λh=>∃b ents ck,hd.1= .map (ay b)/\MR F es ents/\wI ents ck/\h=one b (.map ents.toArray ck)
 | .mapS es kv x,tab,hd=>λh=>∃b ents ck,hd.1= .map (ay b)/\MR F es ents/\wI ents ck/\zJl ents kv x/\h=one b (.map ents.toArray ck)
 | .iter s pos,tab,hd=>λh=>∃b,hd.1= .pointer (ay ⟨b,0,az⟩)/\h=one b (.stringIter s pos)
 | .adt T m unf x,tab,hd=>λh=>∃tab1,tab1[0]? =ay hd/\tab1.length=m/\hS ((ct m).map λj=>λh=>∃hd',tab1[j]? =ay hd'/\rowHP F (unf x j) tab1 hd' h) h
 | .objs t T m unf l hole,tab,hd=>λh=>∃a k,hd.1= .slice a l.length k/\hd.2.length=l.length/\(∀p∈hd.2,∃b oo,p= .pointer (ay ⟨b,oo,az⟩))/\
    hS [slO t 1 a l.length k hd.2,hS ((ct l.length).map λi=>λh=>if hole=ay i then h=pe else ∃x p l0 tab1,l[i]? =ay x/\hd.2[i]? =ay p/\tab1[0]? =ay (p,l0)/\tab1.length=m/\
     hS ((ct m).map λj=>λh=>∃hd',tab1[j]? =ay hd'/\rowHP F (unf x j) tab1 hd' h) h)] h
 | .hol q t sz els i f b m,tab,hd=>λh=>∃a k ys xs,hd.1= .slice a els.length k/\DRL F els.flatten ys/\(∀el∈els,el.length=sz)/\HolX tab (i*sz+f) b ys xs m/\slO t sz a els.length k xs h
def zAh {α:Type} {f g:α->HP} (h:∀a x,f a x->g a x):∀{l:List α} {x:PH},hS (l.map f) x->hS (l.map g) x
 |[],x,e=>e
 |[a],x,e=>h a x e
 |a::b::l,x,e=>by
  obtain⟨g1,g2,h1,h2,h3,h4⟩:=e;exact⟨g1,g2,h a _ h1,zAh h (l:=b::l) h2,h3,h4⟩
def HolX.mono {tab tab':List Hd} (h:∀(n:Nat) (hd:Hd),tab[n]? =ay hd->tab'[n]? =ay hd) {p:Nat} {b:Bool} {ys xs:List ab}:∀{m:Option Nat},HolX tab p b ys xs m->HolX tab' p b ys xs m
 |some m,⟨y,l,h1,h2⟩=>⟨y,l,h _ _ h1,h2⟩
 |none,e=>e
def rowHP.mono {F G:PH} (hF:FLe F G) (o:AObj):∀{tab tab':List Hd} (ht:tab<+:tab') {hd:Hd} {h:PH},rowHP F o tab hd h->rowHP G o tab' hd h:=by
 induction o with
 |gone=>intro _ _ _ _ _ e;exact e
 |nilo=>intro _ _ _ _ _ e;exact e
 |cells vs t=>
  intro tab tab' ht hd h e;simp only[rowHP]at e ⊢;obtain⟨b,l,h1,h2,h3⟩:=e;exact⟨b,l,h1,h2.mono ⟨hF,ht⟩,h3⟩
 |own t sz els=>
  intro tab tab' ht hd h e;simp only[rowHP]at e ⊢;obtain⟨a,k,xs,h1,h2,h3⟩:=e;exact⟨a,k,xs,h1,h2.mono hF,h3⟩
 |fro sz els=>
  intro tab tab' ht hd h e;simp only[rowHP]at e ⊢;exact⟨e.1,e.2.mono hF⟩
 |mrk t els=>
  intro tab tab' ht hd h e;simp only[rowHP]at e ⊢;obtain⟨b,k,xs,r,h1,h2,h3⟩:=e;exact⟨b,k,xs,r,h1,h2.mono hF,h3⟩
 |vec ds t=>
  intro tab tab' ht hd h e;simp only[rowHP]at e ⊢;obtain⟨b,l,h1,h2,h3⟩:=e;exact⟨b,l,h1,h2.mono hF,h3⟩
 |map es=>
  intro tab tab' ht hd h e;simp only[rowHP]at e ⊢;obtain⟨b,l,ck,h1,h2,h3⟩:=e;exact⟨b,l,ck,h1,h2.mono hF,h3⟩
 |mapS es kv x=>
  intro tab tab' ht hd h e;simp only[rowHP]at e ⊢;obtain⟨b,l,ck,h1,h2,h3⟩:=e;exact⟨b,l,ck,h1,h2.mono hF,h3⟩
 |iter s pos=>intro _ _ _ _ _ e;simpa only[rowHP]using e
 |adt T m unf x ih=>
  intro tab tab' ht hd h e;simp only[rowHP]at e ⊢;obtain⟨tab1,h1,h2,h3⟩:=e;refine⟨tab1,h1,h2,zAh ?_ h3⟩;rintro j y ⟨hd',q1,q2⟩;exact⟨hd',q1,ih x j (y5i _) q2⟩
 |objs t T m unf l hole ih=>
  intro tab tab' ht hd h e;simp only[rowHP]at e ⊢;obtain⟨a,k,h1,h2,h3,h5⟩:=e;refine⟨a,k,h1,h2,h3,?_⟩;obtain⟨g1,g2,q1,q2,q3,q4⟩:=h5;refine⟨g1,g2,q1,zAh ?_ q2,q3,q4⟩;intro i y hy;split
  ·rename_i hi;rw[y1a hi]at hy;exact hy
  ·rename_i hi;rw[y0y hi]at hy;obtain⟨x,p,l0,tab1,r1,r2,r3,r4,r5⟩:=hy;refine⟨x,p,l0,tab1,r1,r2,r3,r4,zAh ?_ r5⟩;rintro j y ⟨hd',s1,s2⟩;exact⟨hd',s1,ih x j (y5i _) s2⟩
 |hol q t sz els i f b m=>
  intro tab tab' ht hd h e;simp only[rowHP]at e ⊢;obtain⟨a,k,ys,xs,h1,h2,h3,h4,h5⟩:=e;exact⟨a,k,ys,xs,h1,h2.mono hF,h3,h4.mono λn hd e=>zJg ht e,h5⟩
structure St where
 rows:List (Nat×AObj)
 nx:Nat
def sB (n:Nat):List (Nat×AObj)->Option AObj
 |[]=>az
 |(m,o)::l=>bif cn m n then ay o else sB n l
def wA (n:Nat):List (Nat×AObj)->List (Nat×AObj)
 |[]=>[]
 |(m,o)::l=>bif cn m n then l else(m,o)::wA n l
def pW (n:Nat) (x:AObj):List (Nat×AObj)->List (Nat×AObj)
 |[]=>[]
 |(m,o)::l=>bif cn m n then(m,x)::l else(m,o)::pW n x l
def St.get (s:St) (n:Nat):Option AObj:=sB n s.rows
def St.set (s:St) (n:Nat) (o:AObj):St:=⟨pW n o s.rows,s.nx⟩
def St.del (s:St) (n:Nat):St:=⟨wA n s.rows,s.nx⟩
def St.delF (s:St) (n:Nat):AObj->St
 | .fro _ _=>s
 |_=>s.del n
def St.new (s:St) (o:AObj):St:=⟨(s.nx,o)::s.rows,s.nx+1⟩
def wB {n:Nat} {o:AObj}:∀{l:List (Nat×AObj)},sB n l=ay o->l.Perm ((n,o)::wA n l)/\∀x,(pW n x l).Perm ((n,x)::wA n l)
 |[],h=>by cases h
 |(m,p)::l,h=>by
  simp only[sB,wA,pW]at h ⊢;cases hb:cn m n
  ·rw[hb]at h;obtain⟨h1,h2⟩:=wB (l:=l) h;exact⟨(h1.cons _).trans (.swap _ _ _),λx=>((h2 x).cons _).trans (.swap _ _ _)⟩
  ·rw[hb]at h;have:=y1b hb;subst this;cases h;exact⟨.refl _,λx=> .refl _⟩
def rHP (E:Ev) (r:Nat×AObj):HP:=λh=>r.2= .gone/\h=pe\/∃hd,E.tab[r.1]? =ay hd/\rowHP E.F r.2 E.tab hd h
def rHP.mono {E E':Ev} (h:E.le E') (r:Nat×AObj) {x:PH} (e:rHP E r x):rHP E' r x:=by
 rcases e with e|⟨hd,h1,h2⟩
 ·exact .inl e
 ·exact .inr ⟨hd,h.get h1,h2.mono h.1 _ h.2⟩
def yYz:List (Nat×(Obj->Prop)):=[]
def GTab (F:PH):Prop:=∀g∈yYz,∃o,F g.1=ay o/\g.2 o
def GTab.mono {F G:PH} (h:FLe F G) (e:GTab F):GTab G:=λg hg=>let⟨o,h1,h2⟩:=e g hg;⟨o,h _ _ h1,h2⟩
def fz (F:PH):HP:=λh=>h=F/\GTab F
structure Rel (k:Ko) (L:List HP) (E:Ev) (s:St) (w:ac):Prop where
 nx:E.tab.length=s.nx
 hp:Hp k w (s.rows.map (rHP E)++fz E.F::L)
end Sx
namespace Cv
open Go Go.RowKit
inductive Tr (α:Type) where
 |e
 |n (v:Option α) (l r:Tr α)
def Tr.get {α:Type}:List Bool->Tr α->Option α
 |_,.e=>az
 |[],.n v _ _=>v
 |b::p,.n _ l r=>bif b then Tr.get p l else Tr.get p r
def Tr.set {α:Type} (x:Option α):List Bool->Tr α->Tr α
 |[],.e=> .n x .e .e
 |[],.n _ l r=> .n x l r
 |b::p,.e=>bif b then .n az (Tr.set x p .e) .e else .n az .e (Tr.set x p .e)
 |b::p,.n v l r=>bif b then .n v (Tr.set x p l) r else .n v l (Tr.set x p r)
def yXo:Nat->Nat->List Bool
 |0,n=>List.replicate n bo
 |f+1,n=>bif cn n 0 then[]else cn (n % 2) 1::yXo f (n / 2)
def pth (n:Nat):List Bool:=yXo 40 n
inductive Cap where
 |k (c:Nat)
 |r (l o0:Nat)
inductive V where
 |int (k:ag) (n:Int)
 |bool (b:Bool)
 |str (l:List Nat)
 |ptr (a:Option (Nat×Nat))
 |sl (a:Option (Nat×Nat)) (n:Nat) (c:Cap)
 |map (r:Option Nat)
 |agg (l:List V)
 |tup (l:List V)
 |fn (f:Nat) (first cap:List V)
 |nilfn
inductive AObj where
 |cells (xs:List V) (t:ae) (opn:Option Nat)
 |map (es:List (V×V×Nat)) (clock:Nat)
 |iter (s:List Nat) (pos:Nat)
structure St where
 h:Tr AObj
 nx:Nat
def St.get (s:St) (b:Nat):Option AObj:=Tr.get (pth b) s.h
def St.set (s:St) (b:Nat) (o:AObj):St:=⟨Tr.set (ay o) (pth b) s.h,s.nx⟩
def St.del (s:St) (b:Nat):St:=⟨Tr.set az (pth b) s.h,s.nx⟩
def St.new (s:St) (o:AObj):St:=⟨Tr.set (ay o) (pth s.nx) s.h,s.nx+1⟩
@[reducible] def Phi:=Nat->Nat×Nat
def cvs (φ:Phi) (b o n:Nat):Cap->am
 | .k _=>⟨(φ b).1,o,az⟩
 | .r l o0=>⟨(φ b).1,bif cn n 0 && cn (φ b).2 l then o0 else o,az⟩
def cvc (φ:Phi) (b:Nat):Cap->Nat
 | .k c=>c
 | .r l _=>(φ b).2-l
mutual
def cv (φ:Phi):V->ab
 | .int k n=> .int k n
 | .bool b=> .bool b
 | .str l=> .string (bs l)
 | .ptr az=> .pointer az
 | .ptr (ay (b,o))=> .pointer (ay ⟨(φ b).1,o,az⟩)
 | .sl az n c=> .slice az n (match c with| .k c=>c| .r _ _=>0)
 | .sl (ay (b,o)) n c=> .slice (ay (cvs φ b o n c)) n (cvc φ b c)
 | .map az=> .map az
 | .map (ay b)=> .map (ay (φ b).1)
 | .agg l=> .agg (cvl φ l).toArray
 | .tup l=> .tuple (cvl φ l).toArray
 | .fn f a b=> .func (.func f) (cvl φ a).toArray (cvl φ b).toArray
 | .nilfn=> .nilFunc
def cvl (φ:Phi):List V->List ab
 |[]=>[]
 |v::l=>cv φ v::cvl φ l
end
def yFw {α:Type}:List (Option α)->Option (List α)
 |[]=>ay []
 |some a::l=>match yFw l with
  |some r=>ay (a::r)
  |none=>az
 |none::_=>az
def zXj (ρ:Tr V):Option Nat->V->Tr V
 |none,_=>ρ
 |some d,v=>Tr.set (ay v) (pth d) ρ
def keq:ag->ag->Bool
 | .i8,.i8=>bo| .i16,.i16=>bo| .i32,.i32=>bo| .i64,.i64=>bo
 | .u8,.u8=>bo| .u16,.u16=>bo| .u32,.u32=>bo| .u64,.u64=>bo
 |_,_=>bp
def ieq:Int->Int->Bool
 | .ofNat a,.ofNat b=>cn a b
 | .negSucc a,.negSucc b=>cn a b
 |_,_=>bp
def aeq:Option (Nat×Nat)->Option (Nat×Nat)->Bool
 |none,az=>bo
 |some (a,b),ay (c,d)=>cn a c && cn b d
 |_,_=>bp
def lim:ag->Nat
 | .i8=>128| .i16=>32768| .i32=>2147483648| .i64=>9223372036854775808
 | .u8=>256| .u16=>65536| .u32=>4294967296| .u64=>18446744073709551616
def wr (k:ag):Int->Int
 | .ofNat n=>bif co n (lim k)then .ofNat n else k.wrap (.ofNat n)
 |x=>k.wrap x
def yAd:ag->Nat
 | .i8=>256| .i16=>65536| .i32=>4294967296| .i64=>18446744073709551616
 | .u8=>256| .u16=>65536| .u32=>4294967296| .u64=>18446744073709551616
def y0v (k:ag):Int->Int->Int
 | .ofNat a,.ofNat b=>wr k (.ofNat (Nat.land (a % yAd k) (b % yAd k)))
 |a,b=>zBw k a b
def fOr (k:ag):Int->Int->Int
 | .ofNat a,.ofNat b=>wr k (.ofNat (Nat.lor (a % yAd k) (b % yAd k)))
 |a,b=>iOr k a b
def yRw (k:ag):Int->Int->Int
 | .ofNat a,.ofNat b=>wr k (.ofNat (a*2 ^ (Nat.min b k.bits)))
 |a,b=>zXa k a b
def zTz (P:aa) (t:ae):Bool:=
 match P.underlying t with
 |some (.pointer _)=>bo
 |_=>bp
def zDi (P:aa) (t:ae):Bool:=
 match P.underlying t with
 |some (.slice _)=>bo
 |_=>bp
def z1t (P:aa) (t:ae):Bool:=
 match P.underlying t with
 |some (.map _ _)=>bo
 |_=>bp
def zBf (P:aa) (t:ae):Bool:=
 match P.underlying t with
 |some .string=>bo
 |_=>bp
def y0w (P:aa) (t:ae):Option ag:=
 match P.underlying t with
 |some (.int k)=>ay k
 |_=>az
def zLs (P:aa) (s:ae) (f:Nat):Option Nat:=
 match P.underlying s with
 |some (.struct fs)=>match fs[f]? with
  |some fd=>match P.info? fd.type with
   |some i=>bif cn i.size 0 then az else ay fd.offset
   |none=>az
  |none=>az
 |_=>az
def zGb (P:aa) (s:ae) (f:Nat):Option (ae×Nat):=
 match P.underlying s with
 |some (.struct fs)=>match fs[f]? with
  |some fd=>ay (fd.type,fd.offset)
  |none=>az
 |_=>az
def zIr (P:aa) (t:ae):Option (Nat×ae×Nat):=
 match P.underlying t with
 |some (.array n e)=>match P.info? e with
  |some i=>ay (n,e,i.size)
  |none=>az
 |_=>az
def apart (P:aa) (t:ae) (cs:List V) (off:Nat):Option V:=
 match zIm P t with
 |some sz=>ay (.agg ((cs.drop off).take sz))
 |none=>bif zAu P t then cs[off]? else az
def zMm (i:Int) (n:Nat):Option Nat:=
 match i with
 | .ofNat j=>bif co j n then ay j else az
 |_=>az
def yFl (P:aa) (t:ae):Option (List (Option (Nat×Nat))):=
 match P.underlying t with
 |some (.struct fs)=>ay (fs.toList.map λfd=>match P.info? fd.type with
   |some i=>ay (fd.offset,i.size)
   |none=>az)
 |_=>az
def zUj (l:List (Option (Nat×Nat))) (i:Nat):Option (Nat×Nat):=
 match l[i]? with
 |some r=>r
 |none=>az
def zOh (P:aa) (t:ae):Option (ae×ae):=
 match P.underlying t with
 |some (.map k e)=>ay (k,e)
 |_=>az
def yAv (P:aa) (t:ae):Bool:=
 match P.underlying t with
 |some (.slice e)=>match P.underlying e with
  |some (.int .u8)=>bo
  |_=>bp
 |_=>bp
def aP (P:aa) (t:ae):Option Nat:=
 match P.info? t with
 |some i=>ay i.size
 |none=>az
end Cv
namespace Cv
open Go Go.RowKit
def cme (φ:Phi) (e:V×V×Nat):aq:={key:=cv φ e.1,val:=cv φ e.2.1,born:=e.2.2}
def coT (φ:Phi) (b:Nat):AObj->Obj->Prop
 | .cells xs t az,O=>O= .cells (cvl φ xs).toArray t
 | .cells xs t (ay sz),O=>∃r,O= .cells (cvl φ xs++r).toArray t/\xs.length+r.length=(φ b).2*sz
 | .map es ck,O=>O= .map (es.map (cme φ)).toArray ck
 | .iter l pos,O=>O= .stringIter (bs l) pos
structure Rel (φ:Phi) (s:St) (w:ac):Prop where
 obj:∀b o,s.get b=ay o->∃O,w.heap[(φ b).1]? =ay O/\coT φ b o O
 inj:∀b c,s.get b≠az->s.get c≠az->(φ b).1=(φ c).1->b=c
 lt:∀b,s.get b≠az->b<s.nx
def bs_toNat (s:ByteArray):bs (s.data.toList.map UInt8.toNat)=s:=by
 unfold bs;rw[y3j];have:(Nat.toUInt8∘UInt8.toNat)=id:=by
  funext x;simp[Nat.toUInt8]
 rw[this];simp
def zKl {off:Nat}:∀(vs:List ab) (k:Nat) (l:List ab),off+k+vs.length<=l.length->
 List.foldl (λ(cs:Array ab) (p:ab×Nat)=>cs.setIfInBounds (off+p.2) p.1) l.toArray (vs.zipIdx k)=(spl l (off+k) vs).toArray
 |[],k,l,_=>by simp[spl]
 |v::vs,k,l,h=>by
  simp only[y1d]at h;simp only[List.zipIdx_cons,y5d,List.setIfInBounds_toArray];rw[zKl vs (k+1) (l.set (off+k) v) (by rw[y2d];omega),show off+(k+1)=off+k+1 by omega,zJc (by omega)]
end Cv
namespace Cv
open Go Go.RowKit
def zQu {k k':ag} (h:keq k k'=bo):k=k':=by cases k<;>cases k'<;>first|rfl|cases h
def z0q {k:ag} {n:Nat} (h:n<lim k):k.wrap (.ofNat n)= .ofNat n:=by
 cases k<;>simp only[lim]at h<;>simp[IntKind.wrap,IntKind.bits,IntKind.signed]<;>omega
def z4l (k:ag) (x:Int):wr k x=k.wrap x:=by
 cases x with
 |ofNat n=>
  simp only[wr];cases h:co n (lim k)
  ·rfl
  ·exact(z0q (by simpa[y4a]using h)).symm
 |negSucc n=>rfl
def yKh (k:ag):yAd k=2 ^ k.bits:=by cases k<;>rfl
def zHg (w a:Nat):cr w (Int.ofNat a)=BitVec.ofNat w a:=by
 apply BitVec.eq_of_toNat_eq;simp
def yRm (k:ag) (a b:Int):fOr k a b=iOr k a b:=by
 unfold fOr;split
 ·rename_i a b;rw[z4l,yKh];unfold iOr;rw[zHg,zHg];simp only[BitVec.toNat_or,BitVec.toNat_ofNat];rfl
 ·rfl
def yKu (k:ag) (a b:Int):yRw k a b=zXa k a b:=by
 unfold yRw;split
 ·rename_i a b;rw[z4l];unfold zXa;congr 1
 ·rfl
end Cv
namespace Cv
open Go Go.RowKit
def zWg {P:aa} {t:ae} (h:zTz P t=bo):∃e,P.underlying t=ay (.pointer e):=by
 unfold zTz at h;split at h
 ·exact⟨_,by assumption⟩
 ·cases h
def rT {P:aa} {t:ae} (h:zDi P t=bo):∃e,P.underlying t=ay (.slice e):=by
 unfold zDi at h;split at h
 ·exact⟨_,by assumption⟩
 ·cases h
def zXq {P:aa} {t:ae} (h:z1t P t=bo):∃k e,P.underlying t=ay (.map k e):=by
 unfold z1t at h;split at h
 ·exact⟨_,_,by assumption⟩
 ·cases h
def aW {P:aa} {t:ae} (h:zBf P t=bo):P.underlying t=ay .string:=by
 unfold zBf at h;split at h
 ·assumption
 ·cases h
end Cv
namespace Cv
open Go Go.RowKit
def yP {α:Type} {b:Bool} {x:Option α} {v:α} (h:(bif b then x else az)=ay v):b=bo/\x=ay v:=by
 cases b
 ·cases h
 ·exact⟨rfl,h⟩
def zJr {i:Int} {n j:Nat} (h:zMm i n=ay j):i=(j:Int)/\j<n:=by
 unfold zMm at h;split at h
 ·rename_i m;obtain⟨hb,h⟩:=yP h;simp only[cj]at h;subst h;exact⟨rfl,by simpa[y4a]using hb⟩
 ·cases h
def zOf {P:aa} {s f off:Nat} (h:zLs P s f=ay off):∃fs fd i,P.underlying s=ay (.struct fs)/\fs[f]? =ay fd/\P.info? fd.type=ay i/\i.size≠0/\fd.offset=off:=by
 unfold zLs at h;split at h<;>first|(cases h;done)|skip
 rename_i fs hfs;split at h<;>first|(cases h;done)|skip
 rename_i fd hfd;split at h<;>first|(cases h;done)|skip
 rename_i i hi;cases hb:cn i.size 0
 ·rw[hb]at h;simp only[cond_false,cj]at h;exact⟨fs,fd,i,hfs,hfd,hi,(λe=>by rw[e]at hb;cases hb),h⟩
 ·rw[hb]at h;cases h
def zLp {P:aa} {s f ft off:Nat} (h:zGb P s f=ay (ft,off)):∃fs fd,P.underlying s=ay (.struct fs)/\fs[f]? =ay fd/\fd.type=ft/\fd.offset=off:=by
 unfold zGb at h;split at h<;>first|(cases h;done)|skip
 rename_i fs hfs;split at h<;>first|(cases h;done)|skip
 rename_i fd hfd;simp only[cj,cz]at h;exact⟨fs,fd,hfs,hfd,h.1,h.2⟩
def zCg {P:aa} {t n e sz:Nat} (h:zIr P t=ay (n,e,sz)):∃i,P.underlying t=ay (.array n e)/\P.info? e=ay i/\i.size=sz:=by
 unfold zIr at h;split at h<;>first|(cases h;done)|skip
 rename_i n' e' ht;split at h<;>first|(cases h;done)|skip
 rename_i i hi;simp only[cj,cz]at h;obtain⟨rfl,rfl,rfl⟩:=h;exact⟨i,ht,hi,rfl⟩
def zQp {α:Type}:∀{l:List (Option α)} {L:List α},yFw l=ay L->l=L.map ay
 |[],L,h=>by simp only[yFw,cj]at h;subst h;rfl
 |none::l,L,h=>by cases h
 |some a::l,L,h=>by
  simp only[yFw]at h;split at h<;>first|(cases h;done)|skip
  rename_i r hr;simp only[cj]at h;subst h;rw[y1m,<- zQp hr]
def zJn {P:aa} (w:ac):∀{fs:List Field} {L:List (Nat×Nat)},
 (fs.map λfd=>match P.info? fd.type with|some i=>ay (fd.offset,i.size)|none=>az)=L.map ay->
 ((fs.mapM λf=>(do pure (f.offset,<- Go.sizeOf f.type):Sem (Nat×Nat))):Sem (List (Nat×Nat))).run P w= .ok L w
 |[],L,h=>by
  cases L with
  |nil=>rfl
  |cons a l=>cases h
 |fd::fs,L,h=>by
  cases L with
  |nil=>cases h
  |cons a l=>
   simp only[y1m,List.cons.injEq]at h;obtain⟨h1,h2⟩:=h;split at h1<;>first|(cases h1;done)|skip
   rename_i i hi;simp only[cj]at h1;subst h1;have ih:=zJn w h2;simp only[cu,bind,pure,run_bind,be,bc,run_sizeOf hi]at ih ⊢;rw[ih]
def kR {ρ:Env} {o:aj} {c:Call} {b:Builtin} (ho:o.op= .call c) (hc:c.callee= .builtin b):
 af (ev ρ) o=builtin b c.argTypes o.type (c.args.map λ| .const _=>bo|_=>bp) (c.args.map (ev ρ)):=by
 have hexec:af (ev ρ) o=(ar (ev ρ) c o.type).bind λd=>invoke d.target d.args:=by
  simp only[af,ho];rfl
 rw[hexec];unfold ar;rw[hc];rfl
end Cv
