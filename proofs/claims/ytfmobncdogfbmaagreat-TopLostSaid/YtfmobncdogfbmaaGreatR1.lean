/- Texts of ours. No condition. -/
import Derived.Deep.LoopGhost
import Derived.KernelRfl
import Derived.Lib.Strings
import Derived.Orders
import Derived.WalkKit
set_option linter.all false
open Go renaming Program->aa,Value->ab,World->ac,TypeId->ae,execOp->af,IntKind->ag,Oper->aj,eqGuard->ak,Addr->am,undef->ao,Operand->ap,MapEntry->aq,resolve->ar,callFunc->au,FuncId->av,wp_mono->aw,convert->ax
open Option renaming some->ay,none->az,map_eq_some_iff->ba
open Go.Sem renaming run->bc,bind->be,pure->bg
open Bool renaming true->bo,false->bu
open Go.Builtin renaming firstCells->bv,zeroCells->bz,append_->cd,len_->ce,copy_->cf
open Go.Region renaming ready->cg,binds->cm,wanted->co
open Go.Instr renaming sliceBounds->cp,lookup->cq,typeAssert->cr
open Option.some renaming injEq->ct,inj->cu
open Nat renaming beq->cw,blt->cx,ble->cy
open Int renaming toNat->cz
open BitVec renaming ofInt->da
open List renaming range->db,mapM_cons->dc
open Array renaming replicate->dd,ext'->de
open Go.IntKind renaming i64->df,wrap->dh,signed->di
open Prod.mk renaming injEq->dj
open True renaming intro->Y_
def X_ {P:Prop} (h:P:=by omega):P:=h
def V_ {P:Prop} (h:P:=by dsimp only;omega):P:=h
@[reducible] def i4:Type:=List UInt8
@[reducible] def Q_.{u} (α:Type u):Type u:=List (List α)
@[reducible] def i6.{u,v} {α:Type u} {β:Type v}:α->List β:=λ_=>[]
def i7 {P:Prop} (h:P:=by first|exact rfl|exact Y_):P:=h
def i9 {P Q:Prop} (h:P) (k:P->Q:=by intro h;simpa using h):Q:=k h
def eg:=@if_neg
def fh:=@if_pos
def ix:=@List.length_append
def ib:=@List.length_map
def jk:=@List.getElem?_eq_some_iff
def iG:=@List.length_cons
def ji:=@Nat.eq_of_beq_eq_true
def jj:=@List.mem_cons_of_mem
def iY:=@List.mem_cons_self
def jd:=@List.append_assoc
def mz:=@List.getD_eq_getElem?_getD
def kx:=@List.mem_of_getElem?
def jh:=@List.map_append
def ju:=@decide_eq_false
def ng:=@List.take_of_length_le
def jt:=@decide_eq_true
def jg:=@List.map_cons
def j':=@List.mem_cons
def lu:=@Bool.and_eq_true
def mu:=@List.perm_middle
def jx:=@Nat.le_refl
def nr:=@List.length_take
def ov:=@Int.toNat_natCast
def oS:=@Bool.false_eq_true
def oH:=@List.mem_append
def oQ:=@List.append_nil
def ml:=@Nat.zero_le
def nn:=@List.mem_map
def qf:=@List.take_add_one
def pj:=@List.length_drop
def nt:=@Nat.zero_add
def vl:=@List.getElem?_eq_getElem
def ye:=@List.eq_nil_of_length_eq_zero
def ra:=@List.getElem?_map
def sv:=@List.mem_map_of_mem
def qj:=@List.length_set
def uv:=@List.getElem?_eq_none
def zi:=@List.take_append_of_le_length
def su:=@of_decide_eq_true
def tq:=@List.mem_singleton
def uk:=@List.map_congr_left
def qi:=@List.sum_cons
def vj:=@List.take_succ_cons
def ua:=@decide_eq_true_eq
def xv:=@Nat.mul_le_mul_right
def uu:=@List.cons_append
def vw:=@List.flatMap_cons
def uj:=@List.length_nil
def za:=@List.mem_append_left
def vi:=@List.mem_filter
def Af:=@List.mem_append_right
def Ck:=@List.getElem?_append_right
def Bk:=@List.getElem?_cons_succ
def CO:=@Array.getD_eq_getD_getElem?
def zh:=@List.flatMap_append
def wz:=@Option.map_some
def wy:=@List.nil_append
def Bj:=@List.getElem?_toArray
def Bi:=@List.take_append_drop
def Bh:=@List.length_singleton
def zg:=@List.pairwise_cons
def CN:=@List.drop_eq_getElem_cons
def tz:=@Nat.le_trans
def BC:=@List.perm_append_comm
def BB:=@List.mem_iff_getElem?
def CM:=@List.getElem?_cons_zero
def AD:=@Option.toList_some
def vh:=@Nat.lt_or_ge
def Cj:=@Nat.le_of_ble_eq_true
def zf:=@List.take_length
def yz:=@List.nodup_cons
def Ek:=@List.getElem?_append_left
def AB:=@List.nodup_append
def Ae:=@Option.getD_some
def wx:=@List.map_map
def Bg:=@List.flatten_cons
def BA:=@List.getElem?_drop
def HN:=@List.drop_append_of_le_length
def Bf:=@List.mem_flatMap
def Ci:=@List.getElem?_set
def Be:=@List.foldl_cons
def CL:=@List.filter_append
def AA:=@Bool.true_and
def yy:=@Int.le_refl
def Ad:=@Nat.succ_mul
def Dv:=@Bool.not_eq_true'
def Du:=@List.ext_getElem?
def Mj:=@List.findIdx?_eq_some_iff_getElem
def CK:=@Bool.eq_iff_iff
def Dt:=@List.filter_cons
def HM:=@Array.getElem?_eq_none
def yx:=@Nat.blt_eq
def Ac:=@Nat.add_mul
def FN:=@List.getElem?_modify
def CJ:=@List.mem_range
def HL:=@List.length_replicate
def HK:=@List.length_filter_le
def Ej:=@List.all_eq_true
def Bz:=@List.map_nil
def HJ:=@Bool.or_eq_false_iff
def OI:=@List.set_eq_take_append_cons_drop
def IK:=@List.drop_eq_nil_of_le
def IJ:=@List.filter_eq_nil_iff
def Ds:=@List.drop_drop
def Dr:=@Bool.false_and
def By:=@Nat.le_succ
def Dq:=@Nat.add_assoc
def Ei:=@List.drop_zero
def FM:=@List.not_mem_nil
def II:=@List.filter_eq_self
def HI:=@Nat.le_succ_of_le
def Eh:=@List.map_take
def EX:=@List.take_zero
def FL:=@Nat.min_eq_left
def IH:=@List.getElem?_take
def Kg:=@List.mem_of_mem_drop
def XZ:=@Array.getElem?_setIfInBounds_self_of_lt
def Eg:=@List.set_set
def Ef:=@Int.mul_comm
def IG:=@List.foldl_append
def Kf:=@Array.length_toList
def Ke:=@List.replicate_succ
def OH:=@List.findIdx?_eq_none_iff
def Kd:=@List.prefix_append
def Kc:=@List.findIdx?_cons
def FK:=@List.map_drop
def RW:=@Array.getElem?_setIfInBounds
def Mi:=@List.getElem?_of_mem
def Kb:=@List.size_toArray
def IF:=@List.range_succ
def Mh:=@List.getElem?_range
def FJ:=@Nat.add_zero
def FI:=@Nat.add_comm
def RV:=@List.perm_append_singleton
def Ka:=@List.prefix_refl
def Mg:=@of_decide_eq_false
def RU:=@Array.getElem?_eq_getElem
def RT:=@List.getElem?_zip_eq_some
def XY:=@Array.getElem?_setIfInBounds_ne
def OG:=@List.mem_of_mem_take
def J':=@List.sum_append
def Mf:=@List.any_eq_false
def XX:=@Int.mul_le_mul_of_nonneg_left
def RS:=@List.filter_cons_of_pos
def RR:=@List.filter_cons_of_neg
def RQ:=@List.getElem?_replicate
def OF:=@List.flatten_append
def OE:=@List.length_flatMap
def J9:=@Bool.not_false
def J8:=@List.take_left
def Me:=@List.drop_append
def J7:=@Bool.and_false
def Md:=@List.flatMap_nil
def Mc:=@Nat.lt_succ_self
def OD:=@List.mem_filterMap
def OC:=@List.set_cons_zero
def OB:=@List.set_cons_succ
def IE:=@Int.pow_succ
def OA:=@List.map_replicate
def Mb:=@Option.map_none
def Ma:=@Bool.or_eq_true
def RP:=@List.singleton_append
def RO:=@List.modify_succ_cons
def L9:=@List.find?_cons
def XW:=@Int.add_mul_emod_self_left
def Oz:=@List.mem_range'_1
def XV:=@List.getElem?_eq_none_iff
def RM:=@Array.toArray_toList
def J6:=@Nat.sub_self
def XU:=@Array.getElem?_replicate
def Oy:=@List.any_eq_true
def XT:=@Option.isSome_iff_exists
def XS:=@List.eq_of_mem_replicate
def RL:=@List.filter_sublist
def xRq:=@List.takeWhile_append_dropWhile
def L8:=@Bool.false_or
def RK:=@Array.ext_getElem?
def Ox:=@Int.emod_nonneg
def RJ:=@Int.emod_lt_of_pos
def ID:=@beq_iff_eq
def Ow:=@List.drop_left
def Ov:=@Int.mul_nonneg
def Ou:=@List.nodup_nil
namespace Cv
open Go
@[reducible] def Env:=Nat->ab
def put (ρ:Env):Option Nat->ab->Env
 |none,_=>ρ
 |some d,v=>λi=>bif cw i d then v else ρ i
def ev (ρ:Env):ap->ab
 | .tmp t=>ρ t
 | .const v=>v
 | .global g=> .pointer (ay ⟨g,0,az⟩)
 | .func f=> .func (.func f) #[] #[]
def gM {α:Type} (P:aa):Sem α->Option α
 | .pure a=>ay a
 | .program k=>gM P (k P)
 | .mark _ k=>gM P k
 |_=>az
def vU {α:Type} {P:aa}:∀{s:Sem α} {a:α},gM P s=ay a->∀w,s.run P w= .ok a w:=by
 intro s
 induction s with
 |pure a=>intro b h w;simp only[gM,ct]at h;subst h;rfl
 |program k ih=>intro b h w;simp only[gM]at h;exact ih _ h w
 |mark m k ih=>intro b h w;simp only[gM]at h;exact ih h w
 |_=>intro b h w;simp[gM]at h
def run_bind {α β:Type} (P:aa) (s:Sem α) (f:α->Sem β) (w:ac):(s.bind f).run P w=match s.run P w with| .ok a w'=>(f a).run P w'| .halt h w'=> .halt h w':=by
 induction s generalizing w with
 |pure a=>rfl
 |halt h=>rfl
 |load m a k ih=>simp only[be,bc];split<;>first|exact ih _ _|(split<;>first|exact ih _ _|rfl)
 |store m a v k ih=>
  cases v<;>simp only[be,bc]<;>first|rfl|(split<;>first|(split<;>first|exact ih _|rfl))
 |new o k ih=>exact ih _ _
 |shape r k ih=>exact ih _ _
 |freeze a n k ih=>exact ih _
 |frozen a k ih=>exact ih _ _
 |getObj r k ih=>simp only[be,bc];split<;>first|rfl|exact ih _ _
 |setObj r o k ih=>simp only[be,bc];split<;>first|rfl|exact ih _
 |choose q k ih=>simp only[be,bc];split<;>exact ih _ _
 |sys c k ih=>exact ih _ _
 |program k ih=>exact ih _ _
 |mark m k ih=>exact ih _
inductive Sh where
 |int (k:ag)|bool|str|ptr|sl|map|any
def yQl:ab->Sh
 | .int k _=> .int k
 | .bool _=> .bool
 | .string _=> .str
 | .pointer _=> .ptr
 | .slice _ _ _=> .sl
 | .map _=> .map
 |_=> .any
def DE:Sh->(ab->Prop)->Prop
 | .int k,K=>∃n:Int,K (.int k n)
 | .bool,K=>∃b:Bool,K (.bool b)
 | .str,K=>∃s:ByteArray,K (.string s)
 | .ptr,K=>∃a:Option am,K (.pointer a)
 | .sl,K=>∃(a:Option am) (n c:Nat),K (.slice a n c)
 | .map,K=>∃r:Option Nat,K (.map r)
 | .any,K=>∃v:ab,K v
def vA {s:Sh} {K:ab->Prop} (h:DE s K):∃v,K v:=by
 cases s<;>simp only[DE]at h<;>first|(obtain⟨n,h⟩:=h;exact⟨_,h⟩)|(obtain⟨a,n,c,h⟩:=h;exact⟨_,h⟩)
def exL:List ab->(List ab->Prop)->Prop
 |[],K=>K []
 |z::zs,K=>DE (yQl z) λv=>exL zs λvs=>K (v::vs)
def yFr:∀{zs:List ab} {K:List ab->Prop},exL zs K->∃vs,K vs
 |[],_,h=>⟨_,h⟩
 |_::_,_,h=>let⟨_,h1⟩:=vA h;let⟨_,h2⟩:=yFr h1;⟨_,h2⟩
structure Raw where
 i:Nat->Int
 b:Nat->Bool
 s:Nat->ByteArray
 p:Nat->Option am
 a:Nat->Option am
 n:Nat->Nat
 k:Nat->Nat
 m:Nat->Option Nat
 v:Nat->ab
def Raw.cell (r:Raw) (j:Nat):ab->ab
 | .int k _=> .int k (r.i j)
 | .bool _=> .bool (r.b j)
 | .string _=> .string (r.s j)
 | .pointer _=> .pointer (r.p j)
 | .slice _ _ _=> .slice (r.a j) (r.n j) (r.k j)
 | .map _=> .map (r.m j)
 |_=>r.v j
def xFw (r:Raw):List ab->Nat->List ab
 |[],_=>[]
 |z::zs,j=>r.cell j z::xFw r zs (j+1)
def xHz (z:ab) (r:Raw):ab:=
 match z with
 | .agg cs=> .agg (xFw r cs.toList 0).toArray
 |z=>z
def exV:ab->(ab->Prop)->Prop
 | .agg cs,K=>bif cy cs.size 9 then exL cs.toList λvs=>K (.agg vs.toArray)else ∃r:Raw,K (xHz (.agg cs) r)
 |z,K=>DE (yQl z) K
def v7 {z:ab} {K:ab->Prop} (h:exV z K):∃v,K v:=by
 cases z<;>simp only[exV]at h<;>first
  |exact vA h
  |(revert h;cases cy _ 9<;>intro h
    ·obtain⟨r,h⟩:=h;exact⟨_,h⟩
    ·obtain⟨_,h⟩:=yFr h;exact⟨_,h⟩)
def y7a (P:aa) (t:ae):ab:=
 match P.info? t with
 |some i=>i.zero.getD ao
 |none=>ao
def Fk (P:aa) (t:ae) (K:ab->Prop):Prop:=exV (y7a P t) K
def y9y (P:aa):List ae->(List ab->Prop)->Prop
 |[],K=>K []
 |t::ts,K=>Fk P t λv=>y9y P ts λvs=>K (v::vs)
def z3j {P:aa}:∀{ts:List ae} {K:List ab->Prop},y9y P ts K->∃vs,K vs
 |[],_,h=>⟨_,h⟩
 |_::_,_,h=>let⟨_,h1⟩:=v7 h;let⟨_,h2⟩:=z3j h1;⟨_,h2⟩
def SS (P:aa) (t:ae) (K:ab->Prop):Prop:=
 match P.underlying t with
 |some (.tuple ts)=>y9y P ts.toList λvs=>K (.tuple vs.toArray)
 |_=>Fk P t K
def yFw {P:aa} {t:ae} {K:ab->Prop} (h:SS P t K):∃v,K v:=by
 unfold SS at h;split at h
 ·obtain⟨_,h⟩:=z3j h;exact⟨_,h⟩
 ·exact v7 h
def g8 (P:aa) (t:ae):Option Nat:=
 match P.underlying t with
 |some (.slice e)=>(P.info? e).map λ(x:TypeInfo)=>x.size
 |_=>az
def mE (P:aa) (t:ae):Option (Nat×Nat):=
 match P.underlying t with
 |some (.array n e)=>(P.info? e).map λ(x:TypeInfo)=>(n,x.size)
 |_=>az
def JW (p:Option am) (K:am->Prop):Prop:=
 match p with
 |some a=>K a
 |none=>False
def y9l (p:Option am) (n:Nat) (i:Int) (K:am->Prop):Prop:=
 match p with
 |some a=>(0<=i/\i<n)/\K a
 |none=>False
def xBg (s:ByteArray) (i:Int) (K:UInt8->Prop):Prop:=∃b:UInt8,(0<=i/\s[i.toNat]?=ay b)/\K b
def uc (p:Option am) (n c:Nat) (lo hi:Option Int) (sz:Nat) (K:Option am->Nat->Nat->Prop):Prop:=
 match lo,hi with
 |none,az=>(n<=c)/\K p n c
 |some l,az=>(0<=l/\l<=n/\n<=c)/\K (if c=l.toNat then p else p.map (·.add (l.toNat*sz))) (n-l.toNat) (c-l.toNat)
 |none,ay h=>(0<=h/\h<=c)/\K p h.toNat c
 |some l,ay h=>(0<=l/\l<=h/\h<=c)/\K (if c=l.toNat then p else p.map (·.add (l.toNat*sz))) (h.toNat-l.toNat) (c-l.toNat)
def y7i (p:Option am) (c:Nat) (l h m:Int) (sz:Nat) (K:Option am->Nat->Nat->Prop):Prop:=
 (0<=l/\l<=h/\h<=m/\m<=c)/\K (if m.toNat=l.toNat then p else p.map (·.add (l.toNat*sz))) (h.toNat-l.toNat) (m.toNat-l.toNat)
def y3m (s:ByteArray) (lo hi:Option Int) (K:ByteArray->Prop):Prop:=
 match lo,hi with
 |none,az=>K s
 |some l,az=>(0<=l/\l<=s.size)/\K (s.extract l.toNat s.size)
 |none,ay h=>(0<=h/\h<=s.size)/\K (s.extract 0 h.toNat)
 |some l,ay h=>(0<=l/\l<=h/\h<=s.size)/\K (s.extract l.toNat h.toNat)
def DJ (ρ:Env):Option ap->Option (Option Int)
 |none=>ay az
 |some x=>match ev ρ x with
  | .int _ n=>ay (ay n)
  |_=>az
def EO (l h:Option (Option Int)) (K:Option Int->Option Int->Prop):Prop:=
 match l,h with
 |some l,ay h=>K l h
 |_,_=>False
def cZ (P:aa) (t:ae) (x:ab):Option Bool:=
 match P.underlying t,x with
 |some (.pointer _),.pointer p=>ay p.isNone
 |some (.slice _),.slice p _ _=>ay p.isNone
 |some (.map _ _),.map r=>ay r.isNone
 |_,_=>az
def xKv:ab->Bool
 | .pointer az=>bo
 | .slice az _ _=>bo
 | .map az=>bo
 |_=>bu
def Xf:ab->Bool
 | .pointer az=>bo
 |_=>bu
def LV:ab->Bool
 | .slice az _ _=>bo
 |_=>bu
def Xr:ab->Bool
 | .map az=>bo
 |_=>bu
def NJ (P:aa) (s:Sem Next) (K:ab->Prop):Prop:=
 match gM P s with
 |some (.value v)=>K v
 |_=>False
def y5f (P:aa) (neg:Bool) (t:ae) (x y:ab) (K:Bool->Prop):Prop:=
 ∃b:Bool,gM P (Op.equal t x y)=ay b/\gM P (ak (if neg then .neq else .eql) t (.tmp 0) (.tmp 0) x y)=ay ()/\
  (match y with| .agg _=>bo|_=>bu)=bo/\K (if neg then !b else b)
def L7 (o:Option Bool) (K:Bool->Prop):Prop:=
 match o with
 |some r=>K r
 |none=>False
def tK {o:Option Bool} {K:Bool->Prop} (h:L7 o K):∃r,o=ay r/\K r:=by
 cases o with
 |none=>exact h.elim
 |some r=>exact⟨r,rfl,h⟩
def xGt (k k':ag) (b:Int) (A:Prop):Prop:=k=k'/\b≠0/\A
def shN (b:Int) (A:Prop):Prop:=0<=b/\A
def xJm (a b:ByteArray) (A:Prop):Prop:=(((a.size+b.size:Nat):Int)<=df.max)/\A
def SU (k k':ag) (A:Prop):Prop:=
 match k,k' with
 | .i8,.i8=>A
 | .i16,.i16=>A
 | .i32,.i32=>A
 | .i64,.i64=>A
 | .u8,.u8=>A
 | .u16,.u16=>A
 | .u32,.u32=>A
 | .u64,.u64=>A
 |_,_=>False
def U4 {k k':ag} {A:Prop} (h:SU k k' A):k=k'/\A:=by
 cases k<;>cases k'<;>first|exact⟨rfl,h⟩|exact h.elim
def JU (k:ag) (a b:Int):Int:=k.wrap (a*2 ^ (min b.toNat k.bits))
def aO (k:ag) (a b:Int):Int:=a.fdiv (2 ^ (min b.toNat k.bits))
def CH (k:ag) (a b:Int):Int:=k.wrap ((da k.bits a &&& da k.bits b).toNat:Int)
def HU (k:ag) (a b:Int):Int:=k.wrap ((da k.bits a|||BitVec.ofInt k.bits b).toNat:Int)
def CB (k:ag) (a b:Int):Int:=k.wrap ((da k.bits a ^^^ da k.bits b).toNat:Int)
def P1 (k:ag) (a b:Int):Int:=k.wrap ((da k.bits a &&& ~~~ da k.bits b).toNat:Int)
def bX (P:aa) (o:aj) (ρ:Env) (K:ab->Prop):Prop:=
 match o.op with
 | .move x=>K (ev ρ x)
 | .assign x=>K (ev ρ x)
 | .pick c a b=>
   match ev ρ c with
   | .bool t=>K (bif t then ev ρ a else ev ρ b)
   |_=>False
 | .nilCheck x=>
   match ev ρ x with
   | .pointer p=>JW p λa=>K (.pointer (ay a))
   |_=>NJ P (af (ev ρ) o) K
 | .indexAddr t x i=>
   match ev ρ x,ev ρ i with
   | .slice p n _,.int _ i=>match g8 P t with
     |some sz=>y9l p n i λa=>K (.pointer (ay (a.add (i.toNat*sz))))
     |none=>False
   | .pointer p,.int _ i=>match mE P t with
     |some (len,sz)=>y9l p len i λa=>K (.pointer (ay (a.add (i.toNat*sz))))
     |none=>False
   |_,_=>False
 | .index t x i=>
   match ev ρ x,ev ρ i with
   | .string s,.int _ i=>match P.underlying t with
     |some .string=>xBg s i λb=>K (.int .u8 b.toNat)
     |_=>False
   |x,j=>match i with
    | .const _=>NJ P (af (ev ρ) o) K
    |_=>Fk P o.type λv=>gM P (Instr.index t x j)=ay v/\K v
 | .panic _=>False
 | .typeAssert x xT asserted ok=>
   match ok with
   |true=>Fk P asserted λv=>DE .bool λb=>gM P (cr (ev ρ x) xT asserted bo)=ay (.tuple #[v,b])/\K (.tuple #[v,b])
   |false=>Fk P asserted λv=>gM P (cr (ev ρ x) xT asserted bu)=ay v/\K v
 | .slice t x lo hi mx=>
   match ev ρ x,mx with
   | .slice p _ c,ay m=>match g8 P t,DJ ρ lo,DJ ρ hi,ev ρ m with
     |some sz,ay (ay l),ay (ay h),.int _ m=>y7i p c l h m sz λp n c=>K (.slice p n c)
     |_,_,_,_=>False
   | .slice p n c,az=>match g8 P t with
     |some sz=>EO (DJ ρ lo) (DJ ρ hi) λl h=>uc p n c l h sz λp n c=>K (.slice p n c)
     |none=>False
   | .string s,az=>match P.underlying t with
     |some .string=>EO (DJ ρ lo) (DJ ρ hi) λl h=>y3m s l h λs=>K (.string s)
     |_=>False
   | .pointer p,az=>match mE P t with
     |some (n,sz)=>JW p λa=>EO (DJ ρ lo) (DJ ρ hi) λl h=>uc (ay a) n n l h sz λp n c=>K (.slice p n c)
     |none=>False
   |_,_=>False
 | .binOp op t x y _=>
   match op,ev ρ x,ev ρ y with
   | .quo,.int k a,.int k' b=>xGt k k' b (K (.int k (k.wrap (a.tdiv b))))
   | .rem,.int k a,.int k' b=>xGt k k' b (K (.int k (a.tmod b)))
   | .shl,.int k a,.int _ b=>shN b (K (.int k (JU k a b)))
   | .shr,.int k a,.int _ b=>shN b (K (.int k (aO k a b)))
   | .and,.int k a,.int k' b=>SU k k' (K (.int k (CH k a b)))
   | .or,.int k a,.int k' b=>SU k k' (K (.int k (HU k a b)))
   | .xor,.int k a,.int k' b=>SU k k' (K (.int k (CB k a b)))
   | .andNot,.int k a,.int k' b=>SU k k' (K (.int k (P1 k a b)))
   | .add,.string a,.string b=>xJm a b (K (.string (a++b)))
   | .eql,.pointer p,b=>bif Xf b then(L7 (cZ P t (.pointer p)) λr=>K (.bool r))else False
   | .neq,.pointer p,b=>bif Xf b then(L7 (cZ P t (.pointer p)) λr=>K (.bool !r))else False
   | .eql,.slice p n c,b=>bif LV b then(L7 (cZ P t (.slice p n c)) λr=>K (.bool r))else False
   | .neq,.slice p n c,b=>bif LV b then(L7 (cZ P t (.slice p n c)) λr=>K (.bool !r))else False
   | .eql,.map r,b=>bif Xr b then(L7 (cZ P t (.map r)) λr=>K (.bool r))else False
   | .neq,.map r,b=>bif Xr b then(L7 (cZ P t (.map r)) λr=>K (.bool !r))else False
   | .eql,.agg a,b=>y5f P bu t (.agg a) b λr=>K (.bool r)
   | .neq,.agg a,b=>y5f P bo t (.agg a) b λr=>K (.bool r)
   |_,_,_=>NJ P (af (ev ρ) o) K
 |_=>NJ P (af (ev ρ) o) K
def FB (P:aa) (s:Sem Next) (v:ab):Prop:=∀w,s.run P w=.ok (.value v) w
def aE {P:aa} {s:Sem Next} {K:ab->Prop} (h:NJ P s K):∃v,K v/\FB P s v:=by
 unfold NJ at h;split at h
 ·rename_i v hv;exact⟨v,h,vU hv⟩
 ·exact h.elim
def Addr.add_zero (a:am):a.add 0=a:=by simp[Addr.add]
def eK (p:Option am):p.map (·.add 0)=p:=by cases p<;>simp[Addr.add_zero]
def yF {P:aa} {s:Sem ab} {v:ab} (h:∀w,s.run P w= .ok v w):FB P (do pure (Next.value (<- s))) v:=by
 intro w;show(s.bind λa=> .pure (Next.value a)).run P w=_;rw[run_bind,h w];rfl
def zCp {P:aa} {t:ae} {sz:Nat} (h:g8 P t=ay sz):∃e i,P.underlying t=ay (.slice e)/\P.info? e=ay i/\i.size=sz:=by
 unfold g8 at h;split at h
 ·rename_i e he;cases hi:P.info? e with
  |none=>simp[hi]at h
  |some i=>simp[hi]at h;exact⟨e,i,he,hi,h⟩
 ·cases h
def zLb {P:aa} {t:ae} {n sz:Nat} (h:mE P t=ay (n,sz)):∃e i,P.underlying t=ay (.array n e)/\P.info? e=ay i/\i.size=sz:=by
 unfold mE at h;split at h
 ·rename_i m e he;cases hi:P.info? e with
  |none=>simp[hi]at h
  |some i=>simp[hi]at h;obtain⟨rfl,h⟩:=h;exact⟨e,i,he,hi,h⟩
 ·cases h
def run_underlying {P:aa} {t:ae} {d:TypeDesc} (h:P.underlying t=ay d) (w:ac):(underlying t).run P w= .ok d w:=by
 show ((Sem.program Sem.pure).bind λp => match p.underlying t with | some d => Sem.pure d | none => stuck "no such type").run P w = _;simp only[be,bc,h]
def run_sizeOf {P:aa} {t:ae} {i:TypeInfo} (h:P.info? t=ay i) (w:ac):(Go.sizeOf t).run P w= .ok i.size w:=by
 have IS:(typeInfo t).run P w= .ok i w:=by
  unfold typeInfo;show((Sem.program bg).bind _).run P w=_;simp only[be,bc,h];rfl
 show((typeInfo t).bind λi=>bg i.size).run P w=_;rw[run_bind,IS];rfl
def wP {P:aa} {t:ae} {sz n c:Nat} {a:am} {k:ag} {i:Int} (h:g8 P t=ay sz) (hi:0<=i/\i<n) (w:ac):
 (Instr.indexAt t (.slice (ay a) n c) (.int k i)).run P w= .ok (.pointer (ay (a.add (i.toNat*sz)))) w:=by
 obtain⟨e,ti,h1,h2,rfl⟩:=zCp h;simp only[Instr.indexAt,asIntOf,bind,pure,run_bind,be,bc,run_underlying h1,fh hi,run_sizeOf h2]
def dY {P:aa} {t:ae} {sz n:Nat} {a:am} {k:ag} {i:Int} (h:mE P t=ay (n,sz)) (hi:0<=i/\i<n) (w:ac):
 (Instr.indexAt t (.pointer (ay a)) (.int k i)).run P w= .ok (.pointer (ay (a.add (i.toNat*sz)))) w:=by
 obtain⟨e,ti,h1,h2,rfl⟩:=zLb h;simp only[Instr.indexAt,asIntOf,Instr.sureAddr,bind,pure,run_bind,be,bc,run_underlying h1,fh hi,run_sizeOf h2]
def jQ {P:aa} {k:ag} {i:Int} {y:Nat} {code:BoundsCode} (h:0<=i/\i<=y) (w:ac):(Instr.sliceBound (.int k i) y code).run P w= .ok i.toNat w:=by
 simp only[Instr.sliceBound,asIntOf,bind,pure,be,bc,fh h]
def VT {ρ:Env} {x:Option ap} {r:Option Int} (h:DJ ρ x=ay r):(x=az/\r=az)\/∃y k n,x=ay y/\ev ρ y= .int k n/\r=ay n:=by
 unfold DJ at h;split at h
 ·left;exact⟨rfl,by simpa using h.symm⟩
 ·rename_i y;right;split at h
  ·rename_i k n hv;exact⟨y,k,n,rfl,hv,by simpa using h.symm⟩
  ·cases h
def sP {l h:Option (Option Int)} {K:Option Int->Option Int->Prop} (hh:EO l h K):∃a b,l=ay a/\h=ay b/\K a b:=by
 unfold EO at hh;split at hh
 ·rename_i a b;exact⟨a,b,rfl,rfl,hh⟩
 ·exact hh.elim
def zFt {P:aa} {ρ:Env} {lo hi:Option ap} {l h:Option Int} (isSlice:Bool) {len cap:Nat} (h1:DJ ρ lo=ay l) (h2:DJ ρ hi=ay h)
 (hlen:h=az->len<=cap) (hh:∀x,h=ay x->0<=x/\x<=cap) (hl:∀x,l=ay x->0<=x/\x<=((h.map cz).getD len:Nat)) (w:ac):
 (cp isSlice len cap (lo.map (ev ρ)) (hi.map (ev ρ)) az).run P w= .ok ((l.map cz).getD 0,(h.map cz).getD len,cap) w:=by
 rcases VT h1 with⟨rfl,rfl⟩|⟨x,k,n,rfl,hx,rfl⟩<;>rcases VT h2 with⟨rfl,rfl⟩|⟨y,k',m,rfl,hy,rfl⟩
 ·simp only[cp,Mb,bind,pure,be,bc,run_bind,Option.getD_none]
 ·have:=hh m rfl;simp only[cp,Mb,wz,hy,bind,pure,be,bc,run_bind,Option.getD_none,jQ this,Ae]
 ·have h3:=hl n rfl;simp only[Mb,Option.getD_none]at h3;simp only[cp,Mb,wz,hx,bind,pure,be,bc,run_bind,Option.getD_none,jQ h3,Ae]
 ·have h3:=hl n rfl;have h4:=hh m rfl;simp only[wz,Ae]at h3;simp only[cp,wz,hx,hy,bind,pure,be,bc,run_bind,jQ h3,jQ h4,Ae]
def yEw {p:Option am} {n c:Nat} {l h:Option Int} {sz:Nat} {K:Option am->Nat->Nat->Prop} (hk:uc p n c l h sz K):
 (h=az->n<=c)/\(∀x,h=ay x->0<=x/\x<=c)/\(∀x,l=ay x->0<=x/\x<=((h.map cz).getD n:Nat))/\
 K (if c=(l.map cz).getD 0 then p else p.map (·.add ((l.map cz).getD 0*sz))) ((h.map cz).getD n-(l.map cz).getD 0) (c-(l.map cz).getD 0):=by
 unfold uc at hk;split at hk
 ·refine⟨λ_=>hk.1,by simp,by simp,?_⟩;simpa[eK]using hk.2
 ·refine⟨λ_=>hk.1.2.2,by simp,?_,by simpa using hk.2⟩;intro x hx;cases hx;simp;omega
 ·refine⟨by simp,?_,by simp,by simpa[eK]using hk.2⟩;intro x hx;cases hx;omega
 ·refine⟨by simp,?_,?_,by simpa using hk.2⟩
  ·intro x hx;cases hx;omega
  ·intro x hx;cases hx;simp;omega
def yAp {P:aa} {ρ:Env} {t:ae} {x:ap} {lo hi:Option ap} {o:aj} {K:ab->Prop} (ho:o.op= .slice t x lo hi az)
 (h:bX P o ρ K):∃v,K v/\FB P (af (ev ρ) o) v:=by
 simp only[bX,ho]at h;split at h
 ·rename_i heq;cases heq
 ·rename_i p n c hx _;split at h
  ·rename_i sz pn;obtain⟨l,u,h1,h2,h3⟩:=sP h;obtain⟨q1,q2,q3,q4⟩:=yEw h3;obtain⟨e,ti,e1,e2,rfl⟩:=zCp pn;refine⟨_,q4,?_⟩;simp only[af,ho];refine yF λw=> ?_
   simp only[Instr.sliceAt,Instr.slice,hx,bind,pure,be,bc,run_bind,run_underlying e1,Mb,zFt bo h1 h2 q1 q2 q3,run_sizeOf e2]
  ·exact h.elim
 ·rename_i s hx _;split at h
  ·rename_i ht;obtain⟨l,u,h1,h2,h3⟩:=sP h;have q:(∀x,u=ay x->0<=x/\x<=s.size)/\(∀x,l=ay x->0<=x/\x<=((u.map cz).getD s.size:Nat))/\K (.string (s.extract ((l.map cz).getD 0) ((u.map cz).getD s.size))):=by
    unfold y3m at h3;split at h3
    ·refine⟨by simp,by simp,?_⟩;have:s.extract 0 s.size=s:=by simp
     simpa[this]using h3
    ·refine⟨by simp,?_,by simpa using h3.2⟩;intro x hx;cases hx;simp;omega
    ·refine⟨?_,by simp,by simpa using h3.2⟩;intro x hx;cases hx;omega
    ·refine⟨?_,?_,by simpa using h3.2⟩
     ·intro x hx;cases hx;omega
     ·intro x hx;cases hx;simp;omega
   obtain⟨q2,q3,q4⟩:=q;refine⟨_,q4,?_⟩;simp only[af,ho];refine yF λw=> ?_
   simp only[Instr.sliceAt,Instr.slice,hx,bind,pure,be,bc,run_bind,run_underlying ht,Mb,Option.isSome_none,oS,if_false,zFt bu h1 h2 (λ_=>jx _) q2 q3]
  ·exact h.elim
 ·rename_i p hx _;split at h
  ·rename_i n sz pn;unfold JW at h;split at h
   ·rename_i a;obtain⟨l,u,h1,h2,h3⟩:=sP h;obtain⟨q1,q2,q3,q4⟩:=yEw h3;obtain⟨e,ti,e1,e2,rfl⟩:=zLb pn;refine⟨_,q4,?_⟩;simp only[af,ho];refine yF λw=> ?_
    simp only[Instr.sliceAt,Instr.sureAddr,hx,bind,pure,be,bc,run_bind,run_underlying e1,Mb,zFt bu h1 h2 q1 q2 q3,run_sizeOf e2];split<;>simp
   ·exact h.elim
  ·exact h.elim
 ·exact h.elim
def nG (t:ae) (x y:ab):Op.equal t x y=Op.equalIn (9999+1) t x y:=rfl
def aA {P:aa} {t:ae} {p:Option am} {r:Bool} (h:cZ P t (.pointer p)=ay r) (w:ac):(Op.equal t (.pointer p) (.pointer az)).run P w= .ok r w:=by
 have hu:r=p.isNone/\∃d,P.underlying t=ay d/\(match d with| .pointer _=>True|_=>False):=by
  unfold cZ at h;cases hd:P.underlying t with
  |none=>simp[hd]at h
  |some d=>cases d<;>simp[hd]at h;exact⟨h.symm,_,rfl,Y_⟩
 obtain⟨rfl,d,hd,hm⟩:=hu;cases d<;>first|exact hm.elim|skip
 rw[nG];generalize 9999=d;unfold Op.equalIn;simp only[bind,pure,run_bind,run_underlying hd];cases p<;>rfl
def fM {P:aa} {t:ae} {p:Option am} {n c m k:Nat} {r:Bool} (h:cZ P t (.slice p n c)=ay r) (w:ac):(Op.equal t (.slice p n c) (.slice az m k)).run P w= .ok r w:=by
 have hu:r=p.isNone/\∃d,P.underlying t=ay d/\(match d with| .slice _=>True|_=>False):=by
  unfold cZ at h;cases hd:P.underlying t with
  |none=>simp[hd]at h
  |some d=>cases d<;>simp[hd]at h;exact⟨h.symm,_,rfl,Y_⟩
 obtain⟨rfl,d,hd,hm⟩:=hu;cases d<;>first|exact hm.elim|skip
 rw[nG];generalize 9999=d;unfold Op.equalIn;simp only[bind,pure,run_bind,run_underlying hd];cases p<;>rfl
def aH {P:aa} {t:ae} {p:Option Nat} {r:Bool} (h:cZ P t (.map p)=ay r) (w:ac):(Op.equal t (.map p) (.map az)).run P w= .ok r w:=by
 have hu:r=p.isNone/\∃d,P.underlying t=ay d/\(match d with| .map _ _=>True|_=>False):=by
  unfold cZ at h;cases hd:P.underlying t with
  |none=>simp[hd]at h
  |some d=>cases d<;>simp[hd]at h;exact⟨h.symm,_,rfl,Y_⟩
 obtain⟨rfl,d,hd,hm⟩:=hu;cases d<;>first|exact hm.elim|skip
 rw[nG];generalize 9999=d;unfold Op.equalIn;simp only[bind,pure,run_bind,run_underlying hd];cases p<;>rfl
def rY {p:Option am} {K:am->Prop} (h:JW p K):∃a,p=ay a/\K a:=by
 cases p with
 |none=>exact h.elim
 |some a=>exact⟨a,rfl,h⟩
def z6a {p:Option am} {n:Nat} {i:Int} {K:am->Prop} (h:y9l p n i K):∃a,p=ay a/\(0<=i/\i<n)/\K a:=by
 cases p with
 |none=>exact h.elim
 |some a=>exact⟨a,rfl,h⟩
def x6 {P:aa} {o:aj} {ρ:Env} {neg:Bool} {t:ae} {x y:ap} {u:ae} {r:Bool} (ho:o.op= .binOp (if neg then .neq else .eql) t x y u)
 (hx:match ev ρ x with| .pointer _=>True| .slice _ _ _=>True| .map _=>True| .agg _=>True|_=>False)
 (hy:match ev ρ y with| .pointer _=>True| .slice _ _ _=>True| .map _=>True| .agg _=>True|_=>False)
 (hg:∀w,(ak (if neg then .neq else .eql) t x y (ev ρ x) (ev ρ y)).run P w= .ok () w)
 (he:∀w,(Op.equal t (ev ρ x) (ev ρ y)).run P w= .ok r w):FB P (af (ev ρ) o) (.bool (if neg then !r else r)):=by
 simp only[af,ho];refine yF λw=> ?_
 simp only[bind,run_bind,hg w];generalize ev ρ x=a at*;generalize ev ρ y=b at*;cases neg<;>cases a<;>(first|exact hx.elim|skip)<;>cases b<;>(first|exact hy.elim|skip)<;>simp only[binOp,oS,if_false,if_true,bind,pure,run_bind,he w,bc]
def zOo {P:aa} {op:BinOp} {t:ae} {x y x' y':ap} {a b:ab} (ha:a≠.nilIface) (w:ac):
 (ak op t x y a b).run P w=(ak op t x' y' a b).run P w:=by
 cases a<;>first|exact(ha rfl).elim|skip
 all_goals cases op<;>first|rfl|(cases b<;>rfl)
def xF {P:aa} {op:BinOp} {t:ae} {x y:ap} {a b:ab} (ha:match a with| .pointer _=>True| .slice _ _ _=>True| .map _=>True|_=>False) (w:ac):
 (ak op t x y a b).run P w= .ok () w:=by
 cases a<;>first|exact ha.elim|(cases op<;>rfl)
def yFy {y:ab} (h:Xf y=bo):y= .pointer az:=by
 cases y<;>simp[Xf]at h
 rename_i a;cases a<;>simp at h ⊢
def yJi {y:ab} (h:LV y=bo):∃n c,y= .slice az n c:=by
 cases y<;>simp[LV]at h
 rename_i a n c;cases a<;>simp at h ⊢
def yFk {y:ab} (h:Xr y=bo):y= .map az:=by
 cases y<;>simp[Xr]at h
 rename_i a;cases a<;>simp at h ⊢
def zM {b:Bool} {A:Prop} (h:bif b then A else False):b=bo/\A:=by
 cases b
 ·exact h.elim
 ·exact⟨rfl,h⟩
def yVe {P:aa} {ρ:Env} {op:BinOp} {t u:ae} {x y:ap} {o:aj} {K:ab->Prop} (ho:o.op= .binOp op t x y u)
 (h:bX P o ρ K):∃v,K v/\FB P (af (ev ρ) o) v:=by
 simp only[bX,ho]at h;split at h
 ·rename_i k a k' b hx hy;obtain⟨rfl,hb,h⟩:=h;refine⟨_,h,?_⟩;simp only[af,ho];refine yF λw=> ?_
  simp[hx,hy,ak,binOp,Op.intDiv,hb,bind,pure,be,bc]
 ·rename_i k a k' b hx hy;obtain⟨rfl,hb,h⟩:=h;refine⟨_,h,?_⟩;simp only[af,ho];refine yF λw=> ?_
  simp[hx,hy,ak,binOp,Op.intDiv,hb,bind,pure,be,bc]
 ·rename_i k a k' b hx hy;obtain⟨hb,h⟩:=h;refine⟨_,h,?_⟩;simp only[af,ho];refine yF λw=> ?_
  simp[hx,hy,ak,binOp,Op.shift,Int.not_lt.2 hb,bind,pure,be,bc,JU,aO]
 ·rename_i k a k' b hx hy;obtain⟨hb,h⟩:=h;refine⟨_,h,?_⟩;simp only[af,ho];refine yF λw=> ?_
  simp[hx,hy,ak,binOp,Op.shift,Int.not_lt.2 hb,bind,pure,be,bc,JU,aO]
 ·rename_i k a k' b hx hy;obtain⟨hk,h'⟩:=U4 h;subst hk;refine⟨_,h',?_⟩;simp only[af,ho];refine yF λw=> ?_
  simp[hx,hy,ak,binOp,Op.intBits,bind,pure,be,bc,CH,HU,CB,P1]
 ·rename_i k a k' b hx hy;obtain⟨hk,h'⟩:=U4 h;subst hk;refine⟨_,h',?_⟩;simp only[af,ho];refine yF λw=> ?_
  simp[hx,hy,ak,binOp,Op.intBits,bind,pure,be,bc,CH,HU,CB,P1]
 ·rename_i k a k' b hx hy;obtain⟨hk,h'⟩:=U4 h;subst hk;refine⟨_,h',?_⟩;simp only[af,ho];refine yF λw=> ?_
  simp[hx,hy,ak,binOp,Op.intBits,bind,pure,be,bc,CH,HU,CB,P1]
 ·rename_i k a k' b hx hy;obtain⟨hk,h'⟩:=U4 h;subst hk;refine⟨_,h',?_⟩;simp only[af,ho];refine yF λw=> ?_
  simp[hx,hy,ak,binOp,Op.intBits,bind,pure,be,bc,CH,HU,CB,P1]
 ·rename_i a b hx hy;obtain⟨hb,h⟩:=h;refine⟨_,h,?_⟩;simp only[af,ho];refine yF λw=> ?_
  have AL:¬(((a.size+b.size:Nat):Int)>df.max):=Int.not_lt.2 hb;simp only[hx,hy,ak,binOp,Op.stringOp,eg AL,bind,pure,be,bc];rfl
 ·rename_i p hx;generalize hy:ev ρ y=b at h;obtain⟨hn,h⟩:=zM h;obtain⟨r,hr,h⟩:=tK h;have hb:=yFy hn;refine⟨_,h,?_⟩;exact x6 (neg:=bu) ho (by simp[hx]) (by simp[hy,hb]) (λw=>by rw[hx];exact xF trivial w) (λw=>by rw[hx,hy,hb];exact aA hr w)
 ·rename_i p hx;generalize hy:ev ρ y=b at h;obtain⟨hn,h⟩:=zM h;obtain⟨r,hr,h⟩:=tK h;have hb:=yFy hn;refine⟨_,h,?_⟩;exact x6 (neg:=bo) ho (by simp[hx]) (by simp[hy,hb]) (λw=>by rw[hx];exact xF trivial w) (λw=>by rw[hx,hy,hb];exact aA hr w)
 ·rename_i p n c hx;generalize hy:ev ρ y=b at h;obtain⟨hn,h⟩:=zM h;obtain⟨r,hr,h⟩:=tK h;obtain⟨m,d,hb⟩:=yJi hn;refine⟨_,h,?_⟩;exact x6 (neg:=bu) ho (by simp[hx]) (by simp[hy,hb]) (λw=>by rw[hx];exact xF trivial w) (λw=>by rw[hx,hy,hb];exact fM hr w)
 ·rename_i p n c hx;generalize hy:ev ρ y=b at h;obtain⟨hn,h⟩:=zM h;obtain⟨r,hr,h⟩:=tK h;obtain⟨m,d,hb⟩:=yJi hn;refine⟨_,h,?_⟩;exact x6 (neg:=bo) ho (by simp[hx]) (by simp[hy,hb]) (λw=>by rw[hx];exact xF trivial w) (λw=>by rw[hx,hy,hb];exact fM hr w)
 ·rename_i p hx;generalize hy:ev ρ y=b at h;obtain⟨hn,h⟩:=zM h;obtain⟨r,hr,h⟩:=tK h;have hb:=yFk hn;refine⟨_,h,?_⟩;exact x6 (neg:=bu) ho (by simp[hx]) (by simp[hy,hb]) (λw=>by rw[hx];exact xF trivial w) (λw=>by rw[hx,hy,hb];exact aH hr w)
 ·rename_i p hx;generalize hy:ev ρ y=b at h;obtain⟨hn,h⟩:=zM h;obtain⟨r,hr,h⟩:=tK h;have hb:=yFk hn;refine⟨_,h,?_⟩;exact x6 (neg:=bo) ho (by simp[hx]) (by simp[hy,hb]) (λw=>by rw[hx];exact xF trivial w) (λw=>by rw[hx,hy,hb];exact aH hr w)
 ·rename_i a hx;generalize hy:ev ρ y=b at h;obtain⟨r,h1,h2,h3,h⟩:=h;refine⟨_,h,?_⟩;obtain⟨c,rfl⟩:∃c,b= .agg c:=by cases b<;>first|exact⟨_,rfl⟩|(simp at h3)
  exact x6 (neg:=bu) ho (by simp[hx]) (by simp[hy]) (λw=>by rw[hx,hy];exact(zOo (by simp) w).trans (vU h2 w)) (λw=>by rw[hx,hy];exact vU h1 w)
 ·rename_i a hx;generalize hy:ev ρ y=b at h;obtain⟨r,h1,h2,h3,h⟩:=h;refine⟨_,h,?_⟩;obtain⟨c,rfl⟩:∃c,b= .agg c:=by cases b<;>first|exact⟨_,rfl⟩|(simp at h3)
  exact x6 (neg:=bo) ho (by simp[hx]) (by simp[hy]) (λw=>by rw[hx,hy];exact(zOo (by simp) w).trans (vU h2 w)) (λw=>by rw[hx,hy];exact vU h1 w)
 ·exact aE h
def fS {P:aa} {ρ:Env} {o:aj} {K:ab->Prop} (h:bX P o ρ K):∃v,K v/\FB P (af (ev ρ) o) v:=by
 cases ho:o.op
 case move x=>simp only[bX,ho]at h;exact⟨_,h,λw=>by simp only[af,ho];rfl⟩
 case assign x=>simp only[bX,ho]at h;exact⟨_,h,λw=>by simp only[af,ho];rfl⟩
 case pick c a b=>
  simp only[bX,ho]at h;split at h
  ·rename_i t hc;refine⟨_,h,λw=> ?_⟩;simp only[af,ho,hc,asBool,bind,pure,be,bc];cases t<;>rfl
  ·exact h.elim
 case nilCheck x=>
  simp only[bX,ho]at h;split at h
  ·rename_i p hx;obtain⟨a,rfl,h⟩:=rY h;exact⟨_,h,λw=>by simp only[af,ho,hx];rfl⟩
  ·exact aE h
 case indexAddr t x i=>
  simp only[bX,ho]at h;split at h
  ·rename_i p n c k i hx hi;split at h
   ·rename_i sz pn;obtain⟨a,rfl,hb,h⟩:=z6a h;refine⟨_,h,?_⟩;simp only[af,ho];refine yF λw=> ?_
    rw[hx,hi];exact wP pn hb w
   ·exact h.elim
  ·rename_i p k i hx hi;split at h
   ·rename_i n sz pn;obtain⟨a,rfl,hb,h⟩:=z6a h;refine⟨_,h,?_⟩;simp only[af,ho];refine yF λw=> ?_
    rw[hx,hi];exact dY pn hb w
   ·exact h.elim
  ·exact h.elim
 case index t x i=>
  simp only[bX,ho]at h;split at h
  ·rename_i s k i hx hi;split at h
   ·rename_i ht;obtain⟨b,⟨h0,h1⟩,h⟩:=h;refine⟨_,h,?_⟩;simp only[af,ho];refine yF λw=> ?_
    simp only[Instr.index,hx,hi,asIntOf,bind,pure,be,bc,run_bind,run_underlying ht,fh h0,h1]
   ·exact h.elim
  ·split at h
   ·exact aE h
   ·obtain⟨v,hv,h⟩:=v7 h;refine⟨v,h,?_⟩;simp only[af,ho];exact yF (vU hv)
 case typeAssert x xT asserted ok=>
  cases ok
  ·simp only[bX,ho]at h;obtain⟨v,hv,h⟩:=v7 h;refine⟨v,h,?_⟩;simp only[af,ho];exact yF (vU hv)
  ·simp only[bX,ho]at h;obtain⟨v,h⟩:=v7 h;obtain⟨b,hv,h⟩:=vA h;refine⟨_,h,?_⟩;simp only[af,ho];exact yF (vU hv)
 case slice t x lo hi mx=>
  cases mx with
  |none=>exact yAp ho h
  |some m=>
   simp only[bX,ho]at h;split at h<;>first|exact h.elim|contradiction|skip
   rename_i p n c m' hx hm;cases hm;split at h<;>first|exact h.elim|skip
   rename_i sz l u k m' pn h1 h2 hm;obtain⟨⟨q1,q2,q3,q4⟩,h⟩:=h;obtain⟨e,ti,e1,e2,rfl⟩:=zCp pn;rcases VT h1 with⟨_,h1⟩|⟨y,ky,ny,rfl,hy,h1⟩
   ·cases h1
   cases h1;rcases VT h2 with⟨_,h2⟩|⟨z,kz,nz,rfl,hz,h2⟩
   ·cases h2
   cases h2;refine⟨_,h,?_⟩;simp only[af,ho];refine yF λw=> ?_
   have b1:(0:Int)<=m'/\m'<=(c:Nat):=X_
   have b2:0<=u/\u<=(m'.toNat:Nat):=X_
   have b3:0<=l/\l<=(u.toNat:Nat):=X_
   simp only[Instr.sliceAt,Instr.slice,cp,hx,hm,hy,hz,wz,bind,pure,be,bc,run_bind,run_underlying e1,jQ b1,jQ b2,jQ b3,run_sizeOf e2]
 case binOp op t x y u=>exact yVe ho h
 case panic x=>simp only[bX,ho]at h
 all_goals(simp only[bX,ho]at h;exact aE h)
def bC (P:aa) (s:Sem ab) (w:ac) (v:ab):Prop:=s.run P w=.ok v w
def fH (P:aa) (s:Sem ab) (w:ac) (v:ab) (w':ac):Prop:=s.run P w=.ok v w'
def HG (P:aa) (s:Sem Unit) (w:ac) (w':ac):Prop:=s.run P w=.ok () w'
def pX (P:aa) (t:ae) (a:am) (w:ac) (v:ab):Prop:=(loadVar t a).run P w=.ok v w
def yJf (P:aa) (t:ae):Option ae:=
 match P.underlying t with
 |some (.map _ e)=>ay e
 |_=>az
def A6 (P:aa) (o:aj) (ρ:Env) (w:ac) (K:ab->Prop):Prop:=
 match o.op with
 | .load t x=>
   match ev ρ x with
   | .pointer p=>JW p λa=>Fk P t λv=>pX P t a w v/\K v
   |_=>False
 | .lookup t m k ok=>
   match yJf P t with
   |some e=>Fk P e λv=>DE .bool λb=>bC P (cq t (ev ρ m) (ev ρ k) bo) w (.tuple #[v,b])/\K (bif ok then .tuple #[v,b]else v)
   |none=>False
 | .convert s d x=>Fk P d λv=>bC P (ax s d (ev ρ x)) w v/\K v
 | .binOp op t x y _=>
   match op with
   | .eql=>DE .bool λv=>bC P (binOp .eql t (ev ρ x) (ev ρ y)) w v/\(ak .eql t x y (ev ρ x) (ev ρ y)).run P w=.ok () w/\K v
   | .neq=>DE .bool λv=>bC P (binOp .neq t (ev ρ x) (ev ρ y)) w v/\(ak .neq t x y (ev ρ x) (ev ρ y)).run P w=.ok () w/\K v
   |_=>False
 | .call {callee:= .builtin .len,args,argTypes}=>DE (.int .i64) λv=>bC P (ce argTypes o.type (args.map (ev ρ))) w v/\K v
 | .entry x=>∃v,bC P (Instr.entry (ev ρ x)) w v/\K v
 |_=>False
def yK {P:aa} {s:Sem ab} {v:ab} {w:ac} (h:s.run P w= .ok v w):((do pure (Next.value (<- s)):Sem Next)).run P w= .ok (.value v) w:=by
 show(s.bind λa=> .pure (Next.value a)).run P w=_;rw[run_bind,h];rfl
def yAe {P:aa} {s:Sem ab} {v:ab} {w w':ac} (h:s.run P w= .ok v w'):((do pure (Next.value (<- s)):Sem Next)).run P w= .ok (.value v) w':=by
 show(s.bind λa=> .pure (Next.value a)).run P w=_;rw[run_bind,h];rfl
def yKd {P:aa} {s:Sem Unit} {w w':ac} (h:s.run P w= .ok () w'):((do s;pure Next.skip:Sem Next)).run P w= .ok .skip w':=by
 show(s.bind λ_=> .pure Next.skip).run P w=_;rw[run_bind,h];rfl
def Pe (P:aa) (s1 s2:Sem ab):Prop:=∀w v b w',s1.run P w=.ok (.tuple #[v,b]) w'->s2.run P w=.ok v w'
def aM {α:Type} {P:aa} (s:Sem α) {f g:α->Sem ab} (h:∀a,Pe P (f a) (g a)):Pe P (s.bind f) (s.bind g):=by
 intro w v b w' hr;rw[run_bind]at hr ⊢;cases hs:s.run P w with
 |ok a w1=>rw[hs]at hr;exact h a _ _ _ _ hr
 |halt x w1=>rw[hs]at hr;cases hr
def yMp {P:aa} {x y:String}:Pe P (stuck x) (stuck y):=by
 intro w v b w' hr;cases hr
def z8d {P:aa} {v b:ab}:Pe P (.pure (.tuple #[v,b])) (.pure v):=by
 intro w v b w' hr;simp only[bc,Result.ok.injEq,Value.tuple.injEq,Array.mk.injEq,List.cons.injEq]at hr ⊢;exact⟨hr.1.1,hr.2⟩
def Dg {P:aa} {t:ae} {m k:ab}:Pe P (cq t m k bo) (cq t m k bu):=by
 unfold cq;refine aM _ λd=> ?_
 have tail:∀(key elem:ae) (es:Array aq),Pe P
  ((Instr.checkKey es.isEmpty 10000 key k).bind λ_=>(Instr.findKey key k es.toList).bind λr=>
    match r with
    |some (_,v)=>(bg (v,bo)).bind λx=>bg (if bo=bo then Value.tuple #[x.1,.bool x.2]else x.1)
    |none=>(zeroValue elem).bind λz=>(bg (z,bu)).bind λx=>bg (if bo=bo then Value.tuple #[x.1,.bool x.2]else x.1))
  ((Instr.checkKey es.isEmpty 10000 key k).bind λ_=>(Instr.findKey key k es.toList).bind λr=>
    match r with
    |some (_,v)=>(bg (v,bo)).bind λx=>bg (if bu=bo then Value.tuple #[x.1,.bool x.2]else x.1)
    |none=>(zeroValue elem).bind λz=>(bg (z,bu)).bind λx=>bg (if bu=bo then Value.tuple #[x.1,.bool x.2]else x.1)):=by
  intro key elem es;refine aM _ λ_=>aM _ λr=> ?_
  cases r with
  |some p=>obtain⟨i,v⟩:=p;exact z8d
  |none=>exact aM _ λz=>z8d
 cases d<;>first|exact yMp|skip
 rename_i key elem;cases m<;>first|exact aM _ (λes=>tail key elem es)|skip
 rename_i r;cases r with
 |none=>exact aM _ (λes=>tail key elem es)
 |some r=>
  refine aM _ λo=> ?_
  cases o<;>exact aM _ (λes=>tail key elem es)
def zOt {P:aa} {t:ae} {m k v b:ab} {w w':ac} (h:(cq t m k bo).run P w= .ok (.tuple #[v,b]) w'):(cq t m k bu).run P w= .ok v w':=
 Dg w v b w' h
def yCx {P:aa} {ρ:Env} {o:aj} {w:ac} {K:ab->Prop} (h:A6 P o ρ w K):∃v,K v/\(af (ev ρ) o).run P w= .ok (.value v) w:=by
 cases ho:o.op
 case load t x=>
  simp only[A6,ho]at h;split at h
  ·rename_i p hx;obtain⟨a,rfl,h⟩:=rY h;obtain⟨v,hv,h⟩:=v7 h;refine⟨v,h,?_⟩;simp only[af,ho,hx];exact yK hv
  ·exact h.elim
 case lookup t m k ok=>
  simp only[A6,ho]at h;split at h
  ·rename_i e he;obtain⟨v,h⟩:=v7 h;obtain⟨b,hb,h⟩:=vA h;refine⟨_,h,?_⟩;simp only[af,ho];cases ok
   ·exact yK (zOt hb)
   ·exact yK hb
  ·exact h.elim
 case convert s d x=>
  simp only[A6,ho]at h;obtain⟨v,hv,h⟩:=v7 h;refine⟨v,h,?_⟩;simp only[af,ho];exact yK hv
 case binOp op t x y u=>
  simp only[A6,ho]at h;split at h
  ·obtain⟨v,h1,h2,h⟩:=vA h;refine⟨v,h,?_⟩;simp only[af,ho];refine yK ?_;simp only[bind,run_bind,h2];exact h1
  ·obtain⟨v,h1,h2,h⟩:=vA h;refine⟨v,h,?_⟩;simp only[af,ho];refine yK ?_;simp only[bind,run_bind,h2];exact h1
  ·exact h.elim
 case call c=>
  simp only[A6,ho]at h;split at h<;>first|exact h.elim|skip
  all_goals first|(exfalso;rename_i hh;cases hh;done)|skip
  rename_i args argTypes hh;cases hh;obtain⟨v,hv,h⟩:=vA h;refine⟨v,h,?_⟩;simp only[af,ho];exact yK hv
 case entry x=>
  simp only[A6,ho]at h;obtain⟨v,hv,h⟩:=h;refine⟨v,h,?_⟩;simp only[af,ho];exact yK hv
 all_goals(simp only[A6,ho]at h)
def nq (P:aa) (s:Sem Next) (w:ac) (K:ab->ac->Prop):Prop:=
 match s.run P w with
 | .ok (.value v) w'=>K v w'
 | .ok .skip w'=>K ao w'
 | .ok (.enter f args) w'=>Calls P f args w' λe X0=>∃v,e=.returned v/\K v X0
 |_=>False
def LZ (w:ac) (o:Obj) (K:Nat->ac->Prop):Prop:=∀b w',b=w.heap.size->w'=w.alloc o->K b w'
def zero? (P:aa) (t:ae):Option ab:=
 match P.info? t with
 |some i=>i.zero
 |none=>az
def HE (z:Array ab) (n:Nat):Array ab:=((db n).map λj=>z.toList.getD (j % z.size) default).toArray
def ZU (z:Array ab) (n:Nat):(Array.range n).map (z[·% z.size]!)=HE z n:=by
 apply de;simp only[HE,Array.toList_map,Array.toList_range];refine uk λj _=> ?_
 rw[Array.getElem!_eq_getD,CO,mz,Array.getElem?_toList]
def ME (P:aa) (t:ae) (len:Nat) (parts:Array (Nat×ab)):Option (ae×Array ab):=
 match P.underlying t with
 |some (.slice e)=>
  match P.info? e with
  |some i=>
   if len*i.size>2 ^ 24 then az else
   match(if len*i.size=0 then ay #[]else i.zero.map Value.cells)with
   |some z=>(Instr.fill (λj=>ay (j*i.size,i.size)) (HE z (len*i.size)) parts.toList).map λcs=>(e,cs)
   |none=>az
  |none=>az
 |_=>az
def vY (P:aa) (t:ae):Option (ae×Nat×Nat×Array ab):=
 match P.underlying t with
 |some (.slice e)=>
  match P.info? e with
  |some i=>i.zero.map λz=>(e,i.size,i.bytes,z.cells)
  |none=>az
 |_=>az
def gJ (P:aa) (f:av):Bool:=
 match P.funcs[f]? with
 | some fn => !fn.body.isNone && !(fn.name == "runtime.NumGoroutine")
 |none=>bu
def yPx (P:aa) (f:av) (args:Array ab) (w:ac) (rt:ae) (K:ab->ac->Prop):Prop:=
 Calls P f args w λe w'=>SS P rt λv=>e=.returned v/\K v w'
def Ext (P:aa) (f:av) (args:Array ab) (w:ac) (v:ab) (w':ac):Prop:=(au f args).run P w=.ok (.value v) w'
def cI (P:aa) (o:aj) (ρ:Env) (w:ac) (K:ab->ac->Prop):Prop:=
 match o.op with
 | .alloc e=>
   match zero? P e with
   |some z=>LZ w (.cells z.cells e) λb w'=>K (.pointer (ay ⟨b,0,az⟩)) w'
   |none=>False
 | .box e x=>LZ w (.cells (ev ρ x).cells e) λb w'=>K (.pointer (ay ⟨b,0,az⟩)) w'
 | .buildSlice t len parts=>
   match ME P t len (parts.map λ(i,x)=>(i,ev ρ x))with
   |some (e,cs)=>LZ w (.cells cs e) λb w'=>K (.slice (ay ⟨b,0,az⟩) len len) w'
   |none=>False
 | .makeMap _ az=>LZ w (.map #[] 0) λb w'=>K (.map (ay b)) w'
 | .makeSlice t l c=>
   match ev ρ l,ev ρ c with
   | .int _ l,.int _ c=>
     match vY P t with
     |some (e,sz,oF,z)=>(0<=l/\l<=c/\c<=9223372036854775807/\(oF:Int)*c<=2 ^ 48)/\
       LZ w (.cells (madeCells z (c.toNat*sz)) e) λb w'=>K (.slice (ay ⟨b,0,az⟩) l.toNat c.toNat) w'
     |none=>False
   |_,_=>False
 | .store t x v=>
   match ev ρ x with
   | .pointer p=>JW p λa=>∃w',HG P (storeVar t a (ev ρ v)) w w'/\K ao w'
   |_=>False
 | .mapUpdate t m k x=>∃w',HG P (Instr.mapUpdate t (ev ρ m) (ev ρ k) (ev ρ x)) w w'/\K ao w'
 | .mapEntry t m k=>
   match yJf P t with
   |some e=>Fk P e λv=>DE (.int .i64) λs=>∃w',fH P (Instr.mapEntry t (ev ρ m) (ev ρ k)) w (.tuple #[v,s]) w'/\K (.tuple #[v,s]) w'
   |none=>False
 | .entryStore t m s x=>∃w',HG P (Instr.entryStore t (ev ρ m) (ev ρ s) (ev ρ x)) w w'/\K ao w'
 | .range t x=>
   match P.underlying t,ev ρ x with
   |some .string,.string s=>LZ w (.stringIter s 0) λb w'=>K (.pointer (ay ⟨b,0,az⟩)) w'
   |_,x=>DE .ptr λv=>∃w',fH P (Instr.range t x) w v w'/\K v w'
 | .next it bo=>
   (∃w',fH P (Instr.next (ev ρ it) bo o.type) w (.tuple #[.bool bu]) w'/\K (.tuple #[.bool bu]) w')\/
   DE (.int .i64) λk=>DE (.int .i32) λv=>∃w',fH P (Instr.next (ev ρ it) bo o.type) w (.tuple #[.bool bo,k,v]) w'/\K (.tuple #[.bool bo,k,v]) w'
 | .next it bu=>
   (∃w',fH P (Instr.next (ev ρ it) bu o.type) w (.tuple #[.bool bu]) w'/\K (.tuple #[.bool bu]) w')\/
   ∃(k v:ab) (w':ac),fH P (Instr.next (ev ρ it) bu o.type) w (.tuple #[.bool bo,k,v]) w'/\K (.tuple #[.bool bo,k,v]) w'
 | .convert s d x=>Fk P d λv=>∃w',fH P (ax s d (ev ρ x)) w v w'/\K v w'
 | .call c=>
   match c.callee with
   | .value (.func f)=>bif gJ P f then yPx P f (c.args.map (ev ρ)) w o.type K else SS P o.type λv=>∃w',Ext P f (c.args.map (ev ρ)) w v w'/\K v w'
   | .value x=>
     match ev ρ x with
     | .func (.func f) first cap=>gJ P f=bo/\yPx P f (first++c.args.map (ev ρ)++cap) w o.type K
     |_=>False
   | .builtin .append=>Fk P o.type λv=>∃w',fH P (cd c.argTypes o.type (c.args.map (ev ρ))) w v w'/\K v w'
   | .builtin .copy=>DE (.int .i64) λv=>∃w',fH P (cf c.argTypes o.type (c.args.map (ev ρ))) w v w'/\K v w'
   | .builtin .delete=>∃w',fH P (Builtin.delete_ c.argTypes o.type (c.args.map (ev ρ))) w (.tuple #[]) w'/\K (.tuple #[]) w'
   | .builtin .clear=>∃w',fH P (Builtin.clear_ c.argTypes o.type (c.args.map (ev ρ))) w (.tuple #[]) w'/\K (.tuple #[]) w'
   |_=>False
 |_=>False
def yI {P:aa} {s:Sem ab} {w w':ac} {v:ab} {K:ab->ac->Prop} (h:s.run P w= .ok v w') (hk:K v w'):nq P (do pure (Next.value (<- s))) w K:=by
 unfold nq;rw[yAe h];exact hk
def vI {P:aa} {s:Sem Unit} {w w':ac} {K:ab->ac->Prop} (h:s.run P w= .ok () w') (hk:K ao w'):nq P (do s;pure Next.skip) w K:=by
 unfold nq;rw[yKd h];exact hk
def zWy {P:aa} {f:av} {args:Array ab} {w:ac} {rt:ae} {K:ab->ac->Prop} (hb:gJ P f=bo) (h:yPx P f args w rt K):nq P (au f args) w K:=by
 unfold gJ at hb;split at hb
 ·rename_i fn F3;simp only[lu,Dv,Bool.not_eq_eq_eq_not,Bool.not_true]at hb;unfold nq;have:(au f args).run P w= .ok (.enter f args) w:=by
   simp only[au,bind,pure,run_bind,program,bc,be,F3,hb.1,hb.2,oS,if_false]
  rw[this];exact h.mono λe w' hh=>by
   obtain⟨v,hv,hk⟩:=yFw hh;exact⟨v,hv,hk⟩
 ·cases hb
def mg {P:aa} {t:ae} {z:ab} (h:zero? P t=ay z) (w:ac):(zeroValue t).run P w= .ok z w:=by
 unfold zero? at h;split at h
 ·rename_i i hi;have IS:(typeInfo t).run P w= .ok i w:=by
   unfold typeInfo;show((Sem.program bg).bind _).run P w=_;simp only[be,bc,hi];rfl
  unfold zeroValue;simp only[bind,run_bind,IS,h];rfl
 ·cases h
def zTf {P:aa} {t:ae} {v:ab} (w:ac):(newVar t v).run P w= .ok ⟨w.heap.size,0,az⟩ (w.alloc (.cells v.cells t)):=rfl
def zIx {P:aa} {t:ae} {i:TypeInfo} (h:P.info? t=ay i) (w:ac):(typeInfo t).run P w= .ok i w:=by
 unfold typeInfo;show((Sem.program bg).bind _).run P w=_;simp only[be,bc,h];rfl
def m5 {P:aa} {t:ae} {len:Nat} {parts:Array (Nat×ab)} {e:ae} {cs:Array ab} (h:ME P t len parts=ay (e,cs)) (w:ac):
 (Instr.buildSlice t len parts).run P w= .ok (.slice (ay ⟨w.heap.size,0,az⟩) len len) (w.alloc (.cells cs e)):=by
 unfold ME at h;split at h<;>first|(cases h;done)|skip
 rename_i e' ht;split at h<;>first|(cases h;done)|skip
 rename_i i hi;split at h<;>first|(cases h;done)|skip
 rename_i hlen;split at h<;>first|(cases h;done)|skip
 rename_i z hz;simp only[ba,dj]at h;obtain⟨CV,Ie,rfl,rfl⟩:=h;by_cases h0:len*i.size=0
 ·simp only[h0,if_true,ct]at hz;subst hz;simp only[Instr.buildSlice,bind,pure,run_bind,be,bc,run_underlying ht,run_sizeOf hi,eg hlen,fh h0,ZU,Ie];rfl
 ·simp only[h0,if_false,ba]at hz;obtain⟨z',Sc,rfl⟩:=hz;have Fa:∀w,(zeroValue e').run P w= .ok z' w:=λw=>mg (by unfold zero?;rw[hi];exact Sc) w
  simp only[Instr.buildSlice,bind,pure,run_bind,be,bc,run_underlying ht,run_sizeOf hi,eg hlen,eg h0,Fa,ZU,Ie];rfl
def jI {P:aa} {t e:ae} {sz oF:Nat} {z:Array ab} (h:vY P t=ay (e,sz,oF,z)):
 ∃i zv,P.underlying t=ay (.slice e)/\P.info? e=ay i/\i.size=sz/\i.bytes=oF/\i.zero=ay zv/\zv.cells=z:=by
 unfold vY at h;split at h<;>first|(cases h;done)|skip
 rename_i e' ht;split at h<;>first|(cases h;done)|skip
 rename_i i hi;simp only[ba,dj]at h;obtain⟨zv,X9,rfl,rfl,rfl,rfl⟩:=h;exact⟨i,zv,ht,hi,rfl,rfl,X9,rfl⟩
def wrap_i64 {x:Int} (h0: -9223372036854775808<=x) (h1:x<=9223372036854775807):df.wrap x=x:=IntWalk.i64_in x ⟨h0,h1⟩
def zPg (P:aa) (n:Nat) (w:ac):(askRoom n).run P w= .ok () w:=by
 unfold askRoom;split<;>rfl
def zUn {P:aa} {t e:ae} {sz oF:Nat} {z:Array ab} {k k':ag} {l c:Int} (h:vY P t=ay (e,sz,oF,z))
 (hb:0<=l/\l<=c/\c<=9223372036854775807/\(oF:Int)*c<=2 ^ 48) (w:ac):
 (Instr.makeSlice t (.int k l) (.int k' c)).run P w= .ok (.slice (ay ⟨w.heap.size,0,az⟩) l.toNat c.toNat) (w.alloc (.cells (madeCells z (c.toNat*sz)) e)):=by
 obtain⟨i,zv,ht,hi,rfl,rfl,hz,rfl⟩:=jI h;obtain⟨h1,h2,h3,h4⟩:=hb;have wl:df.wrap l=l:=wrap_i64 X_ X_;have wc:df.wrap c=c:=wrap_i64 X_ X_;have CT:¬(((decide (c<0)||decide ((i.bytes:Int)*c>2 ^ 48))||decide (l<0)||decide (l>c))=bo):=by
  simp only[Ma,ua,not_or];omega
 have Fa:∀w,(zeroValue e).run P w= .ok zv w:=λw=>mg (by unfold zero?;rw[hi];exact hz) w
 simp only[Instr.makeSlice,asInt,asIntOf,bind,pure,run_bind,be,bc,run_underlying ht,zIx hi,run_sizeOf hi,wl,wc];rw[eg CT];simp only[run_bind,zPg,run_sizeOf hi];by_cases h0:c.toNat*i.size=0
 ·simp only[h0,if_true,bc,run_bind,madeCells];have e1:(Array.map (λx=>(#[]:Array ab)[x % (#[]:Array ab).size]!) (Array.range 0))= #[]:=by simp
  have e2:(Array.map (λx=>zv.cells[x % zv.cells.size]!) (Array.range 0))= #[]:=by simp
  rw[e1,e2];rfl
 ·simp only[eg h0,run_bind,Fa,bc,madeCells];rfl
def zYh {P:aa} {ρ:Env} {o:aj} {w:ac} {K:ab->ac->Prop} (h:cI P o ρ w K):nq P (af (ev ρ) o) w K:=by
 cases ho:o.op
 case alloc e=>
  simp only[cI,ho]at h;split at h
  ·rename_i z hz;simp only[af,ho];refine yI (v:= .pointer (ay ⟨w.heap.size,0,az⟩)) (w':=w.alloc (.cells z.cells e)) ?_ (h _ _ rfl rfl);simp only[Instr.alloc,bind,pure,run_bind,mg hz,bc,zTf]
  ·exact h.elim
 case box e x=>
  simp only[cI,ho]at h;simp only[af,ho];exact yI (v:= .pointer (ay ⟨w.heap.size,0,az⟩)) (w':=w.alloc (.cells (ev ρ x).cells e)) rfl (h _ _ rfl rfl)
 case buildSlice t len parts=>
  simp only[cI,ho]at h;split at h
  ·rename_i e cs Ie;simp only[af,ho];exact yI (m5 Ie w) (h _ _ rfl rfl)
  ·exact h.elim
 case makeMap t r=>
  cases r with
  |some r=>simp only[cI,ho]at h
  |none=>
   simp only[cI,ho]at h;simp only[af,ho];exact yI (v:= .map (ay w.heap.size)) (w':=w.alloc (.map #[] 0)) rfl (h _ _ rfl rfl)
 case makeSlice t l c=>
  simp only[cI,ho]at h;split at h<;>first|exact h.elim|skip
  rename_i k l' k' c' hl hc;split at h<;>first|exact h.elim|skip
  rename_i e sz oF z hs;simp only[af,ho,hl,hc];exact yI (zUn hs h.1 w) (h.2 _ _ rfl rfl)
 case store t x v=>
  simp only[cI,ho]at h;split at h<;>first|exact h.elim|skip
  rename_i p hx;obtain⟨a,rfl,w',hw,hk⟩:=rY h;simp only[af,ho,hx];exact vI (w':=w') hw hk
 case mapUpdate t m k x=>
  simp only[cI,ho]at h;obtain⟨w',hw,hk⟩:=h;simp only[af,ho];exact vI hw hk
 case mapEntry t m k=>
  simp only[cI,ho]at h;split at h<;>first|exact h.elim|skip
  obtain⟨v,h⟩:=v7 h;obtain⟨s,w',hw,hk⟩:=vA h;simp only[af,ho];exact yI hw hk
 case entryStore t m s x=>
  simp only[cI,ho]at h;obtain⟨w',hw,hk⟩:=h;simp only[af,ho];exact vI hw hk
 case range t x=>
  simp only[cI,ho]at h;split at h
  ·rename_i s ht hx;simp only[af,ho];refine yI (v:= .pointer (ay ⟨w.heap.size,0,az⟩)) (w':=w.alloc (.stringIter s 0)) ?_ (h _ _ rfl rfl);rw[hx];simp only[Instr.range,bind,pure,run_bind,be,run_underlying ht];rfl
  ·obtain⟨v,w',hw,hk⟩:=vA h;simp only[af,ho];exact yI hw hk
 case next it isString=>
  simp only[af,ho];cases isString
  ·simp only[cI,ho]at h;rcases h with⟨w',hw,hk⟩|⟨k,v,w',hw,hk⟩
   ·exact yI hw hk
   ·exact yI hw hk
  ·simp only[cI,ho]at h;rcases h with⟨w',hw,hk⟩|h
   ·exact yI hw hk
   ·obtain⟨k,h⟩:=vA h;obtain⟨v,w',hw,hk⟩:=vA h;exact yI hw hk
 case convert s d x=>
  simp only[cI,ho]at h;obtain⟨v,w',hw,hk⟩:=v7 h;simp only[af,ho];exact yI hw hk
 case call c=>
  have tx:af (ev ρ) o=(ar (ev ρ) c o.type).bind λd=>invoke d.target d.args:=by
   simp only[af,ho];rfl
  simp only[cI,ho]at h;split at h
  ·rename_i f hc;have jq:(af (ev ρ) o)=au f (c.args.map (ev ρ)):=by
    rw[tx];unfold ar;rw[hc];simp only[ev,Deferred.ofValue,pure,be,invoke,Array.append_empty,Array.empty_append]
   rw[jq];revert h;cases hb:gJ P f<;>intro h
   ·replace h:SS P o.type λv=>∃w',Ext P f (c.args.map (ev ρ)) w v w'/\K v w':=h
    obtain⟨v,w',hw,hk⟩:=yFw h;exact(by unfold nq;rw[show(au f (c.args.map (ev ρ))).run P w=_ from hw];exact hk)
   ·exact zWy hb h
  ·rename_i x hc;split at h<;>first|exact h.elim|skip
   rename_i f first cap hx
   have jq:(af (ev ρ) o)=au f (first++c.args.map (ev ρ)++cap):=by
    rw[tx];unfold ar;rw[hc];simp only[hx,Deferred.ofValue,pure,be,invoke]
   rw[jq];exact zWy h.1 h.2
  all_goals first|exact h.elim|skip
  ·rename_i hc;have jq:af (ev ρ) o=builtin .append c.argTypes o.type (c.args.map λ| .const _=>bo|_=>bu) (c.args.map (ev ρ)):=by
    rw[tx];unfold ar;rw[hc];rfl
   rw[jq];obtain⟨v,w',hw,hk⟩:=v7 h;exact yI hw hk
  ·rename_i hc;have jq:af (ev ρ) o=builtin .copy c.argTypes o.type (c.args.map λ| .const _=>bo|_=>bu) (c.args.map (ev ρ)):=by
    rw[tx];unfold ar;rw[hc];rfl
   rw[jq];obtain⟨v,w',hw,hk⟩:=vA h;exact yI hw hk
  ·rename_i hc;have jq:af (ev ρ) o=builtin .delete c.argTypes o.type (c.args.map λ| .const _=>bo|_=>bu) (c.args.map (ev ρ)):=by
    rw[tx];unfold ar;rw[hc];rfl
   rw[jq];obtain⟨w',hw,hk⟩:=h;exact yI hw hk
  ·rename_i hc;have jq:af (ev ρ) o=builtin .clear c.argTypes o.type (c.args.map λ| .const _=>bo|_=>bu) (c.args.map (ev ρ)):=by
    rw[tx];unfold ar;rw[hc];rfl
   rw[jq];obtain⟨w',hw,hk⟩:=h;exact yI hw hk
 all_goals(simp only[cI,ho]at h)
end Cv
namespace Cv
open Go
def Px:ap->Bool
 | .const (.pointer az)=>bo
 |_=>bu
def UQ (P:aa) (op:Op):Nat:=
 match op with
 | .load _ _=>1
 | .lookup _ _ _ _=>1
 | .convert s d _=>
   match P.underlying s,P.underlying d with
   |some .string,ay (.slice _)=>2
   |some (.slice _),ay .string=>1
   |_,_=>0
 | .binOp op t x y _=>
   match op,P.underlying t with
   | .eql,ay (.pointer _)=>bif Px y then 0 else 1
   | .neq,ay (.pointer _)=>bif Px y then 0 else 1
   |_,_=>0
 | .call c=>
   match c.callee with
   | .builtin .len=>
     match(c.argTypes[0]?).bind P.underlying with
     |some (.map _ _)=>1
     |_=>0
   | .builtin .cap=>0
   | .builtin .min=>0
   | .builtin .max=>0
   |_=>2
 | .alloc _=>2
 | .box _ _=>2
 | .buildSlice _ _ _=>2
 | .makeMap _ _=>2
 | .makeSlice _ _ _=>2
 | .store _ _ _=>2
 | .mapUpdate _ _ _ _=>2
 | .mapEntry _ _ _=>2
 | .entryStore _ _ _ _=>2
 | .range _ _=>2
 | .entry _=>1
 | .next _ _=>2
 |_=>0
def opV (P:aa) (o:aj) (ρ:Env) (w:ac) (K:ab->ac->Prop):Prop:=
 match UQ P o.op with
 |0=>bX P o ρ λv=>K v w
 |1=>A6 P o ρ w λv=>K v w
 |_=>cI P o ρ w K
def wX {P:aa} {s:Sem Next} {w w':ac} {v:ab} {K:ab->ac->Prop} (h:s.run P w= .ok (.value v) w') (hk:K v w'):nq P s w K:=by
 unfold nq;rw[h];exact hk
def yMw {P:aa} {o:aj} {ρ:Env} {w:ac} {K:ab->ac->Prop} (h:opV P o ρ w K):nq P (af (ev ρ) o) w K:=by
 unfold opV at h;split at h
 ·obtain⟨v,hk,hf⟩:=fS h;exact wX (hf w) hk
 ·obtain⟨v,hk,hf⟩:=yCx h;exact wX hf hk
 ·exact zYh h
def XB (ops:List aj) (j:Nat):Option Nat:=
 match ops[j]? with
 |some o=>o.dst
 |none=>az
def gd (c want:Bool) (Y N:Prop):Prop:=
 match c,want with
 |true,bo=>Y
 |false,bu=>Y
 |true,bu=>N
 |false,bo=>N
def Pu (ops:List aj) (g:Option (Nat×Bool)) (ρ:Env) (Y N:Env->Prop):Prop:=
 match g with
 |none=>Y ρ
 |some (j,want)=>
  match XB ops j with
  |none=>N ρ
  |some d=>
   match ρ d with
   | .bool c=>gd c want (Y (put ρ (ay d) (.bool want))) (N (put ρ (ay d) (.bool !want)))
   |_=>N ρ
def z7d {ρ:Env} {d:Nat} {v:ab} (h:ρ d=v):put ρ (ay d) v=ρ:=by
 funext i;simp only[put];cases hb:cw i d
 ·rfl
 ·have:=ji hb;subst this;exact h.symm
@[reducible] def yQ (a:Act):Env:=λi=>a.tmps.getD i ao
def vL (a:Act):ev (yQ a)=a.eval:=by
 funext x;cases x<;>rfl
def mi {a:Act} {dst:Option Nat} {v:ab} (h:∀d,dst=ay d->d<a.tmps.size):yQ (a.put dst v)=put (yQ a) dst v:=by
 cases dst with
 |none=>rfl
 |some d=>
  funext i;have:=h d rfl;simp only[yQ,Act.put,put];cases hb:cw i d
  ·have jy:i≠d:=λe=>by subst e;simp at hb
   simp[CO,XY (Ne.symm jy)]
  ·have e:=ji hb;subst e;simp[CO,XZ this]
def zJj (ops:List aj) (tmps:Array ab) (j:Nat):yielded ops.toArray tmps j=match XB ops j with
 |none=>az
 |some d=>match tmps[d]? with|some (.bool b)=>ay b|_=>az:=by
 unfold yielded XB;simp only[Bj];cases ops[j]? with
 |none=>rfl
 |some o=>
  obtain⟨dst,op,ty,pos,after,g⟩:=o;cases dst with
  |none=>rfl
  |some d=>
   simp only[Option.bind_some];cases tmps[d]? with
   |none=>rfl
   |some v=>cases v<;>rfl
def zAb {ops:List aj} {o:aj} {a:Act} {Y N:Env->Prop} (h:Pu ops o.guard (yQ a) Y N):
 if co o (yielded ops.toArray a.tmps)then Y (yQ a)else N (yQ a):=by
 unfold Pu at h;unfold co;split at h
 ·rename_i hg;rw[hg];exact h
 ·rename_i j want hg;rw[hg];have hy:=zJj ops a.tmps j;split at h
  ·rename_i hd;rw[hd]at hy;simp only[hy];simpa using h
  ·rename_i d hd;rw[hd]at hy;simp only[hy];have hv:yQ a d=(a.tmps[d]?).getD ao:=by simp[yQ,CO]
   rw[hv]at h;cases ht:a.tmps[d]? with
   |none=>
    rw[ht]at h;simpa[ao]using h
   |some v=>
    rw[ht]at h hv;simp only[Ae]at h hv;cases v with
    |bool c=>
     simp only[]at h ⊢;have hs:∀b,c=b->put (yQ a) (ay d) (.bool b)=yQ a:=λb hb=>z7d (by rw[hv,hb])
     cases c<;>cases want<;>simp only[gd,Bool.not_true,J9]at h<;>rw[hs _ rfl]at h<;>simpa using h
    |_=>simpa using h
def Rm (P:aa) (ops:List aj):List aj->Env->ac->(Env->ac->Prop)->Prop
 |[],ρ,w,K=>K ρ w
 |o::rest,ρ,w,K=>
  Pu ops o.guard ρ (λρ=>opV P o ρ w λv w'=>Rm P ops rest (put ρ o.dst v) w' K) (λρ=>Rm P ops rest (put ρ o.dst ao) w K)
def JI (n:Nat) (A:Nat->Bool) (ops:List aj):Prop:=∀o∈ops,∀d,o.dst=ay d->d<n/\A d=bo
structure Good (n:Nat) (A:Nat->Bool) (e0:Env) (a:Act):Prop where
 size:a.tmps.size=n
 defers:a.defers=[]
 same:∀s,A s=bu->yQ a s=e0 s
def z3p (a:Act) (d:Option Nat) (v:ab):(a.put d v).tmps.size=a.tmps.size/\(a.put d v).defers=a.defers:=by
 cases d<;>simp[Act.put]
def Good.mi {n:Nat} {A:Nat->Bool} {e0:Env} {a:Act} (h:Good n A e0 a) {dst:Option Nat} (hd:∀d,dst=ay d->d<n/\A d=bo) (v:ab):
 yQ (a.put dst v)=put (yQ a) dst v:=Cv.mi λd oU=>by rw[h.size];exact(hd d oU).1
def Good.put {n:Nat} {A:Nat->Bool} {e0:Env} {a:Act} (h:Good n A e0 a) {dst:Option Nat} (hd:∀d,dst=ay d->d<n/\A d=bo) (v:ab):Good n A e0 (a.put dst v):=by
 refine⟨(z3p _ _ _).1.trans h.size,(z3p _ _ _).2.trans h.defers,λs hs=> ?_⟩;rw[h.mi hd];cases dst with
 |none=>exact h.same s hs
 |some d=>
  simp only[Cv.put];cases hb:cw s d
  ·exact h.same s hs
  ·have e:=ji hb;subst e;have:=(hd s rfl).2;rw[hs]at this;cases this
def zGf {P:aa} {o:aj} {a:Act} {w:ac} {K:Act->ac->Prop} {Q:Exit->Act->ac->Prop}
 (h:nq P (af a.eval o) w λv w'=>K (a.put o.dst v) w'):o.wp P a w K Q:=by
 unfold nq at h;unfold Oper.wp;split at h
 ·rename_i v w' hr;rw[hr];exact h
 ·rename_i w' hr;rw[hr];exact h
 ·rename_i f args w' hr;rw[hr];exact h.mono λe X0 ⟨v,he,hk⟩=>by subst he;exact hk
 ·exact h.elim
def zUm {P:aa} {ops:List aj} {n:Nat} {A:Nat->Bool} {e0:Env} {Q:Exit->Act->ac->Prop} {K:Env->ac->Prop}
 (hQ:∀a w,Good n A e0 a->K (yQ a) w->Q .normal a w):
 ∀(l:List aj) (a:Act) (w:ac),JI n A l->Good n A e0 a->Rm P ops l (yQ a) w K->wpList P ops.toArray Q l a w
 |[],a,w,_,hg,h=>hQ a w hg h
 |o::l,a,w,hf,qx,h=>by
  have yl:=hf o iY;have hf':JI n A l:=λo' oK=>hf o' (jj _ oK)
  have hg:=zAb h;have nx:∀{v:ab} {w:ac},Rm P ops l (put (yQ a) o.dst v) w K->wpList P ops.toArray Q l (a.put o.dst v) w:=λ{v w} hh=>
   zUm hQ l _ _ hf' (qx.put yl v) (by rw[qx.mi yl];exact hh)
  unfold wpList;split
  ·rename_i hw;rw[fh hw]at hg;left;refine zGf ?_;have:=yMw hg;rw[vL]at this;unfold nq at this ⊢;split at this
   ·exact nx this
   ·exact nx this
   ·exact this.mono λe X0 ⟨v,he,hk⟩=>⟨v,he,nx hk⟩
   ·exact this
  ·rename_i hw;rw[eg hw]at hg;exact nx hg
end Cv
namespace Cv
open Go
def yRx (acc:List Nat) (o:aj):Nat:=
 o.after.toList.foldl (λs e=>bif cm .any e then s|||2 ^ e.on|||acc.getD e.on 0 else s) 0
def gT:List aj->List Nat->List Nat
 |[],acc=>acc
 |o::rest,acc=>gT rest (acc++[yRx acc o])
def Bt (bf:List Nat) (i r:Nat):Bool:=(bf.getD i 0).testBit r
def eH (ops:List aj) (L:Nat->Prop):Prop:=∀i o,ops[i]?=ay o->L i->∀e∈o.after,cm .any e=bo->L e.on
def zZq {ops:List aj} {acc:List Nat} {L:Nat->Prop} (C7:∀k,L k->∀r,(acc.getD k 0).testBit r=bo->L r):
 ∀(l:List Edge) (s:Nat),(∀r,s.testBit r=bo->L r)->(∀e∈l,cm .any e=bo->L e.on)->
  ∀r,(l.foldl (λs e=>bif cm .any e then s|||2 ^ e.on|||acc.getD e.on 0 else s) s).testBit r=bo->L r
 |[],s,hs,_,r,h=>hs r h
 |e::l,s,hs,hl,r,h=>by
  refine zZq (ops:=ops) C7 l _ ?_ (λe' rp=>hl e' (jj _ rp)) r h;intro r hr;dsimp only at hr;cases hb:cm .any e
  ·rw[hb]at hr;exact hs r hr
  ·have Yk:=hl e (by simp) hb;rw[hb]at hr;simp only[cond_true,Nat.testBit_or,Nat.testBit_two_pow,Ma,ua]at hr;rcases hr with(hr|hr)|hr
   ·exact hs r hr
   ·exact hr▸Yk
   ·exact C7 _ Yk r hr
def Ay {ops:List aj} {L:Nat->Prop} (hc:eH ops L):∀(l:List aj) (acc:List Nat),(∀j,l[j]? =ops[acc.length+j]?)->
 (∀k o,k<acc.length->ops[k]? =ay o->(∀e∈o.after,cm .any e=bo->L e.on)->∀r,(acc.getD k 0).testBit r=bo->L r)->
 ∀k o,ops[k]? =ay o->(∀e∈o.after,cm .any e=bo->L e.on)->∀r,((gT l acc).getD k 0).testBit r=bo->L r
 |[],acc,hl,C7,k,o,ho,hd,r,hr=>by
  by_cases hk:k<acc.length
  ·exact C7 k o hk ho hd r hr
  ·exfalso;have:=hl (k-acc.length);rw[show acc.length+(k-acc.length)=k by omega,ho]at this;simp at this
 |o::l,acc,hl,C7,k,o',oK,hd,r,hr=>by
  refine Ay hc l (acc++[yRx acc o]) ?_ ?_ k o' oK hd r hr
  ·intro j;have:=hl (j+1);simp only[ix,iG,uj];rw[show acc.length+(0+1)+j=acc.length+(j+1)by omega];simpa using this
  ·intro k2 o2 o5 O6 AJ r2 xz;have Ur:∀k,L k->∀r,(acc.getD k 0).testBit r=bo->L r:=by
    intro k3 hL r3 h3;by_cases IY:k3<acc.length
    ·cases ho3:ops[k3]? with
     |none=>
      exfalso;have:=hl 0;simp only[FJ]at this;rw[XV]at ho3;have h4:acc.length<ops.length:=by
       rcases vh acc.length ops.length with h|h
       ·exact h
       ·rw[uv h]at this;simp at this
      omega
     |some o3=>exact C7 k3 o3 IY ho3 (hc k3 o3 ho3 hL) r3 h3
    ·simp[mz,uv (Nat.not_lt.1 IY)]at h3
   by_cases hk:k2<acc.length
   ·rw[mz,Ek hk,<- mz]at xz;exact C7 k2 o2 hk O6 AJ r2 xz
   ·have qc:k2=acc.length:=by simp at o5;omega
    subst qc;rw[mz,Ck (jx _)]at xz;simp only[J6,CM,Ae]at xz;have h0:=hl 0;simp only[CM,FJ]at h0;rw[O6]at h0;cases h0;exact zZq (ops:=ops) Ur _ 0 (by simp) (λe he hb=>AJ e (i9 he) hb) r2 xz
def yAk {ops:List aj} {L:Nat->Prop} (hc:eH ops L) {i:Nat} {o:aj} (ho:ops[i]? =ay o) (hd:∀e∈o.after,cm .any e=bo->L e.on)
 {r:Nat} (h:Bt (gT ops []) i r=bo):L r:=
 Ay hc ops [] (by simp) (by simp) i o ho hd r h
@[reducible] def Mon:=Nat×(ac->Prop)
def jZ (bf:List Nat) (i:Nat) (M:List Mon):List Mon:=M.filter λm=> !Bt bf i m.1
def FA (M:List Mon) (w:ac):Prop:=∀m∈M,m.2 w
def EM (P:aa) (ops:Array aj) (i:Nat) (K:Act->ac->Prop) (a:Act) (w:ac):Prop:=
 match ops[i]? with
 |none=>K a w
 |some o=>if co o (yielded ops a.tmps)then nq P (af a.eval o) w (λv w'=>K (a.put o.dst v) w')else K (a.put o.dst ao) w
def nq.mono {P:aa} {s:Sem Next} {w:ac} {K K':ab->ac->Prop} (h:nq P s w K) (hk:∀v w',K v w'->K' v w'):nq P s w K':=by
 unfold nq at*;split at h
 ·exact hk _ _ h
 ·exact hk _ _ h
 ·exact h.mono λe X0 ⟨v,he,h⟩=>⟨v,he,hk _ _ h⟩
 ·exact h
def WC {P:aa} {ops:Array aj} {i:Nat} {K K':Act->ac->Prop} {a:Act} {w:ac} (h:EM P ops i K a w) (hk:∀a w,K a w->K' a w):EM P ops i K' a w:=by
 unfold EM at*;split
 ·rename_i ho;simp only[ho]at h;exact hk _ _ h
 ·rename_i o ho;simp only[ho]at h;split
  ·rename_i hw;rw[fh hw]at h;exact h.mono λv w'=>hk _ _
  ·rename_i hw;rw[eg hw]at h;exact hk _ _ h
def Dl (P:aa) (ops:Array aj) (bf:List Nat) (Q:Act->ac->Prop):Nat->List Mon->Array Bool->Act->ac->Prop
 |0,_,fu,a,w=>cg .any ops fu=[]/\Q a w
 |fuel+1,M,fu,a,w=>
  (cg .any ops fu=[]->Q a w)/\
  ∀i∈cg .any ops fu,EM P ops i (λa' w'=>FA (jZ bf i M) w'/\Dl P ops bf Q fuel (jZ bf i M) (fu.setIfInBounds i bo) a' w') a w
def zYc {bf:List Nat} {i:Nat} {M M':List Mon} (h:∀m∈M',m∈M):∀m∈jZ bf i M',m∈jZ bf i M:=by
 intro m hm;simp only[jZ,vi]at hm ⊢;exact⟨h m hm.1,hm.2⟩
def z8h {P:aa} {ops:Array aj} {bf:List Nat} {Q:Act->ac->Prop}:∀(fuel:Nat) {M M':List Mon} (fu:Array Bool) (a:Act) (w:ac),
 (∀m∈M',m∈M)->Dl P ops bf Q fuel M fu a w->Dl P ops bf Q fuel M' fu a w
 |0,_,_,_,_,_,_,h=>h
 |fuel+1,M,M',fu,a,w,hs,h=>⟨h.1,λi hi=>WC (h.2 i hi) λa' w' hh=>
   ⟨λm hm=>hh.1 m (zYc hs m hm),z8h fuel _ _ _ (zYc hs) hh.2⟩⟩
def fF {P:aa} {ops:Array aj} {bf:List Nat} {Q:Act->ac->Prop} {Q':Exit->Act->ac->Prop} (hQ:∀a w,Q a w->Q' .normal a w):
 ∀(fuel:Nat) {M:List Mon} (fu:Array Bool) (a:Act) (w:ac),Dl P ops bf Q fuel M fu a w->wpAny P .any ops Q' fuel fu a w
 |0,_,_,_,_,h=>⟨h.1,hQ _ _ h.2⟩
 |fuel+1,M,fu,a,w,h=>⟨λh0=>hQ _ _ (h.1 h0),λi hi=>by
   have:=h.2 i hi;unfold EM at this;unfold wpOp;split
   ·rename_i ho;simp only[ho]at this;exact fF hQ fuel _ _ _ this.2
   ·rename_i o ho;simp only[ho]at this;split
    ·rename_i hw;rw[fh hw]at this;exact .inl (zGf (this.mono λv w' hh=>fF hQ fuel _ _ _ hh.2))
    ·rename_i hw;rw[eg hw]at this;exact fF hQ fuel _ _ _ this.2⟩
def lN (P:aa) (ops:Array aj) (o:aj) (v:ab) (a:Act) (w:ac):Prop:=
 (co o (yielded ops a.tmps)=bo/\(af a.eval o).run P w=.ok (.value v) w)\/(co o (yielded ops a.tmps)=bu/\v=ao)
def zWl {P:aa} {ops:Array aj} {i:Nat} {o:aj} {v:ab} {a:Act} {w:ac} {K:Act->ac->Prop} (hi:ops[i]? =ay o) (h:lN P ops o v a w) (hk:K (a.put o.dst v) w):EM P ops i K a w:=by
 unfold EM;simp only[hi];rcases h with⟨hw,hr⟩|⟨hw,rfl⟩
 ·rw[fh hw];exact wX hr hk
 ·rw[eg (by rw[hw];simp)];exact hk
def yLy {fu:Array Bool} {i:Nat} (h:fu.getD i bo=bu):i<fu.size:=by
 rcases vh i fu.size with h'|h'
 ·exact h'
 ·simp[CO,HM h']at h
def qV (fu:Array Bool) (i:Nat):Prop:=fu.getD i bu=bo
def zJw {fu:Array Bool} {i j:Nat} (h:qV fu j):qV (fu.setIfInBounds i bo) j:=by
 unfold qV at*;by_cases Ks:i=j
 ·subst Ks;have:i<fu.size:=by
   rcases vh i fu.size with h'|h'
   ·exact h'
   ·simp[CO,HM h']at h
  simp[CO,XZ this]
 ·simpa[CO,XY Ks]using h
def zLo {fu:Array Bool} {i j:Nat} (h:qV (fu.setIfInBounds i bo) j):j=i\/qV fu j:=by
 unfold qV at*;by_cases Ks:i=j
 ·exact .inl Ks.symm
 ·right;simpa[CO,XY Ks]using h
def zVd {fu:Array Bool} {i:Nat} (h:fu.getD i bo=bu):¬qV fu i:=by
 unfold qV;have:=yLy h;simp only[CO,RU this]at h ⊢;simp at h ⊢;exact h
def hZ {ops:List aj} {fu:Array Bool} (hc:eH ops (qV fu)) {i:Nat} (hi:i∈cg .any ops.toArray fu):eH ops (qV (fu.setIfInBounds i bo)):=by
 intro j o ho hj e he hb;rcases zLo hj with rfl|hj
 ·obtain⟨_,o',oK,tp⟩:=mem_ready.1 hi;simp only[Bj]at oK;rw[ho]at oK;cases oK;exact zJw (tp e he hb)
 ·exact zJw (hc j o ho hj e he hb)
def lL (ops:List aj) (bf:List Nat):Bool:=
 Region.noSelect ops.toArray && (db ops.length).all λi=>(db i).all λj=>
  match ops[i]?,ops[j]? with
  |some oi,ay oj=>Bt bf i j||(oi.apart ops.toArray oj && oj.apart ops.toArray oi)
  |_,_=>bo
def z7u {ops:List aj} {bf:List Nat} (h:lL ops bf=bo) {i j:Nat} {oi oj:aj} (hi:ops[i]? =ay oi) (hj:ops[j]? =ay oj) (jy:i≠j)
 (h1:Bt bf i j=bu) (h2:Bt bf j i=bu):oi.apart ops.toArray oj=bo:=by
 simp only[lL,lu,Ej,CJ]at h;have lt:∀{k:Nat} {o:aj},ops[k]? =ay o->k<ops.length:=λ{k o} hk=>by
  rcases vh k ops.length with h'|h'
  ·exact h'
  ·rw[uv h']at hk;cases hk
 rcases Nat.lt_or_gt_of_ne jy with gr|gr
 ·have:=h.2 j (lt hj) i gr;simp only[hi,hj,h2,L8,lu]at this;exact this.2
 ·have:=h.2 i (lt hi) j gr;simp only[hi,hj,h1,L8,lu]at this;exact this.1
def yOh {P:aa} {ops:Array aj} {o:aj} {v u:ab} {a:Act} {w:ac} {d:Option Tmp} (hs:∀cs b,o.op≠.select cs b) (hd:∀t,d=ay t->t∉o.looksAt ops):
 lN P ops o v (a.put d u) w↔lN P ops o v a w:=by
 unfold lN;rw[execOp_put o hs a d u hd,wanted_put o a d u hd]
def yRc {P:aa} {ops:Array aj} {j:Nat} {oi oj:aj} {v:ab} (hj:ops[j]? =ay oj) (Kv:oi.apart ops oj=bo) (hsj:∀cs b,oj.op≠.select cs b)
 {K:Act->ac->Prop} {a:Act} {w:ac} (h:EM P ops j K (a.put oi.dst v) w):
 EM P ops j (λa' w'=>(∃u,a'=a.put oj.dst u)/\K (a'.put oi.dst v) w') a w:=by
 obtain⟨h1,h2,h3⟩:=Oper.apart_spec Kv;unfold EM at*;simp only[hj]at*;rw[wanted_put oj a oi.dst v h1]at h;split
 ·rename_i hw;rw[fh hw]at h;rw[execOp_put oj hsj a oi.dst v h1]at h;refine h.mono λu w' hk=>⟨⟨u,rfl⟩,?_⟩
  rw[<- Act.put_comm a v u h2];exact hk
 ·rename_i hw;rw[eg hw]at h;exact⟨⟨_,rfl⟩,by rw[<- Act.put_comm a v ao h2];exact h⟩
def fW {P:aa} {ops:List aj} {Q:Act->ac->Prop} (oZ:lL ops (gT ops [])=bo) {r:Nat} {o:aj} {v:ab} (hr:ops[r]? =ay o):
 ∀(fuel:Nat) (M:List Mon) (fu:Array Bool) (a:Act) (w:ac),eH ops (qV fu)->r∈cg .any ops.toArray fu->
  lN P ops.toArray o v a w->FA M w->
  Dl P ops.toArray (gT ops []) Q fuel ((r,λw=>lN P ops.toArray o v a w)::M) (fu.setIfInBounds r bo) (a.put o.dst v) w->
  Dl P ops.toArray (gT ops []) Q (fuel+1) M fu a w:=by
 have hns:∀(i:Nat) (o:aj),ops[i]? =ay o->∀cs b,o.op≠.select cs b:=by
  intro i o hi cs b;simp only[lL,lu]at oZ;exact Region.noSelect_spec oZ.1 i o cs b (i9 hi)
 intro fuel
 induction fuel with
 |zero=>
  intro M fu a w hc IT hs hM H;refine⟨λh=>(by rw[h]at IT;cases IT),λi hi=> ?_⟩;by_cases Kr:i=r
  ·subst Kr;refine zWl (i9 hr) hs ⟨λm hm=>hM m (by simp only[jZ,vi]at hm;exact hm.1),?_⟩;exact H
  ·have:=ready_mono hi Kr;rw[H.1]at this;cases this
 |succ fuel ih=>
  intro M fu a w hc IT hs hM H;refine⟨λh=>(by rw[h]at IT;cases IT),λi hi=> ?_⟩;by_cases Kr:i=r
  ·subst Kr;refine zWl (i9 hr) hs ⟨λm hm=>hM m (by simp only[jZ,vi]at hm;exact hm.1),?_⟩;refine z8h _ _ _ _ ?_ H;intro m hm;simp only[jZ,vi]at hm;exact jj _ hm.1
  ·have h1:=H.2 i (ready_mono hi Kr);obtain⟨aaL,oi,Sq,tp⟩:=mem_ready.1 hi;obtain⟨jq,o',oK,Um⟩:=mem_ready.1 IT;simp only[Bj]at Sq oK;rw[hr]at oK;cases oK;have hL:∀(k:Nat) (ok:aj),ops[k]? =ay ok->(∀e∈ok.after,cm .any e=bo->fu.getD e.on bu=bo)->∀q,Bt (gT ops []) k q=bo->qV fu q:=
    λk ok hk hd q hq=>yAk hc hk hd hq
   have nri:Bt (gT ops []) i r=bu:=by
    cases hb:Bt (gT ops []) i r with
    |false=>rfl
    |true=>exact absurd (hL i oi Sq tp r hb) (zVd jq)
   have nir:Bt (gT ops []) r i=bu:=by
    cases hb:Bt (gT ops []) r i with
    |false=>rfl
    |true=>exact absurd (hL r o hr Um i hb) (zVd aaL)
   have Kv:=z7u oZ hr Sq (Ne.symm Kr) nir nri;have h2:=yRc (i9 Sq) Kv (hns i oi Sq) h1;have aaS:=(Oper.apart_spec Kv).2.2;have Ut:jZ (gT ops []) i ((r,λw=>lN P ops.toArray o v a w)::M)=(r,λw=>lN P ops.toArray o v a w)::jZ (gT ops []) i M:=by
    simp[jZ,nri]
   refine WC h2 λa' w' hh=> ?_
   obtain⟨⟨u,rfl⟩,hA,hB⟩:=hh;rw[Ut]at hA hB;have iQ:∀w,lN P ops.toArray o v (a.put oi.dst u) w↔lN P ops.toArray o v a w:=λw=>yOh (hns r o hr) aaS
   refine⟨λm hm=>hA m (jj _ hm),?_⟩;have aaO:(λw=>lN P ops.toArray o v a w)=λw=>lN P ops.toArray o v (a.put oi.dst u) w:=by
    funext w;exact propext (iQ w).symm
   rw[aaO]at hA hB;refine ih _ _ _ _ (hZ hc hi) (ready_mono IT (Ne.symm Kr)) (hA _ iY) (λm hm=>hA m (jj _ hm)) ?_;rw[Array.setIfInBounds_comm _ _ Kr];exact hB
end Cv
namespace Cv
open Go
def EW (P:aa) (o:aj) (ρ:Env) (v:ab) (w:ac):Prop:=
 match o.op with
 | .load t x=>
   match ev ρ x with
   | .pointer p=>JW p λa=>pX P t a w v
   |_=>False
 | .lookup t m k ok=>bC P (cq t (ev ρ m) (ev ρ k) ok) w v
 | .convert s d x=>bC P (ax s d (ev ρ x)) w v
 | .binOp op t x y _=>bC P (do ak op t x y (ev ρ x) (ev ρ y);binOp op t (ev ρ x) (ev ρ y)) w v
 | .call {callee:= .builtin .len,args,argTypes}=>bC P (ce argTypes o.type (args.map (ev ρ))) w v
 | .entry x=>bC P (Instr.entry (ev ρ x)) w v
 |_=>False
def yKz {P:aa} {o:aj} {ρ:Env} {v:ab} {w:ac} (h:EW P o ρ v w):(af (ev ρ) o).run P w= .ok (.value v) w:=by
 unfold EW at h;split at h
 ·rename_i t x ho;split at h
  ·rename_i p hx;obtain⟨a,rfl,h⟩:=rY h;simp only[af,ho,hx];exact yK h
  ·exact h.elim
 ·rename_i t m k ok ho;simp only[af,ho];exact yK h
 ·rename_i s d x ho;simp only[af,ho];exact yK h
 ·rename_i op t x y u ho;simp only[af,ho];exact yK h
 ·rename_i args argTypes ho;simp only[af,ho];exact yK h
 ·rename_i x ho;simp only[af,ho];exact yK h
 ·exact h.elim
def yCb {P:aa} {ρ:Env} {o:aj} {w:ac} {K:ab->Prop} (h:A6 P o ρ w K):∃v,K v/\EW P o ρ v w:=by
 cases ho:o.op
 case load t x=>
  simp only[A6,ho]at h;split at h
  ·rename_i p hx;obtain⟨a,rfl,h⟩:=rY h;obtain⟨v,hv,h⟩:=v7 h;refine⟨v,h,?_⟩;simp only[EW,ho,hx];exact hv
  ·exact h.elim
 case lookup t m k ok=>
  simp only[A6,ho]at h;split at h
  ·rename_i e he;obtain⟨v,h⟩:=v7 h;obtain⟨b,hb,h⟩:=vA h;refine⟨_,h,?_⟩;simp only[EW,ho];cases ok
   ·exact zOt hb
   ·exact hb
  ·exact h.elim
 case convert s d x=>
  simp only[A6,ho]at h;obtain⟨v,hv,h⟩:=v7 h;refine⟨v,h,?_⟩;simp only[EW,ho];exact hv
 case binOp op t x y u=>
  simp only[A6,ho]at h;split at h
  ·obtain⟨v,h1,h2,h⟩:=vA h;refine⟨v,h,?_⟩;simp only[EW,ho,bC,bind,run_bind,h2];exact h1
  ·obtain⟨v,h1,h2,h⟩:=vA h;refine⟨v,h,?_⟩;simp only[EW,ho,bC,bind,run_bind,h2];exact h1
  ·exact h.elim
 case call c=>
  simp only[A6,ho]at h;split at h<;>first|exact h.elim|skip
  all_goals first|(exfalso;rename_i hh;cases hh;done)|skip
  rename_i args argTypes hh;cases hh;obtain⟨v,hv,h⟩:=vA h;refine⟨v,h,?_⟩;simp only[EW,ho];exact hv
 case entry x=>
  simp only[A6,ho]at h;obtain⟨v,hv,h⟩:=h;refine⟨v,h,?_⟩;simp only[EW,ho];exact hv
 all_goals(simp only[A6,ho]at h)
def z9u:List Mon->ac->Prop->Prop
 |[],_,X=>X
 |m::ms,w,X=>m.2 w/\z9u ms w X
def zSp:∀{M:List Mon} {w:ac} {X:Prop},z9u M w X->FA M w/\X
 |[],_,_,h=>⟨λm hm=>(by cases hm),h⟩
 |m::ms,w,X,h=>by
  obtain⟨h1,h2⟩:=h;obtain⟨h3,h4⟩:=zSp h2;refine⟨λm' hm=> ?_,h4⟩;rcases j'.1 hm with rfl|hm
  ·exact h1
  ·exact h3 _ hm
def Xq:List Nat->(Nat->Prop)->Prop
 |[],_=>True
 |[e],f=>f e
 |e::es,f=>f e/\Xq es f
def Y':∀{l:List Nat} {f:Nat->Prop},Xq l f->∀i∈l,f i
 |[],_,_,i,hi=>by cases hi
 |[e],f,h,i,hi=>by rcases tq.1 hi with rfl;exact h
 |e::e'::es,f,h,i,hi=>by
  rcases j'.1 hi with rfl|hi
  ·exact h.1
  ·exact Y' h.2 i hi
def y0e (P:aa) (ops:List aj) (i:Nat):Bool:=
 match ops[i]? with
 |some o=>match UQ P o.op with
  |2=>bu
  |_=>bo
 |none=>bo
def HH (P:aa) (ops:List aj) (bf:List Nat):Nat->Array Bool->List Mon->Env->ac->(Env->ac->Prop)->Prop
 |0,fu,_,ρ,w,K=>
  match cg .any ops.toArray fu with
  |[]=>K ρ w
  |_=>False
 |fuel+1,fu,M,ρ,w,K=>
  match cg .any ops.toArray fu with
  |[]=>K ρ w
  |r::rs=>
   match(r::rs).find? (y0e P ops)with
   |some i=>
    match ops[i]? with
    |none=>False
    |some o=>Pu ops o.guard ρ
      (λρ'=>match UQ P o.op with
        |0=>bX P o ρ' λv=>HH P ops bf fuel (fu.setIfInBounds i bo) M (put ρ' o.dst v) w K
        |_=>A6 P o ρ' w λv=>HH P ops bf fuel (fu.setIfInBounds i bo) ((i,EW P o ρ' v)::M) (put ρ' o.dst v) w K)
      (λρ'=>HH P ops bf fuel (fu.setIfInBounds i bo) M (put ρ' o.dst ao) w K)
   |none=>Xq (r::rs) λi=>
    match ops[i]? with
    |none=>False
    |some o=>Pu ops o.guard ρ
      (λρ'=>cI P o ρ' w λv w'=>z9u (jZ bf i M) w' (HH P ops bf fuel (fu.setIfInBounds i bo) (jZ bf i M) (put ρ' o.dst v) w' K))
      (λρ'=>HH P ops bf fuel (fu.setIfInBounds i bo) (jZ bf i M) (put ρ' o.dst ao) w K)
def nW {n:Nat} {A:Nat->Bool} {l:List aj} (h:JI n A l) {i:Nat} {o:aj} (ho:l[i]? =ay o):∀d,o.dst=ay d->d<n/\A d=bo:=
 h o (kx ho)
def nR {P:aa} {ops:Array aj} {bf:List Nat} {Q:Act->ac->Prop} {i:Nat} {f:ac->Prop} (hf:∀w,f w):
 ∀(fuel:Nat) {M:List Mon} (fu:Array Bool) (a:Act) (w:ac),Dl P ops bf Q fuel M fu a w->Dl P ops bf Q fuel ((i,f)::M) fu a w
 |0,_,_,_,_,h=>h
 |fuel+1,M,fu,a,w,h=>⟨h.1,λj hj=>WC (h.2 j hj) λa' w' hh=>by
   have hk:jZ bf j ((i,f)::M)=if Bt bf j i then jZ bf j M else(i,f)::jZ bf j M:=by
    simp only[jZ,Dt];cases Bt bf j i<;>simp
   rw[hk];cases Bt bf j i
   ·refine⟨λm hm=> ?_,nR hf fuel _ _ _ hh.2⟩;simp only[oS,if_false,j']at hm;rcases hm with rfl|hm
    ·exact hf w'
    ·exact hh.1 m hm
   ·exact hh⟩
def z3l {P:aa} {ops:Array aj} {bf:List Nat} {Q:Act->ac->Prop} {i:Nat} {f g:ac->Prop} (hfg:∀w,f w->g w):
 ∀(fuel:Nat) {M:List Mon} (fu:Array Bool) (a:Act) (w:ac),Dl P ops bf Q fuel ((i,f)::M) fu a w->Dl P ops bf Q fuel ((i,g)::M) fu a w
 |0,_,_,_,_,h=>h
 |fuel+1,M,fu,a,w,h=>⟨h.1,λj hj=>WC (h.2 j hj) λa' w' hh=>by
   have hk:∀f:ac->Prop,jZ bf j ((i,f)::M)=if Bt bf j i then jZ bf j M else(i,f)::jZ bf j M:=by
    intro f;simp only[jZ,Dt];cases Bt bf j i<;>simp
   rw[hk]at hh ⊢;cases hb:Bt bf j i
   ·rw[hb]at hh;simp only[oS,if_false]at hh ⊢;refine⟨λm hm=> ?_,z3l hfg fuel _ _ _ hh.2⟩;rcases j'.1 hm with rfl|hm
    ·exact hfg w' (hh.1 _ iY)
    ·exact hh.1 m (jj _ hm)
   ·rw[hb]at hh;exact hh⟩
def z8t {P:aa} {ops:List aj} {n:Nat} {A:Nat->Bool} {e0:Env} {K:Env->ac->Prop} {Q:Act->ac->Prop} (oZ:lL ops (gT ops [])=bo) (hf:JI n A ops)
 (hQ:∀a w,Good n A e0 a->K (yQ a) w->Q a w):
 ∀(fuel:Nat) (fu:Array Bool) (M:List Mon) (a:Act) (w:ac),eH ops (qV fu)->FA M w->Good n A e0 a->
  HH P ops (gT ops []) fuel fu M (yQ a) w K->Dl P ops.toArray (gT ops []) Q fuel M fu a w:=by
 intro fuel
 induction fuel with
 |zero=>
  intro fu M a w hc hM qx h;unfold HH at h;split at h
  ·rename_i hr;exact⟨hr,hQ a w qx h⟩
  ·exact h.elim
 |succ fuel ih=>
  intro fu M a w hc hM qx h;unfold HH at h;split at h
  ·rename_i hr;exact⟨λ_=>hQ a w qx h,λi hi=>by rw[hr]at hi;cases hi⟩
  ·rename_i r rs hr;have jy:cg .any ops.toArray fu≠[]:=by rw[hr];simp
   split at h
   ·rename_i i Gr;have hi:i∈cg .any ops.toArray fu:=by rw[hr];exact List.mem_of_find?_eq_some Gr
    split at h<;>first|exact h.elim|skip
    rename_i o ho;have zw:∀v,yQ (a.put o.dst v)=put (yQ a) o.dst v:=λv=>qx.mi (nW hf ho) v
    have hg:=zAb h;have nx:∀{M:List Mon} {v:ab},FA M w->HH P ops (gT ops []) fuel (fu.setIfInBounds i bo) M (put (yQ a) o.dst v) w K->
     Dl P ops.toArray (gT ops []) Q fuel M (fu.setIfInBounds i bo) (a.put o.dst v) w:=λ{M v} hM hh=>
     ih _ _ _ _ (hZ hc hi) hM (qx.put (nW hf ho) _) (by rw[zw];exact hh)
    by_cases hw:co o (yielded ops.toArray a.tmps)=bo
    ·rw[fh hw]at hg;split at hg
     ·obtain⟨v,hk,ve⟩:=fS hg;rw[vL]at ve;have hs:∀w,lN P ops.toArray o v a w:=λw=> .inl ⟨hw,ve w⟩
      exact fW oZ ho fuel M fu a w hc hi (hs w) hM (nR hs fuel _ _ _ (nx hM hk))
     ·obtain⟨v,hk,lr⟩:=yCb hg;have hw':∀w,EW P o (yQ a) v w->lN P ops.toArray o v a w:=λw lr=> .inl ⟨hw,by rw[<- vL];exact yKz lr⟩
      refine fW oZ ho fuel M fu a w hc hi (hw' w lr) hM (z3l hw' fuel _ _ _ (nx ?_ hk));intro m hm;rcases j'.1 hm with rfl|hm
      ·exact lr
      ·exact hM m hm
    ·rw[eg hw]at hg;have hs:∀w,lN P ops.toArray o ao a w:=λw=> .inr ⟨i9 hw,rfl⟩
     exact fW oZ ho fuel M fu a w hc hi (hs w) hM (nR hs fuel _ _ _ (nx hM hg))
   ·refine⟨λh0=>absurd h0 jy,λi hi=> ?_⟩;have h1:=Y' h i (by rw[<- hr];exact hi);split at h1<;>first|exact h1.elim|skip
    rename_i o ho;have zw:∀v,yQ (a.put o.dst v)=put (yQ a) o.dst v:=λv=>qx.mi (nW hf ho) v
    have hg:=zAb h1;unfold EM;simp only[Bj,ho];by_cases hw:co o (yielded ops.toArray a.tmps)=bo
    ·rw[fh hw]at hg ⊢;have B5:=zYh hg;rw[vL]at B5;refine B5.mono λv w' hh=> ?_
     obtain⟨DD,hh⟩:=zSp hh;exact⟨DD,ih _ _ _ _ (hZ hc hi) DD (qx.put (nW hf ho) _) (by rw[zw];exact hh)⟩
    ·rw[eg hw]at hg ⊢;have DD:FA (jZ (gT ops []) i M) w:=λm hm=>hM m (by simp only[jZ,vi]at hm;exact hm.1)
     exact⟨DD,ih _ _ _ _ (hZ hc hi) DD (qx.put (nW hf ho) _) (by rw[zw];exact hg)⟩
end Cv
namespace Cv
open Go
structure RD where
 ι:Type
 SW:ι->List (Nat×ab)
 fix:List Nat
def J5:List (Nat×ab)->Env->Prop
 |[],_=>True
 |[p],ρ=>ρ p.1=p.2
 |p::l,ρ=>ρ p.1=p.2/\J5 l ρ
def EL {p:Nat×ab} {l:List (Nat×ab)} {ρ:Env}:J5 (p::l) ρ↔ρ p.1=p.2/\J5 l ρ:=by
 cases l<;>simp[J5]
def XF:List (Nat×ab)->Env->Env
 |[],ρ=>ρ
 |p::l,ρ=>put (XF l ρ) (ay p.1) p.2
def zXb:∀{l:List (Nat×ab)} {ρ:Env},J5 l ρ->XF l ρ=ρ
 |[],_,_=>rfl
 |p::l,ρ,h=>by
  have h:=EL.1 h;simp only[XF];rw[zXb h.2];exact z7d h.1
def rQ (s:Nat):List Nat->Bool
 |[]=>bu
 |x::l=>bif cw s x then bo else rQ s l
def ss {s:Nat}:∀{l:List Nat},rQ s l=bo↔s∈l
 |[]=>by simp[rQ]
 |x::l=>by
  simp only[rQ];cases hb:cw s x
  ·have jy:s≠x:=λe=>by subst e;simp at hb
   simp[ss,jy]
  ·have:=ji hb;simp[this]
def yNe (fix:List Nat) (ρ j:Env):Env:=λs=>bif rQ s fix then ρ s else j s
def yDc {fix:List Nat} {ρ j:Env} (h:∀s∈fix,j s=ρ s):yNe fix ρ j=j:=by
 funext s;simp only[yNe];cases hb:rQ s fix
 ·rfl
 ·exact(h s (ss.1 hb)).symm
def uz:Code->List Nat
 | .region _ ops _=>ops.toList.filterMap (·.dst)
 | .seq a b=>uz a++uz b
 | .cond _ a b=>uz a++uz b
 | .block _ a=>uz a
 | .loop a=>uz a
 |_=>[]
def nL:Code->Nat
 | .seq a b=>nL a+nL b
 | .cond _ a b=>nL a+nL b
 | .block _ a=>nL a
 | .loop a=>nL a+1
 |_=>0
def y2v (next:Env->ac->Prop) (Q:Exit->Env->ac->Prop):Exit->Env->ac->Prop
 | .normal,ρ,w=>next ρ w
 |e,ρ,w=>Q e ρ w
def yPy (id:Nat) (Q:Exit->Env->ac->Prop):Exit->Env->ac->Prop
 | .exit FV,ρ,w=>bif cw FV id then Q .normal ρ w else Q (.exit FV) ρ w
 |e,ρ,w=>Q e ρ w
def dp (t:Bool) (A B:Prop):Prop:=
 match t with
 |true=>A
 |false=>B
def dp.mk {t:Bool} {A B:Prop} (h1:t=bo->A) (h2:t=bu->B):dp t A B:=by
 cases t
 ·exact h2 rfl
 ·exact h1 rfl
def XN (w:ac) (K:ac->Prop):Prop:=∀w',w'=w.drew->K w'
def Fl (P:aa):List RD->Code->(Exit->Env->ac->Prop)->Env->ac->Prop
 |_,.skip,Q,ρ,w=>Q .normal ρ w
 |an,.seq a b,Q,ρ,w=>Fl P (an.take (nL a)) a (y2v (λρ w=>Fl P (an.drop (nL a)) b Q ρ w) Q) ρ w
 |an,.cond c a b,Q,ρ,w=>
  match ev ρ c with
  | .bool t=>dp t (Fl P (an.take (nL a)) a Q ρ w) (Fl P (an.drop (nL a)) b Q ρ w)
  |_=>False
 |an,.block id a,Q,ρ,w=>Fl P an a (yPy id Q) ρ w
 |an,.loop a,Q,ρ,w=>
  match an with
  |[]=>False
  |x::rest=>∃(I:x.ι->ac->Prop) (μ:x.ι->ac->Nat),(∃i0,J5 (x.SW i0) ρ/\I i0 w)/\
    ∀(j:Env) (i:x.ι) (w1:ac),I i w1->Fl P rest a (y2v (λρ' w'=>∃i',J5 (x.SW i') ρ'/\I i' w'/\μ i' w'<μ i w1) Q) (XF (x.SW i) (yNe x.fix ρ j)) w1
 |_,.exit id,Q,ρ,w=>Q (.exit id) ρ w
 |_,.ret,Q,ρ,w=>Q .ret ρ w
 |_,.region _ ops d,Q,ρ,w=>bif d then XN w λw=>HH P ops.toList (gT ops.toList []) ops.toList.length (dd ops.toList.length bu) [] ρ w (Q .normal)
    else Rm P ops.toList ops.toList ρ w (Q .normal)
 |_,_,_,_,_=>False
def xx (n:Nat):Code->Bool
 | .region _ ops d=>(ops.toList.all λo=>match o.dst with|none=>bo|some d=>cx d n) && (bif d then lL ops.toList (gT ops.toList [])else bo)
 | .seq a b=>xx n a && xx n b
 | .cond _ a b=>xx n a && xx n b
 | .block _ a=>xx n a
 | .loop a=>xx n a
 |_=>bo
def okF:List RD->Code->Bool
 |an,.seq a b=>okF (an.take (nL a)) a && okF (an.drop (nL a)) b
 |an,.cond _ a b=>okF (an.take (nL a)) a && okF (an.drop (nL a)) b
 |an,.block _ a=>okF an a
 |an,.loop a=>match an with
  |[]=>bu
  |x::rest=>(x.fix.all λs=> !rQ s (uz a)) && okF rest a
 |_,_=>bo
def z4t {n:Nat} {A:Nat->Bool} {ops:List aj} (h:(ops.all λo=>match o.dst with|none=>bo|some d=>cx d n)=bo) (hA:∀s∈ops.filterMap (·.dst),A s=bo):JI n A ops:=by
 intro o ho d hd;have:=Ej.1 h o ho;rw[hd]at this;exact⟨by simpa[yx]using this,hA d (OD.2 ⟨o,ho,hd⟩)⟩
def XC (n:Nat) (A:Nat->Bool) (e0:Env) (Q:Exit->Env->ac->Prop):Exit->Act->ac->Prop:=λe a w=>Good n A e0 a/\Q e (yQ a) w
def yLe {P:aa} (hm:P.follows .mixedOrders=bo) {n:Nat}:∀(c:Code) (an:List RD) (Q:Exit->Env->ac->Prop) (A:Nat->Bool) (e0:Env) (a:Act) (w:ac),
 xx n c=bo->okF an c=bo->(∀s∈uz c,A s=bo)->Good n A e0 a->Fl P an c Q (yQ a) w->c.wp P (XC n A e0 Q) a w:=by
 intro c
 induction c with
 |skip=>intro an Q A e0 a w _ _ _ hg h;exact wp_skip ⟨hg,h⟩
 |region id ops d=>
  intro an Q A e0 a w hc _ hA hg h;simp only[xx,lu]at hc;have yl:=z4t (A:=A) hc.1 hA;cases d
  ·refine wp_region_list ?_;exact zUm (Q:=XC n A e0 Q) (K:=Q .normal) (λa w hg h=>⟨hg,h⟩) ops.toList a w yl hg h
  ·refine wp_region_any hm ?_;have h':=h _ rfl;have oZ:lL ops.toList (gT ops.toList [])=bo:=hc.2;refine fF (Q:=λa w=>XC n A e0 Q .normal a w) (λ_ _ h=>h) ops.size _ _ _ (M:=[]) (bf:=gT ops.toList []) ?_;have A5:eH ops.toList (qV (dd ops.toList.length bu)):=by
    intro i o ho hi;exfalso;unfold qV at hi;simp[CO]at hi;rw[XU]at hi;split at hi<;>simp at hi
   have:=z8t (P:=P) (K:=Q .normal) (Q:=λa w=>XC n A e0 Q .normal a w) oZ yl (λa w hg h=>⟨hg,h⟩) ops.toList.length _ [] a _ A5 (λm hm=>by cases hm) hg h';simpa using this
 |seq x y E9 E8=>
  intro an Q A e0 a w hc hf hA hg h;simp only[xx,okF,lu,uz,oH]at hc hf hA;refine wp_seq (aw (E9 _ _ A e0 a w hc.1 hf.1 (λs hs=>hA s (.inl hs)) hg h) ?_);rintro e a' w' ⟨qo,h'⟩;cases e<;>first|exact E8 _ _ A e0 a' w' hc.2 hf.2 (λs hs=>hA s (.inr hs)) qo h'|exact⟨qo,h'⟩
 |cond c x y E9 E8=>
  intro an Q A e0 a w hc hf hA hg h;simp only[xx,okF,lu,uz,oH]at hc hf hA;simp only[Fl]at h;rw[vL]at h;split at h
  ·rename_i t ht;refine wp_cond_split ht (λe=> ?_) (λe=> ?_)
   ·subst e;exact E9 _ _ A e0 a w hc.1 hf.1 (λs hs=>hA s (.inl hs)) hg h
   ·subst e;exact E8 _ _ A e0 a w hc.2 hf.2 (λs hs=>hA s (.inr hs)) hg h
  ·exact h.elim
 |block id x ih=>
  intro an Q A e0 a w hc hf hA hg h;refine wp_block (aw (ih an _ A e0 a w hc hf hA hg h) ?_);rintro e a' w' ⟨qo,h'⟩;cases e<;>first|exact⟨qo,h'⟩|skip
  rename_i FV;simp only[Exit.inBlock];simp only[yPy]at h';split
  ·rename_i heq;subst heq;rw[Nat.beq_refl]at h';exact⟨qo,h'⟩
  ·rename_i jy;have hb:cw FV id=bu:=by
    cases hb:cw FV id with
    |false=>rfl
    |true=>exact absurd (ji hb) jy
   rw[hb]at h';exact⟨qo,h'⟩
 |loop x ih=>
  intro an Q A e0 a w hc hf hA hg h;cases an with
  |nil=>exact h.elim
  |cons an rest=>
   simp only[okF,lu]at hf;obtain⟨I,μ,⟨i0,Ye,hi0⟩,ui⟩:=h;refine wp_loop_ghost (λm a' w'=>Good n A e0 a'/\(∀s∈an.fix,yQ a' s=yQ a s)/\∃i,J5 (an.SW i) (yQ a')/\I i w'/\μ i w'=m) (μ i0 w) ⟨hg,λ_ _=>rfl,i0,Ye,hi0,rfl⟩ ?_;rintro m a' w' ⟨qo,EF,i,aaB,hI,rfl⟩;have h1:=ui (yQ a') i w' hI;rw[yDc EF,zXb aaB]at h1;have SE:Good n (λs=>A s && rQ s (uz x)) (yQ a') a':=⟨qo.size,qo.defers,λ_ _=>rfl⟩
   refine aw (ih rest _ (λs=>A s && rQ s (uz x)) (yQ a') a' w' hc hf.2 (λs hs=>by rw[hA s hs,ss.2 hs];rfl) SE h1) ?_;rintro e a2 w2 ⟨AI,h2⟩;have Ku:Good n A e0 a2:=⟨AI.size,AI.defers,λs hs=>by rw[AI.same s (by simp[hs]),qo.same s hs]⟩
   cases e<;>first|exact⟨Ku,h2⟩|skip
   obtain⟨i',iQ,hI',gr⟩:=h2;refine⟨_,gr,Ku,λs hs=> ?_,i',iQ,hI',rfl⟩;have:=Ej.1 hf.1 s hs;rw[AI.same s (by simp at this;simp[this]),EF s hs]
 |exit id=>intro an Q A e0 a w _ _ _ hg h;exact wp_exit ⟨hg,h⟩
 |ret=>intro an Q A e0 a w _ _ _ hg h;exact wp_ret ⟨hg,h⟩
 |rangeFunc f ps x y E9 E8=>intro an Q A e0 a w _ _ _ hg h;exact h.elim
 |scope x ih=>intro an Q A e0 a w _ _ _ hg h;exact h.elim
 |label l=>intro an Q A e0 a w _ _ _ hg h;exact h.elim
 |goto l=>intro an Q A e0 a w _ _ _ hg h;exact h.elim
 |refuse s=>intro an Q A e0 a w _ _ _ hg h;exact h.elim
end Cv
namespace Cv
open Go
def bs (l:List Nat):ByteArray:=⟨(l.map Nat.toUInt8).toArray⟩
def LU (P:aa):List ResultVar->Env->ac->(List ab->Prop)->Prop
 |[],_,_,K=>K []
 | .tmp t::rs,ρ,w,K=>LU P rs ρ w λvs=>K (ρ t::vs)
 | .cell a t::rs,ρ,w,K=>
   match ρ a with
   | .pointer p=>JW p λad=>Fk P t λv=>pX P t ad w v/\LU P rs ρ w λvs=>K (v::vs)
   |_=>False
def Iq:List ab->ab
 |[v]=>v
 |vs=> .tuple vs.toArray
def Xb (P:aa) (fn:Func) (R:Ending->ac->Prop):Exit->Env->ac->Prop
 | .normal,ρ,w=>LU P fn.results.toList ρ w λvs=>R (.returned (Iq vs)) w
 | .ret,ρ,w=>LU P fn.results.toList ρ w λvs=>R (.returned (Iq vs)) w
 |_,_,_=>False
def gF (args:List ab):Env:=λi=>args.getD i ao
def IC (tmps:Array ab):ResultVar->Sem ab
 | .tmp t=>pure (tmps.getD t ao)
 | .cell a t=>(asAddr (tmps.getD a ao)).bind λad=>loadVar t ad
def YZ {P:aa} {tmps:Array ab} {w:ac}:∀{rs:List ResultVar} {K:List ab->Prop},LU P rs (λi=>tmps.getD i ao) w K->
 ∃vs,(rs.mapM (IC tmps)).run P w= .ok vs w/\K vs
 |[],K,h=>⟨[],rfl,h⟩
 | .tmp t::rs,K,h=>by
   obtain⟨vs,h1,h3⟩:=YZ (rs:=rs) h;refine⟨_::vs,?_,h3⟩;simp only[dc,IC,bind,pure,run_bind,be,bc]at h1 ⊢;rw[h1]
 | .cell a t::rs,K,h=>by
   simp only[LU]at h;split at h
   ·rename_i p hp;obtain⟨ad,rfl,h⟩:=rY h;obtain⟨v,hv,h⟩:=v7 h;obtain⟨vs,h1,h3⟩:=YZ (rs:=rs) h;refine⟨v::vs,?_,h3⟩;simp only[dc,IC,bind,pure,run_bind,be,bc,hp,asAddr]at h1 ⊢;rw[hv];simp only[h1]
   ·exact h.elim
def zOs {P:aa} {tmps:Array ab} {w:ac} {vs:List ab} {rs:List ResultVar} (h:(rs.mapM (IC tmps)).run P w= .ok vs w) (F:ResultVar->Sem ab) (hF:∀r,F r=IC tmps r):
 ((rs.mapM F).bind λvs=>bg (if h:vs.toArray.size=1 then vs.toArray[0]else .tuple vs.toArray)).run P w= .ok (Iq vs) w:=by
 obtain rfl:F=IC tmps:=funext hF;rw[run_bind,h];simp only[bc];cases vs with
 |nil=>rfl
 |cons v vs=>
  cases vs with
  |nil=>rfl
  |cons u us=>simp[Iq]
def zPb {P:aa} {fn:Func} {tmps:Array ab} {w:ac} {K:ab->Prop} (h:LU P fn.results.toList (λi=>tmps.getD i ao) w λvs=>K (Iq vs)):
 ∃v,(results fn tmps).run P w= .ok v w/\K v:=by
 obtain⟨vs,h1,h3⟩:=YZ h;refine⟨Iq vs,?_,h3⟩;unfold results;rw[Array.mapM_eq_mapM_toList,map_eq_pure_bind,bind_assoc];exact zOs h1 _ (λr=>by cases r<;>rfl)
def vg {P:aa} {f:av} {fn:Func} {c:Code} {args:List ab} {w:ac} {R:Ending->ac->Prop} (hm:P.follows .mixedOrders=bo)
 (hf:P.funcs[f]? =ay fn) (hb:fn.body=ay c) (an:List RD) (oZ:xx fn.ntmps c=bo) (Mt:okF an c=bo) (aaz:cy args.length fn.ntmps=bo)
 (h:Fl P an c (Xb P fn R) (gF args) w):Calls P f args.toArray w R:=by
 have pn:=Cj aaz;refine calls_of_wp hf hb ?_;have hg:Good fn.ntmps (λ_=>bo) (gF args) {tmps:=args.toArray++dd (fn.ntmps-args.toArray.size) ao,defers:=[]}:=
  ⟨by simp;omega,rfl,λs hs=>by cases hs⟩
 have MY:yQ {tmps:=args.toArray++dd (fn.ntmps-args.toArray.size) ao,defers:=[]}=gF args:=by
  funext i;simp only[yQ,gF,CO,mz,Array.getElem?_append];split
  ·simp
  ·rename_i gr;simp at gr;rw[uv gr,XU];split<;>rfl
 refine aw (yLe hm c an _ (λ_=>bo) (gF args) _ w oZ Mt (λ_ _=>rfl) hg (MY▸h)) ?_;rintro e a' w' ⟨qo,h'⟩;cases e<;>first|exact h'.elim|skip
 ·obtain⟨v,hv,hk⟩:=zPb (K:=λv=>R (.returned v) w') h';exact⟨qo.defers,v,hv,hk⟩
 ·obtain⟨v,hv,hk⟩:=zPb (K:=λv=>R (.returned v) w') h';exact⟨qo.defers,v,hv,hk⟩
def zOr {P:aa} {f:av} {fn:Func} {c:Code} {args:List ab} {w:ac} {R:Ending->ac->Prop} {V:Prop} (hm:P.follows .mixedOrders=bo)
 (hf:P.funcs[f]? =ay fn) (hb:fn.body=ay c) (an:List RD) (oZ:xx fn.ntmps c=bo) (Mt:okF an c=bo) (pn:cy args.length fn.ntmps=bo)
 (e:V=Fl P an c (Xb P fn R) (gF args) w) (h:V):Calls P f args.toArray w R:=
 vg hm hf hb an oZ Mt pn (e▸h)
end Cv
namespace Cv
open Go Go.RowKit
@[reducible] def PH:=Nat->Option Obj
@[reducible] def HP:=PH->Prop
def pe:PH:=λ_=>az
def one (b:Nat) (o:Obj):PH:=λx=>if x=b then ay o else az
def Dj (g h:PH):Prop:=∀b,g b=az\/h b=az
def Sub (h:PH) (w:ac):Prop:=∀b o,h b=ay o->w.heap[b]?=ay o
def un (g h:PH):PH:=λb=>match g b with|some o=>ay o|none=>h b
def Dj.symm {g h:PH} (d:Dj g h):Dj h g:=λb=>(d b).symm
def Dj.pe (h:PH):Dj pe h:=λ_=> .inl rfl
def yHi {g g' h:PH} (d:Dj g h) (d':Dj g' h):Dj (un g g') h:=λb=>by
 rcases d b with e|e
 ·rcases d' b with e'|e'
  ·left;simp[un,e,e']
  ·exact .inr e'
 ·exact .inr e
def zSt {g g' h:PH} (d:Dj (un g g') h) (dg:Dj g g'):Dj g h/\Dj g' h:=by
 refine⟨λb=> ?_,λb=> ?_⟩
 ·rcases d b with e|e
  ·left;simp only[un]at e;cases hg:g b with
   |none=>rfl
   |some o=>rw[hg]at e;cases e
  ·exact .inr e
 ·rcases d b with e|e
  ·left;simp only[un]at e;cases hg:g b with
   |none=>rw[hg]at e;exact e
   |some o=>rw[hg]at e;cases e
  ·exact .inr e
def yOg {g h:PH} {w:ac} (a:Sub g w) (b:Sub h w):Sub (un g h) w:=λx o e=>by
 simp only[un]at e;cases hg:g x with
 |some o'=>rw[hg]at e;cases e;exact a x _ hg
 |none=>rw[hg]at e;exact b x o e
def yJx {g h:PH} {w:ac} (s:Sub (un g h) w) (d:Dj g h):Sub g w/\Sub h w:=by
 refine⟨λx o e=>s x o (by simp[un,e]),λx o e=>s x o ?_⟩;rcases d x with e'|e'
 ·simp[un,e',e]
 ·rw[e]at e';cases e'
def Sub.pe (w:ac):Sub Cv.pe w:=λ_ _ e=>by cases e
def Sub.lt {h:PH} {w:ac} (s:Sub h w) {b:Nat} (hb:h b≠az):b<w.heap.size:=by
 cases e:h b with
 |none=>exact absurd e hb
 |some o=>
  have:=s b o e;rcases vh b w.heap.size with h'|h'
  ·exact h'
  ·rw[HM h']at this;cases this
structure Ko where
 os:Os
 tape:Nat->Question->Nat
 output:Array (Nat×ByteArray)
def ko (w:ac):Ko:=⟨w.os,w.tape,w.output⟩
def Kon (k:Ko) (w:ac):Prop:=w.os=k.os/\w.tape=k.tape/\w.output=k.output
inductive Hs (w:ac):List HP->List PH->Prop
 |nil:Hs w [] []
 |cons {A:HP} {h:PH} {L:List HP} {hs:List PH}:A h->Sub h w->(∀g∈hs,Dj h g)->Hs w L hs->Hs w (A::L) (h::hs)
def Hp (k:Ko) (w:ac) (L:List HP):Prop:=Kon k w/\∃hs,Hs w L hs
def Sat (w:ac) (A:HP):Prop:=∃h,A h/\Sub h w
def Hs.perm {w:ac} {L L':List HP} (p:L.Perm L'):∀{hs:List PH},Hs w L hs->∃iQ,Hs w L' iQ/\hs.Perm iQ:=by
 induction p with
 |nil=>intro hs h;cases h;exact⟨[],.nil,.nil⟩
 |cons A _ ih=>
  intro hs h;cases h with
  |cons ha jb hd hr=>
   obtain⟨iQ,h1,h2⟩:=ih hr;exact⟨_,.cons ha jb (λg hg=>hd g (h2.mem_iff.2 hg)) h1,.cons _ h2⟩
 |swap A B L=>
  intro hs h;cases h with
  |cons hb hbs BJ hr=>
   cases hr with
   |cons ha has had hr=>
    refine⟨_,.cons ha has ?_ (.cons hb hbs (λg hg=>BJ g (jj _ hg)) hr),.swap _ _ _⟩;intro g hg;rcases j'.1 hg with rfl|hg
    ·exact(BJ _ iY).symm
    ·exact had g hg
 |trans _ _ X8 X7=>
  intro hs h;obtain⟨um,h1,p1⟩:=X8 h;obtain⟨zd,h2,p2⟩:=X7 h1;exact⟨zd,h2,p1.trans p2⟩
def Hp.perm {k:Ko} {w:ac} {L L':List HP} (H:Hp k w L) (p:L.Perm L'):Hp k w L':=
 ⟨H.1,let⟨_,h⟩:=H.2;let⟨iQ,h',_⟩:=h.perm p;⟨iQ,h'⟩⟩
def Hp.drop {k:Ko} {w:ac} {A:HP} {L:List HP} (H:Hp k w (A::L)):Hp k w L:=by
 obtain⟨hk,hs,hh⟩:=H;cases hh with
 |cons _ _ _ hr=>exact⟨hk,_,hr⟩
def Hp.sat {k:Ko} {w:ac} {A:HP} {L:List HP} (H:Hp k w (A::L)):Sat w A:=by
 obtain⟨hk,hs,hh⟩:=H;cases hh with
 |cons ha jb _ _=>exact⟨_,ha,jb⟩
def Hp.imp {k:Ko} {w:ac} {A B:HP} {L:List HP} (H:Hp k w (A::L)) (h:∀x,A x->B x):Hp k w (B::L):=by
 obtain⟨hk,hs,hh⟩:=H;cases hh with
 |cons ha jb hd hr=>exact⟨hk,_,.cons (h _ ha) jb hd hr⟩
def pt (b:Nat) (o:Obj):HP:=λh=>h=one b o
def hPu (p:Prop):HP:=λh=>p/\h=pe
def SM (A B:HP):HP:=λh=>∃g g',A g/\B g'/\Dj g g'/\h=un g g'
def hS:List HP->HP
 |[]=>λh=>h=pe
 |[A]=>A
 |A::L=>SM A (hS L)
def gD {k:Ko} {w:ac} {p:Prop} {L:List HP}:Hp k w (hPu p::L)↔p/\Hp k w L:=by
 constructor
 ·rintro⟨hk,hs,hh⟩;cases hh with
  |cons ha jb hd hr=>exact⟨ha.1,hk,_,hr⟩
 ·rintro⟨hp,hk,hs,hh⟩;exact⟨hk,_,.cons ⟨hp,rfl⟩ (Sub.pe w) (λg _=>Dj.pe g) hh⟩
def vf {k:Ko} {w:ac} {A B:HP} {L:List HP}:Hp k w (SM A B::L)↔Hp k w (A::B::L):=by
 constructor
 ·rintro⟨hk,hs,hh⟩;cases hh with
  |cons ha jb hd hr=>
   obtain⟨g,g',h1,h2,h3,rfl⟩:=ha;obtain⟨s1,s2⟩:=yJx jb h3;refine⟨hk,_,.cons h1 s1 ?_ (.cons h2 s2 (λx hx=>(zSt (hd x hx) h3).2) hr)⟩;intro x hx;rcases j'.1 hx with rfl|hx
   ·exact h3
   ·exact(zSt (hd x hx) h3).1
 ·rintro⟨hk,hs,hh⟩;cases hh with
  |cons h1 s1 d1 hr=>
   cases hr with
   |cons h2 s2 d2 hr=>
    exact⟨hk,_,.cons ⟨_,_,h1,h2,d1 _ iY,rfl⟩ (yOg s1 s2) (λx hx=>yHi (d1 x (jj _ hx)) (d2 x hx)) hr⟩
def yPm {k:Ko} {w:ac} {L:List HP}:Hp k w (hS []::L)↔Hp k w L:=by
 have e:hS []=hPu True:=by funext h;simp[hS,hPu]
 rw[e,gD];exact⟨λh=>h.2,λh=>⟨Y_,h⟩⟩
def yNu {k:Ko} {w:ac} {A B:HP} {l L:List HP}:Hp k w (hS (A::B::l)::L)↔Hp k w (A::hS (B::l)::L):=vf
def Hp.swap {k:Ko} {w:ac} {A B:HP} {L:List HP} (H:Hp k w (A::B::L)):Hp k w (B::A::L):=H.perm (.swap _ _ _)
def Hp.cons {k:Ko} {w:ac} {A:HP} {L L':List HP} (H:Hp k w (A::L)) (p:L.Perm L'):Hp k w (A::L'):=H.perm (.cons _ p)
def rh {k:Ko} {w:ac}:∀{l L:List HP},Hp k w (hS l::L)↔Hp k w (l++L)
 |[],L=>yPm
 |[A],L=>Iff.rfl
 |A::B::l,L=>by
  rw[yNu];constructor
  ·intro h;have h1:=(rh (l:=B::l) (L:=A::L)).1 h.swap;refine h1.perm ?_;exact mu
  ·intro h;have h1:Hp k w ((B::l)++(A::L)):=h.perm (mu (l₁:=B::l)).symm;exact((rh (l:=B::l) (L:=A::L)).2 h1).swap
def Hs.move {w w':ac} (h:∀(x:PH),Sub x w->Sub x w'):∀{L:List HP} {hs:List PH},Hs w L hs->Hs w' L hs
 |_,_,.nil=> .nil
 |_,_,.cons ha jb hd hr=> .cons ha (h _ jb) hd (hr.move h)
def zLu {w w':ac} (h:Below w.heap.size w w') {x:PH} (s:Sub x w):Sub x w':=λb o e=>by
 rw[h.block b (s.lt (by rw[e];simp))];exact s b o e
def zZi {k:Ko} {B:Nat} {w w':ac} (h:Below B w w') (hk:Kon k w):Kon k w':=⟨h.os.trans hk.1,h.tape.trans hk.2.1,h.output.trans hk.2.2⟩
def Hp.below {k:Ko} {w w':ac} {L:List HP} (H:Hp k w L) (h:Below w.heap.size w w'):Hp k w' L:=
 ⟨zZi h H.1,let⟨hs,hh⟩:=H.2;⟨hs,hh.move λ_ s=>zLu h s⟩⟩
def Sat.below {w w':ac} {A:HP} (H:Sat w A) (h:Below w.heap.size w w'):Sat w' A:=let⟨x,a,s⟩:=H;⟨x,a,zLu h s⟩
def Hp.drew {k:Ko} {w:ac} {L:List HP} (H:Hp k w L):Hp k w.drew L:=H.below ((Below.refl _ _).drew)
def Hp.new {k:Ko} {w:ac} {L:List HP} (H:Hp k w L) (o:Obj):Hp k (w.alloc o) (pt w.heap.size o::L):=by
 have hb:Below w.heap.size w (w.alloc o):=(Below.refl _ _).alloc (jx _) o;obtain⟨hk,hs,hh⟩:=H;refine⟨zZi hb hk,_,.cons rfl ?_ ?_ (hh.move λ_ s=>zLu hb s)⟩
 ·intro b o' e;simp only[one]at e;split at e
  ·rename_i AL;subst AL;cases e;exact heap_alloc_new w o
  ·cases e
 ·intro g hg;have jb:∀{L:List HP} {hs:List PH},Hs w L hs->∀g∈hs,Sub g w:=by
   intro L hs hh
   induction hh with
   |nil=>intro g hg;cases hg
   |cons _ hs _ _ ih=>
    intro g hg;rcases j'.1 hg with rfl|hg
    ·exact hs
    ·exact ih g hg
  intro b;by_cases AL:b=w.heap.size
  ·right;cases hgb:g b with
   |none=>rfl
   |some o'=>
    have:=(jb hh g hg).lt (b:=b) (by rw[hgb];simp);omega
  ·left;simp[one,AL]
def World.ja (w:ac) (b:Nat) (o:Obj):ac:={w with heap:=w.heap.setIfInBounds b o}
def Hp.get {k:Ko} {w:ac} {b:Nat} {o:Obj} {L:List HP} (H:Hp k w (pt b o::L)):w.heap[b]? =ay o:=by
 obtain⟨h,rfl,s⟩:=H.sat;exact s b o (by simp[one])
def Hp.zj {k:Ko} {w:ac} {b:Nat} {o:Obj} {L:List HP} (H:Hp k w (pt b o::L)) (o':Obj):Hp k (World.ja w b o') (pt b o'::L):=by
 have kq:=H.get;obtain⟨hk,hs,hh⟩:=H;cases hh with
 |cons ha jb hd hr=>
  cases ha;have gr:b<w.heap.size:=jb.lt (b:=b) (by simp[one]);rename_i hs;have s0:Sub (one b o') (World.ja w b o'):=by
   intro x o2 e;simp only[one]at e;split at e
   ·rename_i hx;subst hx;cases e;simp[World.ja,XZ gr]
   ·cases e
  have d0:∀g∈hs,Dj (one b o') g:=by
   intro g hg x;rcases hd g hg x with e|e
   ·left;simp only[one]at e ⊢;split at e<;>simp_all
   ·exact .inr e
  have key:∀{L:List HP} {hs:List PH},Hs w L hs->(∀g∈hs,Dj (one b o) g)->Hs (World.ja w b o') L hs:=by
   intro L hs hh
   induction hh with
   |nil=>intro _;exact .nil
   |cons ha iQ oU _ ih=>
    intro Ic;refine .cons ha ?_ oU (ih λg hg=>Ic g (jj _ hg));intro x o2 e;have jy:x≠b:=by
     intro hx;subst hx;rcases Ic _ iY x with e'|e'
     ·simp[one]at e'
     ·rw[e]at e';cases e'
    simp only[World.ja];rw[XY (Ne.symm jy)];exact iQ x o2 e
  exact⟨hk,_,.cons rfl s0 d0 (key hr hd)⟩
def base (w0:ac):HP:=λh=>h=λb=>w0.heap[b]?
def Hp.start (w:ac):Hp (Cv.ko w) w [base w]:=⟨⟨rfl,rfl,rfl⟩,_,.cons rfl (λ_ _ e=>e) (λg hg=>by cases hg) .nil⟩
end Cv
namespace Cv
open Go Go.RowKit
def uV (b o n:Nat):(⟨b,o,az⟩:am).add n=⟨b,o+n,az⟩:=by
 unfold Addr.add;split
 ·rename_i h;subst h;rfl
 ·rfl
def CA (P:aa) (t:ae):Bool:=
 match P.underlying t with
 |some (.struct _)=>bu
 |some (.array _ _)=>bu
 |some _=>bo
 |none=>bu
def ES (P:aa) (t:ae):Option Nat:=
 match P.underlying t with
 |some (.struct _)=>(P.info? t).map λ(x:TypeInfo)=>x.size
 |some (.array _ _)=>(P.info? t).map λ(x:TypeInfo)=>x.size
 |_=>az
def nJ {P:aa} {t:ae} (h:CA P t=bo) (w:ac):(isAgg t).run P w= .ok bu w:=by
 unfold CA at h;cases hd:P.underlying t with
 |none=>rw[hd]at h;cases h
 |some d=>
  rw[hd]at h;unfold isAgg;simp only[bind,run_bind,run_underlying hd];cases d<;>first|rfl|(simp at h)
def aC {P:aa} {t:ae} {n:Nat} (h:ES P t=ay n) (w:ac):(isAgg t).run P w= .ok bo w/\(Go.sizeOf t).run P w= .ok n w:=by
 unfold ES at h;cases hd:P.underlying t with
 |none=>rw[hd]at h;cases h
 |some d=>
  rw[hd]at h;cases d<;>simp only[reduceCtorEq]at h
  all_goals
   cases hi:P.info? t with
   |none=>rw[hi]at h;cases h
   |some i=>
    rw[hi]at h;simp only[wz,ct]at h;subst h;refine⟨?_,run_sizeOf hi w⟩;unfold isAgg;simp only[bind,run_bind,run_underlying hd];rfl
def z6q {P:aa} {w:ac} {a:am} {v:ab} (h:w.cell? a=ay v):(load a).run P w= .ok v w:=by
 simp only[load,bc,h]
def Wa {w:ac} {b o:Nat} {l:List ab} {T:ae} {fr:Nat×Nat} (hb:w.heap[b]? =ay (.cells l.toArray T fr)):w.cell? ⟨b,o,az⟩=l[o]? :=by
 simp[World.cell?,hb]
def uA {P:aa} {t:ae} {w:ac} {b o:Nat} {l:List ab} {T:ae} {fr:Nat×Nat} {v:ab} (hs:CA P t=bo)
 (hb:w.heap[b]? =ay (.cells l.toArray T fr)) (hc:l[o]? =ay v):pX P t ⟨b,o,az⟩ w v:=by
 unfold pX loadVar;simp only[bind,run_bind,nJ hs,oS,if_false];exact z6q ((Wa hb).trans hc)
def rL {P:aa} {w:ac} {b o:Nat} {l:List ab} {T:ae} {fr:Nat×Nat} (hb:w.heap[b]? =ay (.cells l.toArray T fr)):
 ∀(n i:Nat) (acc:Array ab),o+i+n<=l.length->(loadCellsFrom ⟨b,o,az⟩ i n acc).run P w= .ok (acc++((l.drop (o+i)).take n).toArray) w
 |0,i,acc,_=>by simp[loadCellsFrom,pure,bc]
 |n+1,i,acc,h=>by
  have gr:o+i<l.length:=X_
  have hc:w.cell? ⟨b,o+i,az⟩=ay l[o+i]:=by rw[Wa hb];exact vl gr
  unfold loadCellsFrom;simp only[bind,run_bind,uV,z6q hc];rw[rL hb n (i+1) _ X_];congr 1;rw[CN gr,vj];simp[Dq]
def fE {P:aa} {w:ac} {b o n:Nat} {l:List ab} {T:ae} {fr:Nat×Nat} (hb:w.heap[b]? =ay (.cells l.toArray T fr)) (h:o+n<=l.length):
 (loadCells ⟨b,o,az⟩ n).run P w= .ok ((l.drop o).take n).toArray w:=by
 unfold loadCells;rw[rL hb n 0 #[] X_];simp
def Wq {P:aa} {t:ae} {w:ac} {b o n:Nat} {l vs:List ab} {T:ae} {fr:Nat×Nat} (hs:ES P t=ay n)
 (hb:w.heap[b]? =ay (.cells l.toArray T fr)) (hc:(l.drop o).take n=vs) (hl:vs.length=n):pX P t ⟨b,o,az⟩ w (.agg vs.toArray):=by
 unfold pX loadVar;have hlen:o+n<=l.length\/n=0:=by
  subst hc;simp only[nr,pj]at hl;omega
 simp only[bind,run_bind,(aC hs w).1,if_true,(aC hs w).2];rcases hlen with hlen|h0
 ·rw[fE hb hlen,hc];rfl
 ·subst h0;have:vs=[]:=ye hl;subst this;rfl
def _root_.Go.Value.ou:ab->Bool
 | .agg _=>bu
 | .tuple _=>bu
 |_=>bo
def lg (l:List ab) (o:Nat) (vs:List ab):List ab:=l.take o++vs++l.drop (o+vs.length)
def yKu (w:ac) (b:Nat) (x y:Obj):World.ja (World.ja w b x) b y=World.ja w b y:=by
 simp[World.ja,Array.setIfInBounds_setIfInBounds]
def yAm {P:aa} {w:ac} {b o:Nat} {l:List ab} {T:ae} {v:ab} (hb:w.heap[b]? =ay (.cells l.toArray T (0,0))) (ho:o<l.length) (hv:v.ou=bo):
 (store ⟨b,o,az⟩ v).run P w= .ok () (World.ja w b (.cells (l.set o v).toArray T (0,0))):=by
 have hc:w.cell? ⟨b,o,az⟩=ay l[o]:=by rw[Wa hb];exact vl ho
 have hf:w.frozen? ⟨b,o,az⟩=bu:=by simp[World.frozen?,hb]
 have qu:w.setCell ⟨b,o,az⟩ v=World.ja w b (.cells (l.set o v).toArray T (0,0)):=by
  unfold World.setCell World.ja;congr 1;apply RK;intro i;rw[Array.getElem?_modify,RW];have gr:b<w.heap.size:=by
   rcases vh b w.heap.size with h|h
   ·exact h
   ·rw[HM h]at hb;cases hb
  by_cases hi:b=i
  ·subst hi;have np:w.heap[b]= .cells l.toArray T (0,0):=by rw[RU gr]at hb;exact cu hb
   simp[gr,np]
  ·simp[hi]
 unfold store;cases v<;>first|(cases hv;done)|(simp only[bc,hc,hf,oS,if_false,qu])
def Vp {l:List ab} {p:Nat} {v:ab} {vs:List ab} (h:p<l.length):lg (l.set p v) (p+1) vs=lg l p (v::vs):=by
 have h1:(l.set p v).take (p+1)=l.take p++[v]:=by
  rw[OI,fh h];rw[List.take_append,nr];simp[FL (Nat.le_of_lt h),List.take_take]
 have h2:(l.set p v).drop (p+1+vs.length)=l.drop (p+(v::vs).length):=by
  rw[List.drop_set_of_lt X_];congr 1;simp only[iG];omega
 simp only[lg,h1,h2,jd,RP]
def vM {P:aa} {b:Nat} {T:ae}:∀(vs:List ab) (i o:Nat) (l:List ab) (w:ac),w.heap[b]? =ay (.cells l.toArray T (0,0))->o+i+vs.length<=l.length->
 (∀v∈vs,v.ou=bo)->(storeCells ⟨b,o,az⟩ vs i).run P w= .ok () (World.ja w b (.cells (lg l (o+i) vs).toArray T (0,0)))
 |[],i,o,l,w,hb,h,_=>by
  have gr:b<w.heap.size:=by
   rcases vh b w.heap.size with h|h
   ·exact h
   ·rw[HM h]at hb;cases hb
  have:World.ja w b (.cells (lg l (o+i) []).toArray T (0,0))=w:=by
   have e:lg l (o+i) []=l:=by simp[lg]
   rw[e];unfold World.ja;have:w.heap.setIfInBounds b (.cells l.toArray T (0,0))=w.heap:=by
    apply RK;intro j;rw[RW];split
    ·rename_i hj;subst hj;rw[hb]
    ·rfl
   rw[this]
  unfold storeCells;rw[this];rfl
 |v::vs,i,o,l,w,hb,h,hv=>by
  have gr:b<w.heap.size:=by
   rcases vh b w.heap.size with h|h
   ·exact h
   ·rw[HM h]at hb;cases hb
  simp only[iG]at h;unfold storeCells;simp only[bind,run_bind,uV,yAm hb (show o+i<l.length by omega) (hv v iY)];have AL:(World.ja w b (.cells (l.set (o+i) v).toArray T (0,0))).heap[b]? =ay (.cells (l.set (o+i) v).toArray T (0,0)):=by
   simp[World.ja,XZ gr]
  rw[vM vs (i+1) o (l.set (o+i) v) _ AL (by rw[qj];omega) (λu hu=>hv u (jj _ hu)),yKu];rw[show o+(i+1)=o+i+1 by omega,Vp (show o+i<l.length by omega)]
end Cv
namespace Cv
open Go Go.RowKit
def ow (e sz:Nat) (a:Option am) (n k:Nat) (xs:List ab):HP:=λh=>
 (a=az/\n=0/\k=0/\xs=[]/\h=pe)\/
 ∃b r,a=ay ⟨b,0,az⟩/\h=one b (.cells (xs++r).toArray e)/\xs.length=n*sz/\(xs++r).length=k*sz/\n<=k
def FQ (sz:Nat) (a:Option am) (n k:Nat) (xs:List ab):HP:=λh=>
 (n=0/\xs=[]/\h=pe)\/
 ∃(b o:Nat) (l:List ab) (T:ae) (fr:Nat×Nat),a=ay ⟨b,o,az⟩/\h=one b (.cells l.toArray T fr)/\(l.drop o).take (n*sz)=xs/\xs.length=n*sz/\n<=k
def nK {e sz:Nat} {a:Option am} {n k:Nat} {xs:List ab} {h:PH} (H:ow e sz a n k xs h):FQ sz a n k xs h:=by
 rcases H with⟨rfl,rfl,rfl,rfl,rfl⟩|⟨b,r,rfl,rfl,h1,h2,h3⟩
 ·exact .inl ⟨rfl,rfl,rfl⟩
 ·right;exact⟨b,0,_,e,_,rfl,rfl,by rw[Ei,<- h1];simp,h1,h3⟩
def Hp.Jb {k:Ko} {w:ac} {e sz:Nat} {a:Option am} {n c:Nat} {xs:List ab} {L:List HP} (H:Hp k w (ow e sz a n c xs::L)):Sat w (FQ sz a n c xs):=by
 obtain⟨h,hh,s⟩:=H.sat;exact⟨h,nK hh,s⟩
def Hp.oG {k:Ko} {w:ac} {e sz:Nat} {a:Option am} {n c:Nat} {xs:List ab} {L:List HP} (H:Hp k w (ow e sz a n c xs::L)):
 (a=az/\n=0/\c=0/\xs=[]/\Hp k w L)\/
 ∃b r,a=ay ⟨b,0,az⟩/\xs.length=n*sz/\(xs++r).length=c*sz/\n<=c/\Hp k w (pt b (.cells (xs++r).toArray e)::L):=by
 obtain⟨hk,hs,hh⟩:=H;cases hh with
 |cons ha jb hd hr=>
  rcases ha with⟨h1,h2,h3,h4,h5⟩|⟨b,r,h1,h2,h3,h4,h5⟩
  ·exact .inl ⟨h1,h2,h3,h4,hk,_,hr⟩
  ·subst h2;exact .inr ⟨b,r,h1,h3,h4,h5,hk,_,.cons rfl jb hd hr⟩
def Hp.AP {k:Ko} {w:ac} {e sz b n c:Nat} {xs r:List ab} {L:List HP} (H:Hp k w (pt b (.cells (xs++r).toArray e)::L)) (h1:xs.length=n*sz) (h2:(xs++r).length=c*sz) (h3:n<=c):
 Hp k w (ow e sz (ay ⟨b,0,az⟩) n c xs::L):=H.imp λx hx=> .inr ⟨b,r,rfl,hx,h1,h2,h3⟩
def yGp (e sz:Nat):ow e sz az 0 0 [] pe:= .inl ⟨rfl,rfl,rfl,rfl,rfl⟩
def Hp.nil {k:Ko} {w:ac} {L:List HP} (e sz:Nat) (H:Hp k w L):Hp k w (ow e sz az 0 0 []::L):=
 ((@gD k w True L).2 ⟨Y_,H⟩).imp λx hx=>by rw[hx.2];exact yGp e sz
def Hp.lit {k:Ko} {w:ac} {b e sz n:Nat} {l:List ab} {L:List HP} (H:Hp k w (pt b (.cells l.toArray e)::L)) (hl:l.length=n*sz):Hp k w (ow e sz (ay ⟨b,0,az⟩) n n l::L):=
 H.imp λx hx=> .inr ⟨b,[],rfl,by rw[hx,oQ],hl,i9 hl,jx _⟩
def Vk {e sz:Nat} {a:Option am} {n k:Nat} {xs:List ab} {h:PH} (H:ow e sz a n k xs h):xs.length=n*sz/\n<=k:=by
 rcases H with⟨rfl,rfl,rfl,rfl,rfl⟩|⟨b,r,rfl,rfl,h1,h2,h3⟩
 ·simp
 ·exact⟨h1,h3⟩
def Hp.len {k:Ko} {w:ac} {e sz:Nat} {a:Option am} {n c:Nat} {xs:List ab} {L:List HP} (H:Hp k w (ow e sz a n c xs::L)):xs.length=n*sz/\n<=c:=by
 obtain⟨h,hh,s⟩:=H.sat;exact Vk hh
def yFn {w:ac} {sz:Nat} {a:Option am} {n k:Nat} {xs:List ab} (H:Sat w (FQ sz a n k xs)):xs.length=n*sz:=by
 obtain⟨h,hh,s⟩:=H;rcases hh with⟨rfl,rfl,_⟩|⟨b,o,l,T,fr,rfl,rfl,h1,h2,_⟩
 ·simp
 ·exact h2
def LC {w:ac} {sz:Nat} {a:Option am} {n k:Nat} {xs:List ab} (H:Sat w (FQ sz a n k xs)) (hn:0<n):
 ∃(b o:Nat) (l:List ab) (T:ae) (fr:Nat×Nat),a=ay ⟨b,o,az⟩/\w.heap[b]? =ay (.cells l.toArray T fr)/\(l.drop o).take (n*sz)=xs:=by
 obtain⟨h,hh,s⟩:=H;rcases hh with⟨rfl,rfl,_⟩|⟨b,o,l,T,fr,rfl,rfl,h1,h2,_⟩
 ·omega
 ·exact⟨b,o,l,T,fr,rfl,s b _ (by simp[one]),h1⟩
def zYa (m:Nat) (hm:256<=m):∀(r c:Nat),c<=2*m->Builtin.growBy m r c<=2*m
 |0,c,h=>h
 |r+1,c,h=>by
  unfold Builtin.growBy;split
  ·exact h
  ·exact zYa m hm r _ X_
def zTm {need cap:Nat} (h:cap<need):Builtin.nextslicecap need cap<=2*need:=by
 unfold Builtin.nextslicecap;split
 ·omega
 ·split
  ·omega
  ·exact zYa need X_ 4 cap X_
def Src (sz:Nat) (w:ac) (x:ab) (m:Nat) (ys:List ab):Prop:=
 (∃a k,x=.slice a m k/\Sat w (FQ sz a m k ys))\/(∃s:ByteArray,x=.string s/\sz=1/\m=s.size/\ys=s.data.toList.map λb=> .int .u8 b.toNat)
def P2 {P:aa} {sz:Nat} {w:ac} {x:ab} {m:Nat} {ys:List ab} (h:Src sz w x m ys):
 (Builtin.lenOf x).run P w= .ok m w/\(bv sz m x).run P w= .ok ys.toArray w/\ys.length=m*sz:=by
 rcases h with⟨a,k,rfl,H⟩|⟨s,rfl,rfl,rfl,rfl⟩
 ·refine⟨rfl,?_,yFn H⟩;have hl:=yFn H;obtain⟨h,hh,s⟩:=H;rcases hh with⟨rfl,rfl,_⟩|⟨b,o,l,T,fr,rfl,rfl,h1,h2,_⟩
  ·cases a with
   |none=>rfl
   |some a=>simp[bv,loadCells,loadCellsFrom,pure,bc]
  ·have hb:=s b _ (show one b _ b=_ by simp[one];rfl);unfold bv;by_cases h0:m*sz=0
   ·rw[h0]at h1 hl ⊢;have:ys=[]:=ye hl;subst this;rfl
   ·have:o+m*sz<=l.length:=by
     rw[<- h1,nr,pj]at h2;omega
    rw[fE hb this,h1]
 ·refine⟨rfl,?_,by simp⟩;simp only[bv];have:s.extract 0 s.size=s:=by simp
  rw[this];simp only[pure,bc];congr 1;apply de;simp
def LY (P:aa) (t:ae):Bool:=
 match P.underlying t with
 |some (.slice _)=>bo
 |some .string=>bo
 |_=>bu
def YW {P:aa} {t:ae} (h:LY P t=bo):(∃e,P.underlying t=ay (.slice e))\/P.underlying t=ay .string:=by
 unfold LY at h;cases hd:P.underlying t with
 |none=>rw[hd]at h;cases h
 |some d=>
  rw[hd]at h;cases d<;>first|exact .inl ⟨_,rfl⟩|exact .inr rfl|(cases h)
def Hp.append {P:aa} {k:Ko} {w:ac} {L:List HP} {t1 t2 rt e sz oF:Nat} {z:Array ab} (hi:vY P t1=ay (e,sz,oF,z)) (h2:LY P t2=bo) {a:Option am} {n c:Nat} {xs:List ab}
 (H:Hp k w (ow e sz a n c xs::L)) {x:ab} {m:Nat} {ys:List ab} (hx:Src sz w x m ys) (hv:∀v∈ys,v.ou=bo) (hz:z.size=sz) (Fi:0<oF) (hb:(n+m)*oF<=140737488355328):
 ∃a' c' w',fH P (cd #[t1,t2] rt #[.slice a n c,x]) w (.slice a' (n+m) c') w'/\Hp k w' (ow e sz a' (n+m) c' (xs++ys)::L):=by
 obtain⟨i,zv,q1,q2,rfl,rfl,q5,rfl⟩:=jI hi;obtain⟨r1,r2,BZ⟩:=P2 (P:=P) hx;obtain⟨K1,hnc⟩:=H.len;have hnm:n+m<=140737488355328:=tz (Nat.le_mul_of_pos_right _ Fi) hb;have AS:(n+m)*i.size=n*i.size+m*i.size:=Ac _ _ _;by_cases tn:n+m<=c
 ·--zG the capacity
  rcases H.oG with⟨rfl,rfl,rfl,rfl,H0⟩|⟨b,r,rfl,h3,h4,h5,H0⟩
  ·have hm:m=0:=X_
   subst hm;have HV:ys=[]:=ye (i9 BZ);subst HV;refine⟨az,0,w,?_,i9 H⟩;unfold fH cd;rcases YW h2 with⟨e2,hd⟩|hd<;>
   simp only[Bj,CM,Bk,bind,pure,run_bind,be,bc,run_underlying q1,run_sizeOf q2,run_underlying hd,oS,if_false,r1,r2,FJ,jx,if_true,J9]
  ·have Gk:n*i.size+ys.length<=(xs++r).length:=by
    rw[h4,BZ,<- AS];exact xv _ tn
   have lr:=vM (P:=P) ys 0 (n*i.size) (xs++r) w H0.get X_ hv;simp only[FJ]at lr;have C2:lg (xs++r) (n*i.size) ys=(xs++ys)++r.drop ys.length:=by
    simp only[lg];rw[<- h3,J8,Me];simp
   rw[C2]at lr;refine⟨ay ⟨b,0,az⟩,c,_,?_,(H0.zj _).AP (r:=r.drop ys.length) (by rw[ix,h3,BZ,AS]) ?_ tn⟩
   ·unfold fH cd;rcases YW h2 with⟨e2,hd⟩|hd<;>
    simp only[Bj,CM,Bk,bind,pure,run_bind,be,bc,run_underlying q1,run_sizeOf q2,run_underlying hd,oS,if_false,r1,r2,tn,if_true,uV,nt,lr,J9]
   ·rw[<- h4];simp only[ix,pj]at Gk ⊢;omega
 ·have CT:¬(((n+m:Nat):Int)>df.max/\(False\/i.bytes=0)):=by
   rintro⟨_,h|h⟩
   ·exact h
   ·omega
  have Cp:¬(Builtin.nextslicecap (n+m) c*i.bytes>2 ^ 48):=by
   have:=zTm (need:=n+m) (cap:=c) X_;have:=xv i.bytes this;have e:2*(n+m)*i.bytes=2*((n+m)*i.bytes):=by rw[Nat.mul_assoc]
   omega
  have hold:(bv i.size n (.slice a n c)).run P w= .ok xs.toArray w:=(P2 (P:=P) (.inl ⟨a,c,rfl,H.Jb⟩)).2.1;have Fa:∀w,(zeroValue e).run P w= .ok zv w:=λw=>mg (by unfold zero?;rw[q2];exact q5) w
  have IS:∀w,(typeInfo e).run P w= .ok i w:=λw=>zIx q2 w
  generalize Jj:(Question.appendCap (n+m) c e).cut (w.tape w.drawn (.appendCap (n+m) c e))=nc;have Ms:n+m<=nc:=by
   rw[<- Jj];simp only[Question.cut];omega
  have r2':(bv i.size m x).run P w.drew= .ok ys.toArray w.drew:=by
   have HW:Src i.size w.drew x m ys:=by
    rcases hx with⟨a,kk,rfl,H⟩|h
    ·exact .inl ⟨a,kk,rfl,H.below ((Below.refl _ _).drew)⟩
    ·exact .inr h
   exact(P2 (P:=P) HW).2.1
  have Uq:(bv i.size n (.slice a n c)).run P w.drew= .ok xs.toArray w.drew:=(P2 (P:=P) (.inl ⟨a,c,rfl,H.Jb.below ((Below.refl _ _).drew)⟩)).2.1;have hch:(choose (.appendCap (n+m) c e)).run P w= .ok nc w.drew:=by
   simp only[choose,bc,Question.forced,oS,if_false,Jj];rfl
  have Jg:=(H.drop.drew).new (.cells (xs++(ys++(bz zv.cells (nc-(n+m))).toList)).toArray e);have hlen:(ys++(bz zv.cells (nc-(n+m))).toList).length=m*i.size+(nc-(n+m))*i.size:=by
   rw[ix,BZ,Kf,size_zeroCells,hz]
  have Ge:xs.toArray++ys.toArray++bz zv.cells (nc-(n+m))=(xs++(ys++(bz zv.cells (nc-(n+m))).toList)).toArray:=by
   apply de;simp
  refine⟨ay ⟨w.drew.heap.size,0,az⟩,nc,w.drew.alloc (.cells (xs++(ys++(bz zv.cells (nc-(n+m))).toList)).toArray e),?_,?_⟩
  ·unfold fH cd;rcases YW h2 with⟨e2,hd⟩|hd<;>
   simp only[Bj,CM,Bk,bind,pure,run_bind,be,bc,run_underlying q1,run_sizeOf q2,run_underlying hd,oS,if_false,r1,tn,IS,CT,Cp,hch,zPg,Uq,r2',Fa,J9,if_true,Ge,newRow,newObj]
   all_goals rfl
  ·have:=Hp.AP (c:=nc) (n:=n+m) (sz:=i.size) (xs:=xs++ys) (r:=(bz zv.cells (nc-(n+m))).toList) (by rw[jd];exact Jg) (by rw[ix,K1,BZ,AS]) ?_ Ms
   ·exact this
   ·rw[jd,ix,hlen,K1,<- Ac,<- Ac];congr 1;omega
end Cv
namespace Sx
@[reducible] def dk.{u} {α:Sort u} (x:α):Prop:=x=x
open Go Go.RowKit Cv
inductive D where
 |v (x:ab)
 |ro (sz:Nat) (fa:List (List D))
inductive V where
 |top
 |d (x:D)
 |nm (n off:Nat)
 |el (n sz i f:Nat)
 |re (sz:Nat) (fa:List (List D)) (i f:Nat)
 |na (n off i:Nat)
 |own (n:Nat)
 |mp (n:Nat)
 |sub (n i:Nat)
 |agg (l:List V)
 |je (l:List V)
 |fn (f:Nat) (first cap:List V)
 |Ai (t:Nat) (x:V)
inductive fq:Type 1 where
 |gone
 |AR
 |cells (vs:List V) (t:ae)
 |own (t sz:Nat) (fa:List (List D))
 |kr (sz:Nat) (fa:List (List D))
 |HS (t:ae) (fa:List (List D))
 |vec (ds:List D) (t:ae)
 |map (es:List (ab×List D))
 |C0 (es:List (ab×List D)) (kv:ab) (b:Int)
 |iter (s:ByteArray) (pos:Nat)
 |rk (T:Type) (m:Nat) (iA:T->Nat->fq) (x:T)
 |km (t:Nat) (T:Type) (m:Nat) (iA:T->Nat->fq) (l:List T) (hole:Option Nat)
 |uq (q:Bool) (t sz:Nat) (fa:List (List D)) (i f:Nat) (b:Bool) (m:Option Nat)
@[reducible] def Hd:=ab×List ab
structure Ev where
 F:PH
 gl:List Hd
def yd (F G:PH):Prop:=∀b o,F b=ay o->G b=ay o
def Ev.le (E E':Ev):Prop:=yd E.F E'.F/\E.gl<+:E'.gl
def yd.refl (F:PH):yd F F:=λ_ _ h=>h
def yd.trans {F G H:PH} (a:yd F G) (b:yd G H):yd F H:=λx o h=>b x o (a x o h)
def Ev.le.refl (E:Ev):E.le E:=⟨yd.refl _,Ka _⟩
def Ev.le.trans {E E' E2:Ev} (a:E.le E') (b:E'.le E2):E.le E2:=⟨a.1.trans b.1,a.2.trans b.2⟩
def U5 {α:Type} {l l':List α} (h:l<+:l') {n:Nat} {x:α} (e:l[n]? =ay x):l'[n]? =ay x:=by
 obtain⟨t,rfl⟩:=h;rw[Ek]
 ·exact e
 ·exact(jk.1 e).1
def Ev.le.get {E E':Ev} (a:E.le E') {n:Nat} {x:Hd} (e:E.gl[n]? =ay x):E'.gl[n]? =ay x:=U5 a.2 e
mutual
def DR (F:PH):D->ab->Prop
 | .v x,y=>y=x/\x.ou=bo
 | .ro sz fa,y=>∃a c,y= .slice a fa.length c/\fa.length<=c/\(∀el∈fa,el.length=sz)/\
    (fa=[]\/∃(b o:Nat) (l:List ab) (T:ae) (fr:Nat×Nat),a=ay ⟨b,o,az⟩/\F b=ay (.cells l.toArray T fr)/\BP F fa (l.drop o))
def iC (F:PH):List D->List ab->Prop
 |[],l=>l=[]
 |d::ds,l=>∃x xs,l=x::xs/\DR F d x/\iC F ds xs
def BP (F:PH):Q_ D->List ab->Prop
 |[],_=>True
 |el::fa,l=>∃l1 l2,l=l1++l2/\iC F el l1/\BP F fa l2
end
mutual
theorem DR.mono {F G:PH} (h:yd F G):∀{d:D} {y:ab},DR F d y->DR G d y
 | .v x,y,e=>by simpa only[DR]using e
 | .ro sz fa,y,e=>by
   simp only[DR]at e ⊢;obtain⟨a,c,h1,h2,h3,h4⟩:=e;refine⟨a,c,h1,h2,h3,?_⟩;rcases h4 with h4|⟨b,o,l,T,fr,q1,q2,q3⟩
   ·exact .inl h4
   ·exact .inr ⟨b,o,l,T,fr,q1,h _ _ q2,BP.mono h q3⟩
theorem iC.mono {F G:PH} (h:yd F G):∀{ds:List D} {l:List ab},iC F ds l->iC G ds l
 |[],l,e=>by simpa only[iC]using e
 |d::ds,l,e=>by
  simp only[iC]at e ⊢;obtain⟨x,xs,h1,h2,h3⟩:=e;exact⟨x,xs,h1,DR.mono h h2,iC.mono h h3⟩
theorem BP.mono {F G:PH} (h:yd F G):∀{fa:Q_ D} {l:List ab},BP F fa l->BP G fa l
 |[],l,e=>by simp only[BP]
 |el::fa,l,e=>by
  simp only[BP]at e ⊢;obtain⟨x,xs,h1,h2,h3⟩:=e;exact⟨x,xs,h1,iC.mono h h2,BP.mono h h3⟩
end
mutual
def VR (E:Ev):V->ab->Prop
 | .top,_=>True
 | .d d,y=>DR E.F d y
 | .nm n o,y=>∃(b oo:Nat) (l:List ab),E.gl[n]? =ay (.pointer (ay ⟨b,oo,az⟩),l)/\y= .pointer (ay ⟨b,oo+o,az⟩)
 | .el n sz i f,y=>∃(b oo m c:Nat) (l:List ab),E.gl[n]? =ay (.slice (ay ⟨b,oo,az⟩) m c,l)/\y= .pointer (ay ⟨b,oo+i*sz+f,az⟩)
 | .re sz fa i f,y=>i<fa.length/\(∀el∈fa,el.length=sz)/\∃(b o:Nat) (l:List ab) (T:ae) (fr:Nat×Nat),y= .pointer (ay ⟨b,o+i*sz+f,az⟩)/\E.F b=ay (.cells l.toArray T fr)/\BP E.F fa (l.drop o)
 | .na n o i,y=>∃(b oo:Nat) (l:List ab),E.gl[n]? =ay (.pointer (ay ⟨b,oo,az⟩),l)/\y= .pointer (ay ⟨b,oo+(o+i),az⟩)
 | .own n,y=>∃l,E.gl[n]? =ay (y,l)/\∃a m c,y= .slice a m c
 | .mp n,y=>∃b l,E.gl[n]? =ay (y,l)/\y= .map (ay b)
 | .sub n i,y=>∃hd l b oo,E.gl[n]? =ay (hd,l)/\l[i]? =ay y/\y= .pointer (ay ⟨b,oo,az⟩)
 | .agg l,y=>∃ys,y= .agg ys.toArray/\ic E l ys
 | .je l,y=>∃ys,y= .tuple ys.toArray/\ic E l ys
 | .fn f a b,y=>∃as bs,y= .func (.func f) as.toArray bs.toArray/\ic E a as/\ic E b bs
 | .Ai t x,y=>∃z,y= .iface t z/\VR E x z
def ic (E:Ev):List V->List ab->Prop
 |[],l=>l=[]
 |v::vs,l=>∃x xs,l=x::xs/\VR E v x/\ic E vs xs
end
mutual
theorem VR.mono {E E':Ev} (h:E.le E'):∀{v:V} {y:ab},VR E v y->VR E' v y
 | .top,y,e=>by simp only[VR]
 | .d d,y,e=>by simp only[VR]at e ⊢;exact e.mono h.1
 | .nm n o,y,e=>by
   simp only[VR]at e ⊢;obtain⟨b,oo,l,h1,h2⟩:=e;exact⟨b,oo,l,h.get h1,h2⟩
 | .el n sz i f,y,e=>by
   simp only[VR]at e ⊢;obtain⟨b,oo,m,c,l,h1,h2⟩:=e;exact⟨b,oo,m,c,l,h.get h1,h2⟩
 | .re sz fa i f,y,e=>by
   simp only[VR]at e ⊢;obtain⟨h0,h1,b,o,l,T,fr,h2,h3,h4⟩:=e;exact⟨h0,h1,b,o,l,T,fr,h2,h.1 _ _ h3,h4.mono h.1⟩
 | .na n o i,y,e=>by
   simp only[VR]at e ⊢;obtain⟨b,oo,l,h1,h2⟩:=e;exact⟨b,oo,l,h.get h1,h2⟩
 | .own n,y,e=>by
   simp only[VR]at e ⊢;obtain⟨l,h1,h2⟩:=e;exact⟨l,h.get h1,h2⟩
 | .mp n,y,e=>by
   simp only[VR]at e ⊢;obtain⟨b,l,h1,h2⟩:=e;exact⟨b,l,h.get h1,h2⟩
 | .sub n i,y,e=>by
   simp only[VR]at e ⊢;obtain⟨hd,l,b,oo,h1,h2⟩:=e;exact⟨hd,l,b,oo,h.get h1,h2⟩
 | .agg l,y,e=>by
   simp only[VR]at e ⊢;obtain⟨ys,h1,h2⟩:=e;exact⟨ys,h1,ic.mono h h2⟩
 | .je l,y,e=>by
   simp only[VR]at e ⊢;obtain⟨ys,h1,h2⟩:=e;exact⟨ys,h1,ic.mono h h2⟩
 | .fn f a b,y,e=>by
   simp only[VR]at e ⊢;obtain⟨as,bs,h1,h2,h3⟩:=e;exact⟨as,bs,h1,ic.mono h h2,ic.mono h h3⟩
 | .Ai t x,y,e=>by
   simp only[VR]at e ⊢;obtain⟨z,h1,h2⟩:=e;exact⟨z,h1,VR.mono h h2⟩
theorem ic.mono {E E':Ev} (h:E.le E'):∀{vs:List V} {l:List ab},ic E vs l->ic E' vs l
 |[],l,e=>by simpa only[ic]using e
 |v::vs,l,e=>by
  simp only[ic]at e ⊢;obtain⟨x,xs,h1,h2,h3⟩:=e;exact⟨x,xs,h1,VR.mono h h2,ic.mono h h3⟩
end
def tT:List ab->ab
 |[y]=>y
 |ys=> .agg ys.toArray
def MR (F:PH):List (ab×List D)->List aq->Prop
 |[],l=>l=[]
 |(k,ds)::es,l=>∃(m:aq) (ms:List aq),l=m::ms/\m.key=k/\(∃ys,iC F ds ys/\m.val=tT ys)/\MR F es ms
def MR.mono {F G:PH} (h:yd F G):∀{es:List (ab×List D)} {l:List aq},MR F es l->MR G es l
 |[],l,e=>e
 |(k,ds)::es,l,e=>by
  obtain⟨m,ms,h1,h2,⟨ys,h3,h4⟩,h5⟩:=e;exact⟨m,ms,h1,h2,⟨ys,h3.mono h,h4⟩,h5.mono h⟩
def uO (l:List aq) (ck:Nat):Prop:=(l.map (·.born)).Nodup/\∀e∈l,e.born<ck
def J0 (kd:TypeDesc) (x:ab):Prop:=(∃ik k n,kd=.int ik/\x=.int k n)\/(∃s,kd=.string/\x=.string s)
def Vm (l:List aq) (x:ab) (b:Int):Prop:=∃kd,J0 kd x/\∃q m,Instr.findNow kd x l 0=ay (ay (q,m.val))/\l[q]?=ay m/\(m.born:Int)=b
def zz (gl:List Hd) (p:Nat) (b:Bool) (ys xs:List ab):Option Nat->Prop
 |some m=>∃y l,gl[m]? =ay (y,l)/\(∃a n c,y= .slice a n c)/\xs=bif b then ys.set p y else ys
 |none=>∃y,(∃a n c,y= .slice a n c)/\xs=bif b then ys.set p y else ys
def fw (F:PH):fq->List Hd->Hd->HP
 | .gone,_,_=>λh=>h=pe
 | .AR,_,hd=>λh=>h=pe/\hd.1= .slice az 0 0/\hd.2=[]
 | .cells vs t,gl,hd=>λh=>∃b l,hd.1= .pointer (ay ⟨b,0,az⟩)/\ic ⟨F,gl⟩ vs l/\h=one b (.cells l.toArray t)
 | .own t sz fa,gl,hd=>λh=>∃a k xs,hd.1= .slice a fa.length k/\iC F fa.flatten xs/\(∀el∈fa,el.length=sz)/\ow t sz a fa.length k xs h
 | .kr sz fa,gl,hd=>λh=>h=pe/\DR F (.ro sz fa) hd.1
 | .HS t fa,gl,hd=>λh=>∃b k xs r,hd.1= .slice (ay ⟨b,0,az⟩) fa.length k/\iC F fa.flatten xs/\(∀el∈fa,el.length=1)/\fa.length<=k/\h=one b (.cells (xs++r).toArray t ((xs++r).length,(xs++r).length+1))
 | .vec ds t,gl,hd=>λh=>∃b l,hd.1= .pointer (ay ⟨b,0,az⟩)/\iC F ds l/\h=one b (.cells l.toArray t)
 | .map es,gl,hd=>λh=>∃b fy ck,hd.1= .map (ay b)/\MR F es fy/\uO fy ck/\h=one b (.map fy.toArray ck)
 | .C0 es kv x,gl,hd=>λh=>∃b fy ck,hd.1= .map (ay b)/\MR F es fy/\uO fy ck/\Vm fy kv x/\h=one b (.map fy.toArray ck)
 | .iter s pos,gl,hd=>λh=>∃b,hd.1= .pointer (ay ⟨b,0,az⟩)/\h=one b (.stringIter s pos)
 | .rk T m iA x,gl,hd=>λh=>∃kh,kh[0]? =ay hd/\kh.length=m/\hS ((db m).map λj=>λh=>∃oU,kh[j]? =ay oU/\fw F (iA x j) kh oU h) h
 | .km t T m iA l hole,gl,hd=>λh=>∃a k,hd.1= .slice a l.length k/\hd.2.length=l.length/\(∀p∈hd.2,∃b oo,p= .pointer (ay ⟨b,oo,az⟩))/\
    hS [ow t 1 a l.length k hd.2,hS ((db l.length).map λi=>λh=>if hole=ay i then h=pe else ∃x p l0 kh,l[i]? =ay x/\hd.2[i]? =ay p/\kh[0]? =ay (p,l0)/\kh.length=m/\
     hS ((db m).map λj=>λh=>∃oU,kh[j]? =ay oU/\fw F (iA x j) kh oU h) h)] h
 | .uq q t sz fa i f b m,gl,hd=>λh=>∃a k ys xs,hd.1= .slice a fa.length k/\iC F fa.flatten ys/\(∀el∈fa,el.length=sz)/\zz gl (i*sz+f) b ys xs m/\ow t sz a fa.length k xs h
def LB {α:Type} {f g:α->HP} (h:∀a x,f a x->g a x):∀{l:List α} {x:PH},hS (l.map f) x->hS (l.map g) x
 |[],x,e=>e
 |[a],x,e=>h a x e
 |a::b::l,x,e=>by
  obtain⟨g1,g2,h1,h2,h3,h4⟩:=e;exact⟨g1,g2,h a _ h1,LB h (l:=b::l) h2,h3,h4⟩
def zz.mono {gl oJ:List Hd} (h:∀(n:Nat) (hd:Hd),gl[n]? =ay hd->oJ[n]? =ay hd) {p:Nat} {b:Bool} {ys xs:List ab}:∀{m:Option Nat},zz gl p b ys xs m->zz oJ p b ys xs m
 |some m,⟨y,l,h1,h2⟩=>⟨y,l,h _ _ h1,h2⟩
 |none,e=>e
def fw.mono {F G:PH} (hF:yd F G) (o:fq):∀{gl oJ:List Hd} (ht:gl<+:oJ) {hd:Hd} {h:PH},fw F o gl hd h->fw G o oJ hd h:=by
 induction o with
 |gone=>intro _ _ _ _ _ e;exact e
 |AR=>intro _ _ _ _ _ e;exact e
 |cells vs t=>
  intro gl oJ ht hd h e;simp only[fw]at e ⊢;obtain⟨b,l,h1,h2,h3⟩:=e;exact⟨b,l,h1,h2.mono ⟨hF,ht⟩,h3⟩
 |own t sz fa=>
  intro gl oJ ht hd h e;simp only[fw]at e ⊢;obtain⟨a,k,xs,h1,h2,h3⟩:=e;exact⟨a,k,xs,h1,h2.mono hF,h3⟩
 |kr sz fa=>
  intro gl oJ ht hd h e;simp only[fw]at e ⊢;exact⟨e.1,e.2.mono hF⟩
 |HS t fa=>
  intro gl oJ ht hd h e;simp only[fw]at e ⊢;obtain⟨b,k,xs,r,h1,h2,h3⟩:=e;exact⟨b,k,xs,r,h1,h2.mono hF,h3⟩
 |vec ds t=>
  intro gl oJ ht hd h e;simp only[fw]at e ⊢;obtain⟨b,l,h1,h2,h3⟩:=e;exact⟨b,l,h1,h2.mono hF,h3⟩
 |map es=>
  intro gl oJ ht hd h e;simp only[fw]at e ⊢;obtain⟨b,l,ck,h1,h2,h3⟩:=e;exact⟨b,l,ck,h1,h2.mono hF,h3⟩
 |C0 es kv x=>
  intro gl oJ ht hd h e;simp only[fw]at e ⊢;obtain⟨b,l,ck,h1,h2,h3⟩:=e;exact⟨b,l,ck,h1,h2.mono hF,h3⟩
 |iter s pos=>intro _ _ _ _ _ e;simpa only[fw]using e
 |rk T m iA x ih=>
  intro gl oJ ht hd h e;simp only[fw]at e ⊢;obtain⟨kh,h1,h2,h3⟩:=e;refine⟨kh,h1,h2,LB ?_ h3⟩;rintro j y ⟨oU,q1,q2⟩;exact⟨oU,q1,ih x j (Ka _) q2⟩
 |km t T m iA l hole ih=>
  intro gl oJ ht hd h e;simp only[fw]at e ⊢;obtain⟨a,k,h1,h2,h3,h5⟩:=e;refine⟨a,k,h1,h2,h3,?_⟩;obtain⟨g1,g2,q1,q2,q3,q4⟩:=h5;refine⟨g1,g2,q1,LB ?_ q2,q3,q4⟩;intro i y hy;split
  ·rename_i hi;rw[fh hi]at hy;exact hy
  ·rename_i hi;rw[eg hi]at hy;obtain⟨x,p,l0,kh,r1,r2,r3,r4,r5⟩:=hy;refine⟨x,p,l0,kh,r1,r2,r3,r4,LB ?_ r5⟩;rintro j y ⟨oU,s1,s2⟩;exact⟨oU,s1,ih x j (Ka _) s2⟩
 |uq q t sz fa i f b m=>
  intro gl oJ ht hd h e;simp only[fw]at e ⊢;obtain⟨a,k,ys,xs,h1,h2,h3,h4,h5⟩:=e;exact⟨a,k,ys,xs,h1,h2.mono hF,h3,h4.mono λn hd e=>U5 ht e,h5⟩
structure St where
 rows:List (Nat×fq)
 nx:Nat
def sN (n:Nat):List (Nat×fq)->Option fq
 |[]=>az
 |(m,o)::l=>bif cw m n then ay o else sN n l
def uG (n:Nat):List (Nat×fq)->List (Nat×fq)
 |[]=>[]
 |(m,o)::l=>bif cw m n then l else(m,o)::uG n l
def rR (n:Nat) (x:fq):List (Nat×fq)->List (Nat×fq)
 |[]=>[]
 |(m,o)::l=>bif cw m n then(m,x)::l else(m,o)::rR n x l
def St.get (s:St) (n:Nat):Option fq:=sN n s.rows
def St.set (s:St) (n:Nat) (o:fq):St:=⟨rR n o s.rows,s.nx⟩
def St.del (s:St) (n:Nat):St:=⟨uG n s.rows,s.nx⟩
def St.Jk (s:St) (n:Nat):fq->St
 | .kr _ _=>s
 |_=>s.del n
def St.new (s:St) (o:fq):St:=⟨(s.nx,o)::s.rows,s.nx+1⟩
def uH {n:Nat} {o:fq}:∀{l:List (Nat×fq)},sN n l=ay o->l.Perm ((n,o)::uG n l)/\∀x,(rR n x l).Perm ((n,x)::uG n l)
 |[],h=>by cases h
 |(m,p)::l,h=>by
  simp only[sN,uG,rR]at h ⊢;cases hb:cw m n
  ·rw[hb]at h;obtain⟨h1,h2⟩:=uH (l:=l) h;exact⟨(h1.cons _).trans (.swap _ _ _),λx=>((h2 x).cons _).trans (.swap _ _ _)⟩
  ·rw[hb]at h;have:=ji hb;subst this;cases h;exact⟨.refl _,λx=> .refl _⟩
def ie (E:Ev) (r:Nat×fq):HP:=λh=>r.2= .gone/\h=pe\/∃hd,E.gl[r.1]? =ay hd/\fw E.F r.2 E.gl hd h
def ie.mono {E E':Ev} (h:E.le E') (r:Nat×fq) {x:PH} (e:ie E r x):ie E' r x:=by
 rcases e with e|⟨hd,h1,h2⟩
 ·exact .inl e
 ·exact .inr ⟨hd,h.get h1,h2.mono h.1 _ h.2⟩
def xJt:List (Nat×(Obj->Prop)):=[]
def EJ (F:PH):Prop:=∀g∈xJt,∃o,F g.1=ay o/\g.2 o
def EJ.mono {F G:PH} (h:yd F G) (e:EJ F):EJ G:=λg hg=>let⟨o,h1,h2⟩:=e g hg;⟨o,h _ _ h1,h2⟩
def fz (F:PH):HP:=λh=>h=F/\EJ F
structure Rel (k:Ko) (L:List HP) (E:Ev) (s:St) (w:ac):Prop where
 nx:E.gl.length=s.nx
 hp:Hp k w (s.rows.map (ie E)++fz E.F::L)
end Sx
namespace Cv
open Go Go.RowKit
inductive Tr (α:Type) where
 |e
 |n (v:Option α) (l r:Tr α)
def Tr.get {α:Type}:List Bool->Tr α->Option α
 |_,.e=>az
 |[],.n v _ _=>v
 |b::p,.n _ l r=>bif b then Tr.get p l else Tr.get p r
def Tr.set {α:Type} (x:Option α):List Bool->Tr α->Tr α
 |[],.e=> .n x .e .e
 |[],.n _ l r=> .n x l r
 |b::p,.e=>bif b then .n az (Tr.set x p .e) .e else .n az .e (Tr.set x p .e)
 |b::p,.n v l r=>bif b then .n v (Tr.set x p l) r else .n v l (Tr.set x p r)
def xFv:Nat->Nat->List Bool
 |0,n=>List.replicate n bo
 |f+1,n=>bif cw n 0 then[]else cw (n % 2) 1::xFv f (n / 2)
def R6 (n:Nat):List Bool:=xFv 40 n
inductive Cap where
 |k (c:Nat)
 |r (l o0:Nat)
inductive V where
 |int (k:ag) (n:Int)
 |bool (b:Bool)
 |str (l:List Nat)
 |ptr (a:Option (Nat×Nat))
 |sl (a:Option (Nat×Nat)) (n:Nat) (c:Cap)
 |map (r:Option Nat)
 |agg (l:List V)
 |je (l:List V)
 |fn (f:Nat) (first cap:List V)
 |T8
inductive fq where
 |cells (xs:List V) (t:ae) (Dy:Option Nat)
 |map (es:List (V×V×Nat)) (clock:Nat)
 |iter (s:List Nat) (pos:Nat)
structure St where
 h:Tr fq
 nx:Nat
def St.get (s:St) (b:Nat):Option fq:=Tr.get (R6 b) s.h
def St.set (s:St) (b:Nat) (o:fq):St:=⟨Tr.set (ay o) (R6 b) s.h,s.nx⟩
def St.del (s:St) (b:Nat):St:=⟨Tr.set az (R6 b) s.h,s.nx⟩
def St.new (s:St) (o:fq):St:=⟨Tr.set (ay o) (R6 s.nx) s.h,s.nx+1⟩
@[reducible] def I5:=Nat->Nat×Nat
def cvs (φ:I5) (b o n:Nat):Cap->am
 | .k _=>⟨(φ b).1,o,az⟩
 | .r l o0=>⟨(φ b).1,bif cw n 0 && cw (φ b).2 l then o0 else o,az⟩
def cvc (φ:I5) (b:Nat):Cap->Nat
 | .k c=>c
 | .r l _=>(φ b).2-l
mutual
def cv (φ:I5):V->ab
 | .int k n=> .int k n
 | .bool b=> .bool b
 | .str l=> .string (bs l)
 | .ptr az=> .pointer az
 | .ptr (ay (b,o))=> .pointer (ay ⟨(φ b).1,o,az⟩)
 | .sl az n c=> .slice az n (match c with| .k c=>c| .r _ _=>0)
 | .sl (ay (b,o)) n c=> .slice (ay (cvs φ b o n c)) n (cvc φ b c)
 | .map az=> .map az
 | .map (ay b)=> .map (ay (φ b).1)
 | .agg l=> .agg (Ih φ l).toArray
 | .je l=> .tuple (Ih φ l).toArray
 | .fn f a b=> .func (.func f) (Ih φ a).toArray (Ih φ b).toArray
 | .T8=> .nilFunc
def Ih (φ:I5):List V->List ab
 |[]=>[]
 |v::l=>cv φ v::Ih φ l
end
def RH {α:Type}:List (Option α)->Option (List α)
 |[]=>ay []
 |some a::l=>match RH l with
  |some r=>ay (a::r)
  |none=>az
 |none::_=>az
def J3 (ρ:Tr V):Option Nat->V->Tr V
 |none,_=>ρ
 |some d,v=>Tr.set (ay v) (R6 d) ρ
def xm:ag->ag->Bool
 | .i8,.i8=>bo| .i16,.i16=>bo| .i32,.i32=>bo| .i64,.i64=>bo
 | .u8,.u8=>bo| .u16,.u16=>bo| .u32,.u32=>bo| .u64,.u64=>bo
 |_,_=>bu
def ieq:Int->Int->Bool
 | .ofNat a,.ofNat b=>cw a b
 | .negSucc a,.negSucc b=>cw a b
 |_,_=>bu
def aeq:Option (Nat×Nat)->Option (Nat×Nat)->Bool
 |none,az=>bo
 |some (a,b),ay (c,d)=>cw a c && cw b d
 |_,_=>bu
def X3:ag->Nat
 | .i8=>128| .i16=>32768| .i32=>2147483648| .i64=>9223372036854775808
 | .u8=>256| .u16=>65536| .u32=>4294967296| .u64=>18446744073709551616
def wr (k:ag):Int->Int
 | .ofNat n=>bif cx n (X3 k)then .ofNat n else k.wrap (.ofNat n)
 |x=>k.wrap x
def RC:ag->Nat
 | .i8=>256| .i16=>65536| .i32=>4294967296| .i64=>18446744073709551616
 | .u8=>256| .u16=>65536| .u32=>4294967296| .u64=>18446744073709551616
def xKw (k:ag):Int->Int->Int
 | .ofNat a,.ofNat b=>wr k (.ofNat (Nat.land (a % RC k) (b % RC k)))
 |a,b=>CH k a b
def fOr (k:ag):Int->Int->Int
 | .ofNat a,.ofNat b=>wr k (.ofNat (Nat.lor (a % RC k) (b % RC k)))
 |a,b=>HU k a b
def y9s (k:ag):Int->Int->Int
 | .ofNat a,.ofNat b=>wr k (.ofNat (a*2 ^ (Nat.min b k.bits)))
 |a,b=>JU k a b
def W7 (P:aa) (t:ae):Bool:=
 match P.underlying t with
 |some (.pointer _)=>bo
 |_=>bu
def Ir (P:aa) (t:ae):Bool:=
 match P.underlying t with
 |some (.slice _)=>bo
 |_=>bu
def yAf (P:aa) (t:ae):Bool:=
 match P.underlying t with
 |some (.map _ _)=>bo
 |_=>bu
def LF (P:aa) (t:ae):Bool:=
 match P.underlying t with
 |some .string=>bo
 |_=>bu
def xKx (P:aa) (t:ae):Option ag:=
 match P.underlying t with
 |some (.int k)=>ay k
 |_=>az
def YX (P:aa) (s:ae) (f:Nat):Option Nat:=
 match P.underlying s with
 |some (.struct fs)=>match fs[f]? with
  |some fd=>match P.info? fd.type with
   |some i=>bif cw i.size 0 then az else ay fd.offset
   |none=>az
  |none=>az
 |_=>az
def zLr (P:aa) (s:ae) (f:Nat):Option (ae×Nat):=
 match P.underlying s with
 |some (.struct fs)=>match fs[f]? with
  |some fd=>ay (fd.type,fd.offset)
  |none=>az
 |_=>az
def UX (P:aa) (t:ae):Option (Nat×ae×Nat):=
 match P.underlying t with
 |some (.array n e)=>match P.info? e with
  |some i=>ay (n,e,i.size)
  |none=>az
 |_=>az
def apart (P:aa) (t:ae) (cs:List V) (off:Nat):Option V:=
 match ES P t with
 |some sz=>ay (.agg ((cs.drop off).take sz))
 |none=>bif CA P t then cs[off]? else az
def Lr (i:Int) (n:Nat):Option Nat:=
 match i with
 | .ofNat j=>bif cx j n then ay j else az
 |_=>az
def yRr (P:aa) (t:ae):Option (List (Option (Nat×Nat))):=
 match P.underlying t with
 |some (.struct fs)=>ay (fs.toList.map λfd=>match P.info? fd.type with
   |some i=>ay (fd.offset,i.size)
   |none=>az)
 |_=>az
def z1z (l:List (Option (Nat×Nat))) (i:Nat):Option (Nat×Nat):=
 match l[i]? with
 |some r=>r
 |none=>az
def Hx (P:aa) (t:ae):Option (ae×ae):=
 match P.underlying t with
 |some (.map k e)=>ay (k,e)
 |_=>az
def J4 (P:aa) (t:ae):Bool:=
 match P.underlying t with
 |some (.slice e)=>match P.underlying e with
  |some (.int .u8)=>bo
  |_=>bu
 |_=>bu
def rA (P:aa) (t:ae):Option Nat:=
 match P.info? t with
 |some i=>ay i.size
 |none=>az
end Cv
namespace Cv
open Go Go.RowKit
def cme (φ:I5) (e:V×V×Nat):aq:={key:=cv φ e.1,val:=cv φ e.2.1,born:=e.2.2}
def coT (φ:I5) (b:Nat):fq->Obj->Prop
 | .cells xs t az,O=>O= .cells (Ih φ xs).toArray t
 | .cells xs t (ay sz),O=>∃r,O= .cells (Ih φ xs++r).toArray t/\xs.length+r.length=(φ b).2*sz
 | .map es ck,O=>O= .map (es.map (cme φ)).toArray ck
 | .iter l pos,O=>O= .stringIter (bs l) pos
structure Rel (φ:I5) (s:St) (w:ac):Prop where
 obj:∀b o,s.get b=ay o->∃O,w.heap[(φ b).1]? =ay O/\coT φ b o O
 inj:∀b c,s.get b≠az->s.get c≠az->(φ b).1=(φ c).1->b=c
 lt:∀b,s.get b≠az->b<s.nx
def Hu (s:ByteArray):bs (s.data.toList.map UInt8.toNat)=s:=by
 unfold bs;rw[wx];have:(Nat.toUInt8∘UInt8.toNat)=id:=by
  funext x;simp[Nat.toUInt8]
 rw[this];simp
def Zf {off:Nat}:∀(vs:List ab) (k:Nat) (l:List ab),off+k+vs.length<=l.length->
 List.foldl (λ(cs:Array ab) (p:ab×Nat)=>cs.setIfInBounds (off+p.2) p.1) l.toArray (vs.zipIdx k)=(lg l (off+k) vs).toArray
 |[],k,l,_=>by simp[lg]
 |v::vs,k,l,h=>by
  simp only[iG]at h;simp only[List.zipIdx_cons,Be,List.setIfInBounds_toArray];rw[Zf vs (k+1) (l.set (off+k) v) (by rw[qj];omega),show off+(k+1)=off+k+1 by omega,Vp X_]
end Cv
namespace Cv
open Go Go.RowKit
def zZl {k k':ag} (h:xm k k'=bo):k=k':=by cases k<;>cases k'<;>first|rfl|cases h
def yBf {k:ag} {n:Nat} (h:n<X3 k):k.wrap (.ofNat n)= .ofNat n:=by
 cases k<;>simp only[X3]at h<;>simp[dh,IntKind.bits,di]<;>omega
def Xx (k:ag) (x:Int):wr k x=k.wrap x:=by
 cases x with
 |ofNat n=>
  simp only[wr];cases h:cx n (X3 k)
  ·rfl
  ·exact(yBf (by simpa[yx]using h)).symm
 |negSucc n=>rfl
def y1c (k:ag):RC k=2 ^ k.bits:=by cases k<;>rfl
def zPf (w a:Nat):da w (Int.ofNat a)=BitVec.ofNat w a:=by
 apply BitVec.eq_of_toNat_eq;simp
def xBk (k:ag) (a b:Int):fOr k a b=HU k a b:=by
 unfold fOr;split
 ·rename_i a b;rw[Xx,y1c];unfold HU;rw[zPf,zPf];simp only[BitVec.toNat_or,BitVec.toNat_ofNat];rfl
 ·rfl
def y0h (k:ag) (a b:Int):y9s k a b=JU k a b:=by
 unfold y9s;split
 ·rename_i a b;rw[Xx];unfold JU;congr 1
 ·rfl
end Cv
namespace Cv
open Go Go.RowKit
def z6l {P:aa} {t:ae} (h:W7 P t=bo):∃e,P.underlying t=ay (.pointer e):=by
 unfold W7 at h;split at h
 ·exact⟨_,by assumption⟩
 ·cases h
def eF {P:aa} {t:ae} (h:Ir P t=bo):∃e,P.underlying t=ay (.slice e):=by
 unfold Ir at h;split at h
 ·exact⟨_,by assumption⟩
 ·cases h
def z6o {P:aa} {t:ae} (h:yAf P t=bo):∃k e,P.underlying t=ay (.map k e):=by
 unfold yAf at h;split at h
 ·exact⟨_,_,by assumption⟩
 ·cases h
def pU {P:aa} {t:ae} (h:LF P t=bo):P.underlying t=ay .string:=by
 unfold LF at h;split at h
 ·assumption
 ·cases h
end Cv
namespace Cv
open Go Go.RowKit
def yZ {α:Type} {b:Bool} {x:Option α} {v:α} (h:(bif b then x else az)=ay v):b=bo/\x=ay v:=by
 cases b
 ·cases h
 ·exact⟨rfl,h⟩
def zUy {i:Int} {n j:Nat} (h:Lr i n=ay j):i=(j:Int)/\j<n:=by
 unfold Lr at h;split at h
 ·rename_i m;obtain⟨hb,h⟩:=yZ h;simp only[ct]at h;subst h;exact⟨rfl,by simpa[yx]using hb⟩
 ·cases h
def zWj {P:aa} {s f off:Nat} (h:YX P s f=ay off):∃fs fd i,P.underlying s=ay (.struct fs)/\fs[f]? =ay fd/\P.info? fd.type=ay i/\i.size≠0/\fd.offset=off:=by
 unfold YX at h;split at h<;>first|(cases h;done)|skip
 rename_i fs yg;split at h<;>first|(cases h;done)|skip
 rename_i fd SG;split at h<;>first|(cases h;done)|skip
 rename_i i hi;cases hb:cw i.size 0
 ·rw[hb]at h;simp only[cond_false,ct]at h;exact⟨fs,fd,i,yg,SG,hi,(λe=>by rw[e]at hb;cases hb),h⟩
 ·rw[hb]at h;cases h
def zSc {P:aa} {s f ft off:Nat} (h:zLr P s f=ay (ft,off)):∃fs fd,P.underlying s=ay (.struct fs)/\fs[f]? =ay fd/\fd.type=ft/\fd.offset=off:=by
 unfold zLr at h;split at h<;>first|(cases h;done)|skip
 rename_i fs yg;split at h<;>first|(cases h;done)|skip
 rename_i fd SG;simp only[ct,dj]at h;exact⟨fs,fd,yg,SG,h.1,h.2⟩
def zIu {P:aa} {t n e sz:Nat} (h:UX P t=ay (n,e,sz)):∃i,P.underlying t=ay (.array n e)/\P.info? e=ay i/\i.size=sz:=by
 unfold UX at h;split at h<;>first|(cases h;done)|skip
 rename_i n' e' ht;split at h<;>first|(cases h;done)|skip
 rename_i i hi;simp only[ct,dj]at h;obtain⟨rfl,rfl,rfl⟩:=h;exact⟨i,ht,hi,rfl⟩
def zWn {α:Type}:∀{l:List (Option α)} {L:List α},RH l=ay L->l=L.map ay
 |[],L,h=>by simp only[RH,ct]at h;subst h;rfl
 |none::l,L,h=>by cases h
 |some a::l,L,h=>by
  simp only[RH]at h;split at h<;>first|(cases h;done)|skip
  rename_i r hr;simp only[ct]at h;subst h;rw[jg,<- zWn hr]
def zUw {P:aa} (w:ac):∀{fs:List Field} {L:List (Nat×Nat)},
 (fs.map λfd=>match P.info? fd.type with|some i=>ay (fd.offset,i.size)|none=>az)=L.map ay->
 ((fs.mapM λf=>(do pure (f.offset,<- Go.sizeOf f.type):Sem (Nat×Nat))):Sem (List (Nat×Nat))).run P w= .ok L w
 |[],L,h=>by
  cases L with
  |nil=>rfl
  |cons a l=>cases h
 |fd::fs,L,h=>by
  cases L with
  |nil=>cases h
  |cons a l=>
   simp only[jg,List.cons.injEq]at h;obtain⟨h1,h2⟩:=h;split at h1<;>first|(cases h1;done)|skip
   rename_i i hi;simp only[ct]at h1;subst h1;have ih:=zUw w h2;simp only[dc,bind,pure,run_bind,be,bc,run_sizeOf hi]at ih ⊢;rw[ih]
def wF {ρ:Env} {o:aj} {c:Call} {b:Builtin} (ho:o.op= .call c) (hc:c.callee= .builtin b):
 af (ev ρ) o=builtin b c.argTypes o.type (c.args.map λ| .const _=>bo|_=>bu) (c.args.map (ev ρ)):=by
 have tx:af (ev ρ) o=(ar (ev ρ) c o.type).bind λd=>invoke d.target d.args:=by
  simp only[af,ho];rfl
 rw[tx];unfold ar;rw[hc];rfl
end Cv
