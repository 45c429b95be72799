/- Texts of ours. No condition. -/
import Derived.Deep.LoopGhost
import Derived.KernelRfl
import Derived.Lib.Strings
import Derived.Orders
import Derived.WalkKit
set_option linter.all false
open Go renaming Program->aa,Value->ab,World->ac,TypeId->ae,execOp->af,IntKind->ag,Oper->aj,eqGuard->ak,Addr->am,undef->ao,Operand->ap,MapEntry->aq,resolve->ar,callFunc->au,FuncId->av,wp_mono->aw,convert->ax
open Option renaming some->ay,none->az,map_eq_some_iff->ba
open Go.Sem renaming run->bc,bind->be,pure->bg
open Bool renaming true->bo,false->bu,or_eq_true->bv
open Go.Builtin renaming firstCells->bz,zeroCells->cd,append_->ce,len_->cf,copy_->cg
open Go.Region renaming ready->ci,binds->cm,wanted->cn
open Go.Instr renaming sliceBounds->co,lookup->cp,typeAssert->cq
open Option.some renaming injEq->cr,inj->ct
open Nat renaming beq->cu,blt->cw,ble->cx
open Int renaming toNat->cy
open BitVec renaming ofInt->cz
open List renaming range->da,mapM_cons->dc
open Array renaming replicate->dd,ext'->de
open Go.IntKind renaming i64->df
open Prod.mk renaming injEq->dh
def im:=@List.length_append
def ej:=@if_neg
def ia:=@List.length_map
def fc:=@if_pos
def jl:=@List.getElem?_eq_some_iff
def iD:=@List.length_cons
def iX:=@Nat.eq_of_beq_eq_true
def ji:=@List.mem_cons_self
def jd:=@List.append_assoc
def jw:=@List.mem_cons_of_mem
def np:=@List.getD_eq_getElem?_getD
def lr:=@List.mem_of_getElem?
def jk:=@List.map_append
def og:=@List.take_of_length_le
def kx:=@Bool.and_eq_true
def jo:=@List.map_cons
def kr:=@decide_eq_false
def mg:=@List.perm_middle
def lg:=@decide_eq_true
def ow:=@Int.toNat_natCast
def oD:=@Bool.false_eq_true
def oe:=@List.length_take
def mf:=@List.mem_cons
def km:=@Nat.le_refl
def oL:=@List.append_nil
def oV:=@List.length_drop
def pj:=@of_decide_eq_true
def nw:=@Nat.zero_add
def my:=@Nat.zero_le
def xu:=@List.eq_nil_of_length_eq_zero
def xq:=@List.take_append_of_le_length
def vd:=@List.getElem?_eq_getElem
def pn:=@List.mem_append
def tx:=@List.getElem?_eq_none
def su:=@List.mem_map_of_mem
def qp:=@List.length_set
def sm:=@List.take_add_one
def ui:=@List.map_congr_left
def vg:=@List.take_succ_cons
def tw:=@decide_eq_true_eq
def pk:=@List.mem_map
def wj:=@Nat.mul_le_mul_right
def vf:=@List.mem_singleton
def qv:=@List.sum_cons
def tv:=@List.cons_append
def uq:=@List.getElem?_map
def tp:=@List.length_nil
def xx:=@List.mem_append_left
def vx:=@List.flatMap_cons
def zg:=@List.mem_append_right
def BV:=@Array.getD_eq_getD_getElem?
def yi:=@List.flatMap_append
def AS:=@List.getElem?_cons_succ
def ve:=@List.mem_filter
def AF:=@List.getElem?_toArray
def AE:=@List.length_singleton
def vw:=@Option.map_some
def Cy:=@List.getElem?_append_right
def AR:=@List.perm_append_comm
def BA:=@Nat.le_of_ble_eq_true
def Bz:=@List.take_append_drop
def Dq:=@List.drop_eq_getElem_cons
def uo:=@Nat.lt_or_ge
def zx:=@List.nodup_append
def Cx:=@List.getElem?_cons_zero
def zf:=@Option.getD_some
def ED:=@List.drop_append_of_le_length
def yh:=@List.nil_append
def BU:=@List.mem_iff_getElem?
def AD:=@List.flatten_cons
def AQ:=@List.getElem?_drop
def vu:=@List.map_map
def ze:=@List.nodup_cons
def AB:=@List.mem_flatMap
def EC:=@List.getElem?_append_left
def xw:=@Nat.le_trans
def By:=@List.take_length
def zw:=@Bool.true_and
def zd:=@Nat.succ_mul
def yg:=@Int.le_refl
def Gx:=@Array.getElem?_eq_none
def xv:=@Nat.blt_eq
def zc:=@Nat.add_mul
def D0:=@Option.toList_some
def BT:=@List.mem_range
def Gw:=@List.length_replicate
def Dp:=@List.all_eq_true
def MU:=@List.set_eq_take_append_cons_drop
def Hh:=@List.drop_eq_nil_of_le
def MT:=@List.findIdx?_eq_some_iff_getElem
def Cw:=@List.drop_drop
def Cu:=@Bool.false_and
def Hg:=@List.length_filter_le
def EB:=@Bool.not_eq_true'
def Dn:=@List.drop_zero
def Gv:=@List.getElem?_set
def Dm:=@Nat.add_assoc
def Ct:=@List.map_nil
def EA:=@List.foldl_cons
def Hf:=@List.pairwise_cons
def IW:=@List.mem_of_mem_drop
def Ud:=@Array.getElem?_setIfInBounds_self_of_lt
def He:=@List.ext_getElem?
def IV:=@Array.length_toList
def Gu:=@Nat.min_eq_left
def IU:=@List.getElem?_take
def IT:=@List.prefix_append
def DZ:=@List.set_set
def IS:=@List.filter_append
def Ez:=@List.map_take
def OL:=@Array.getElem?_setIfInBounds
def KF:=@Bool.or_eq_false_iff
def IQ:=@List.size_toArray
def IP:=@List.foldl_append
def KE:=@List.replicate_succ
def KD:=@List.getElem?_range
def Ey:=@Nat.add_zero
def Ex:=@Int.mul_comm
def OK:=@List.perm_append_singleton
def IN:=@List.prefix_refl
def Hc:=@List.take_zero
def KC:=@of_decide_eq_false
def OJ:=@Array.getElem?_eq_getElem
def OI:=@List.findIdx?_eq_none_iff
def OH:=@List.getElem?_zip_eq_some
def Uc:=@Array.getElem?_setIfInBounds_ne
def MS:=@List.mem_of_mem_take
def IM:=@Bool.eq_iff_iff
def MQ:=@List.getElem?_of_mem
def IL:=@List.range_succ
def Hb:=@List.map_drop
def Ub:=@Int.mul_le_mul_of_nonneg_left
def OG:=@List.filter_cons_of_pos
def OF:=@List.filter_cons_of_neg
def MP:=@List.flatten_append
def MO:=@List.length_flatMap
def IK:=@Bool.not_false
def KB:=@List.drop_append
def IJ:=@Bool.and_false
def KA:=@List.flatMap_nil
def Kz:=@Nat.lt_succ_self
def MN:=@List.mem_filterMap
def Ha:=@Nat.add_comm
def Ky:=@Option.map_none
def OE:=@List.modify_succ_cons
def MM:=@List.any_eq_false
def OD:=@Array.toArray_toList
def II:=@Nat.sub_self
def Ua:=@Array.getElem?_replicate
def ML:=@List.not_mem_nil
def T9:=@Option.isSome_iff_exists
def T8:=@List.eq_of_mem_replicate
def OC:=@List.filter_eq_self
def OB:=@List.filter_sublist
def xEs:=@List.takeWhile_append_dropWhile
def Kx:=@Bool.false_or
def OA:=@Array.ext_getElem?
def Oz:=@List.set_cons_zero
def Oy:=@List.set_cons_succ
def MK:=@Int.emod_nonneg
def Ox:=@Int.emod_lt_of_pos
def MJ:=@List.find?_cons
def MI:=@List.sum_append
def MH:=@List.take_left
def MG:=@Int.mul_nonneg
namespace Cv
open Go
@[reducible] def Env:=Nat->ab
def put (ρ:Env):Option Nat->ab->Env
 |none,_=>ρ
 |some d,v=>λi=>bif cu i d then v else ρ i
def ev (ρ:Env):ap->ab
 | .tmp t=>ρ t
 | .const v=>v
 | .global g=> .pointer (ay ⟨g,0,az⟩)
 | .func f=> .func (.func f) #[] #[]
def uQ {α:Type} (P:aa):Sem α->Option α
 | .pure a=>ay a
 | .program k=>uQ P (k P)
 | .mark _ k=>uQ P k
 |_=>az
def wX {α:Type} {P:aa}:∀{s:Sem α} {a:α},uQ P s=ay a->∀w,s.run P w= .ok a w:=by
 intro s
 induction s with
 |pure a=>intro b h w;simp only[uQ,cr]at h;subst h;rfl
 |program k ih=>intro b h w;simp only[uQ]at h;exact ih _ h w
 |mark m k ih=>intro b h w;simp only[uQ]at h;exact ih h w
 |_=>intro b h w;simp[uQ]at h
def run_bind {α β:Type} (P:aa) (s:Sem α) (f:α->Sem β) (w:ac):(s.bind f).run P w=match s.run P w with| .ok a w'=>(f a).run P w'| .halt h w'=> .halt h w':=by
 induction s generalizing w with
 |pure a=>rfl
 |halt h=>rfl
 |load m a k ih=>simp only[be,bc];split<;>first|exact ih _ _|(split<;>first|exact ih _ _|rfl)
 |store m a v k ih=>
  cases v<;>simp only[be,bc]<;>first|rfl|(split<;>first|(split<;>first|exact ih _|rfl))
 |new o k ih=>exact ih _ _
 |shape r k ih=>exact ih _ _
 |freeze a n k ih=>exact ih _
 |frozen a k ih=>exact ih _ _
 |getObj r k ih=>simp only[be,bc];split<;>first|rfl|exact ih _ _
 |setObj r o k ih=>simp only[be,bc];split<;>first|rfl|exact ih _
 |choose q k ih=>simp only[be,bc];split<;>exact ih _ _
 |sys c k ih=>exact ih _ _
 |program k ih=>exact ih _ _
 |mark m k ih=>exact ih _
inductive Sh where
 |int (k:ag)|bool|str|ptr|sl|map|any
def yIu:ab->Sh
 | .int k _=> .int k
 | .bool _=> .bool
 | .string _=> .str
 | .pointer _=> .ptr
 | .slice _ _ _=> .sl
 | .map _=> .map
 |_=> .any
def CI:Sh->(ab->Prop)->Prop
 | .int k,K=>∃n:Int,K (.int k n)
 | .bool,K=>∃b:Bool,K (.bool b)
 | .str,K=>∃s:ByteArray,K (.string s)
 | .ptr,K=>∃a:Option am,K (.pointer a)
 | .sl,K=>∃(a:Option am) (n c:Nat),K (.slice a n c)
 | .map,K=>∃r:Option Nat,K (.map r)
 | .any,K=>∃v:ab,K v
def wA {s:Sh} {K:ab->Prop} (h:CI s K):∃v,K v:=by
 cases s<;>simp only[CI]at h<;>first|(obtain⟨n,h⟩:=h;exact⟨_,h⟩)|(obtain⟨a,n,c,h⟩:=h;exact⟨_,h⟩)
def exL:List ab->(List ab->Prop)->Prop
 |[],K=>K []
 |z::zs,K=>CI (yIu z) λv=>exL zs λvs=>K (v::vs)
def yAn:∀{zs:List ab} {K:List ab->Prop},exL zs K->∃vs,K vs
 |[],_,h=>⟨_,h⟩
 |_::_,_,h=>let⟨_,h1⟩:=wA h;let⟨_,h2⟩:=yAn h1;⟨_,h2⟩
structure Raw where
 i:Nat->Int
 b:Nat->Bool
 s:Nat->ByteArray
 p:Nat->Option am
 a:Nat->Option am
 n:Nat->Nat
 k:Nat->Nat
 m:Nat->Option Nat
 v:Nat->ab
def Raw.cell (r:Raw) (j:Nat):ab->ab
 | .int k _=> .int k (r.i j)
 | .bool _=> .bool (r.b j)
 | .string _=> .string (r.s j)
 | .pointer _=> .pointer (r.p j)
 | .slice _ _ _=> .slice (r.a j) (r.n j) (r.k j)
 | .map _=> .map (r.m j)
 |_=>r.v j
def y5t (r:Raw):List ab->Nat->List ab
 |[],_=>[]
 |z::zs,j=>r.cell j z::y5t r zs (j+1)
def y6k (z:ab) (r:Raw):ab:=
 match z with
 | .agg cs=> .agg (y5t r cs.toList 0).toArray
 |z=>z
def exV:ab->(ab->Prop)->Prop
 | .agg cs,K=>bif cx cs.size 9 then exL cs.toList λvs=>K (.agg vs.toArray)else ∃r:Raw,K (y6k (.agg cs) r)
 |z,K=>CI (yIu z) K
def vA {z:ab} {K:ab->Prop} (h:exV z K):∃v,K v:=by
 cases z<;>simp only[exV]at h<;>first
  |exact wA h
  |(revert h;cases cx _ 9<;>intro h
    ·obtain⟨r,h⟩:=h;exact⟨_,h⟩
    ·obtain⟨_,h⟩:=yAn h;exact⟨_,h⟩)
def y0r (P:aa) (t:ae):ab:=
 match P.info? t with
 |some i=>i.zero.getD ao
 |none=>ao
def Ee (P:aa) (t:ae) (K:ab->Prop):Prop:=exV (y0r P t) K
def ZE (P:aa):List ae->(List ab->Prop)->Prop
 |[],K=>K []
 |t::ts,K=>Ee P t λv=>ZE P ts λvs=>K (v::vs)
def z2o {P:aa}:∀{ts:List ae} {K:List ab->Prop},ZE P ts K->∃vs,K vs
 |[],_,h=>⟨_,h⟩
 |_::_,_,h=>let⟨_,h1⟩:=vA h;let⟨_,h2⟩:=z2o h1;⟨_,h2⟩
def Pw (P:aa) (t:ae) (K:ab->Prop):Prop:=
 match P.underlying t with
 |some (.tuple ts)=>ZE P ts.toList λvs=>K (.tuple vs.toArray)
 |_=>Ee P t K
def z9b {P:aa} {t:ae} {K:ab->Prop} (h:Pw P t K):∃v,K v:=by
 unfold Pw at h;split at h
 ·obtain⟨_,h⟩:=z2o h;exact⟨_,h⟩
 ·exact vA h
def gE (P:aa) (t:ae):Option Nat:=
 match P.underlying t with
 |some (.slice e)=>(P.info? e).map λ(x:TypeInfo)=>x.size
 |_=>az
def bZ (P:aa) (t:ae):Option (Nat×Nat):=
 match P.underlying t with
 |some (.array n e)=>(P.info? e).map λ(x:TypeInfo)=>(n,x.size)
 |_=>az
def Iq (p:Option am) (K:am->Prop):Prop:=
 match p with
 |some a=>K a
 |none=>False
def ZN (p:Option am) (n:Nat) (i:Int) (K:am->Prop):Prop:=
 match p with
 |some a=>(0<=i/\i<n)/\K a
 |none=>False
def yVs (s:ByteArray) (i:Int) (K:UInt8->Prop):Prop:=∃b:UInt8,(0<=i/\s[i.toNat]?=ay b)/\K b
def sy (p:Option am) (n c:Nat) (lo hi:Option Int) (sz:Nat) (K:Option am->Nat->Nat->Prop):Prop:=
 match lo,hi with
 |none,az=>(n<=c)/\K p n c
 |some l,az=>(0<=l/\l<=n/\n<=c)/\K (if c=l.toNat then p else p.map (·.add (l.toNat*sz))) (n-l.toNat) (c-l.toNat)
 |none,ay h=>(0<=h/\h<=c)/\K p h.toNat c
 |some l,ay h=>(0<=l/\l<=h/\h<=c)/\K (if c=l.toNat then p else p.map (·.add (l.toNat*sz))) (h.toNat-l.toNat) (c-l.toNat)
def ZH (p:Option am) (c:Nat) (l h m:Int) (sz:Nat) (K:Option am->Nat->Nat->Prop):Prop:=
 (0<=l/\l<=h/\h<=m/\m<=c)/\K (if m.toNat=l.toNat then p else p.map (·.add (l.toNat*sz))) (h.toNat-l.toNat) (m.toNat-l.toNat)
def yUj (s:ByteArray) (lo hi:Option Int) (K:ByteArray->Prop):Prop:=
 match lo,hi with
 |none,az=>K s
 |some l,az=>(0<=l/\l<=s.size)/\K (s.extract l.toNat s.size)
 |none,ay h=>(0<=h/\h<=s.size)/\K (s.extract 0 h.toNat)
 |some l,ay h=>(0<=l/\l<=h/\h<=s.size)/\K (s.extract l.toNat h.toNat)
def CN (ρ:Env):Option ap->Option (Option Int)
 |none=>ay az
 |some x=>match ev ρ x with
  | .int _ n=>ay (ay n)
  |_=>az
def DS (l h:Option (Option Int)) (K:Option Int->Option Int->Prop):Prop:=
 match l,h with
 |some l,ay h=>K l h
 |_,_=>False
def dM (P:aa) (t:ae) (x:ab):Option Bool:=
 match P.underlying t,x with
 |some (.pointer _),.pointer p=>ay p.isNone
 |some (.slice _),.slice p _ _=>ay p.isNone
 |some (.map _ _),.map r=>ay r.isNone
 |_,_=>az
def y8r:ab->Bool
 | .pointer az=>bo
 | .slice az _ _=>bo
 | .map az=>bo
 |_=>bu
def TG:ab->Bool
 | .pointer az=>bo
 |_=>bu
def ID:ab->Bool
 | .slice az _ _=>bo
 |_=>bu
def TH:ab->Bool
 | .map az=>bo
 |_=>bu
def L3 (P:aa) (s:Sem Next) (K:ab->Prop):Prop:=
 match uQ P s with
 |some (.value v)=>K v
 |_=>False
def yUg (P:aa) (neg:Bool) (t:ae) (x y:ab) (K:Bool->Prop):Prop:=
 ∃b:Bool,uQ P (Op.equal t x y)=ay b/\uQ P (ak (if neg then .neq else .eql) t (.tmp 0) (.tmp 0) x y)=ay ()/\
  (match y with| .agg _=>bo|_=>bu)=bo/\K (if neg then !b else b)
def Kh (o:Option Bool) (K:Bool->Prop):Prop:=
 match o with
 |some r=>K r
 |none=>False
def rK {o:Option Bool} {K:Bool->Prop} (h:Kh o K):∃r,o=ay r/\K r:=by
 cases o with
 |none=>exact h.elim
 |some r=>exact⟨r,rfl,h⟩
def y4a (k k':ag) (b:Int) (A:Prop):Prop:=k=k'/\b≠0/\A
def shN (b:Int) (A:Prop):Prop:=0<=b/\A
def y7s (a b:ByteArray) (A:Prop):Prop:=(((a.size+b.size:Nat):Int)<=df.max)/\A
def Px (k k':ag) (A:Prop):Prop:=
 match k,k' with
 | .i8,.i8=>A
 | .i16,.i16=>A
 | .i32,.i32=>A
 | .i64,.i64=>A
 | .u8,.u8=>A
 | .u16,.u16=>A
 | .u32,.u32=>A
 | .u64,.u64=>A
 |_,_=>False
def Sg {k k':ag} {A:Prop} (h:Px k k' A):k=k'/\A:=by
 cases k<;>cases k'<;>first|exact⟨rfl,h⟩|exact h.elim
def Iz (k:ag) (a b:Int):Int:=k.wrap (a*2 ^ (min b.toNat k.bits))
def bD (k:ag) (a b:Int):Int:=a.fdiv (2 ^ (min b.toNat k.bits))
def BN (k:ag) (a b:Int):Int:=k.wrap ((cz k.bits a &&& cz k.bits b).toNat:Int)
def GA (k:ag) (a b:Int):Int:=k.wrap ((cz k.bits a|||BitVec.ofInt k.bits b).toNat:Int)
def BP (k:ag) (a b:Int):Int:=k.wrap ((cz k.bits a ^^^ cz k.bits b).toNat:Int)
def NU (k:ag) (a b:Int):Int:=k.wrap ((cz k.bits a &&& ~~~ cz k.bits b).toNat:Int)
def dV (P:aa) (o:aj) (ρ:Env) (K:ab->Prop):Prop:=
 match o.op with
 | .move x=>K (ev ρ x)
 | .assign x=>K (ev ρ x)
 | .pick c a b=>
   match ev ρ c with
   | .bool t=>K (bif t then ev ρ a else ev ρ b)
   |_=>False
 | .nilCheck x=>
   match ev ρ x with
   | .pointer p=>Iq p λa=>K (.pointer (ay a))
   |_=>L3 P (af (ev ρ) o) K
 | .indexAddr t x i=>
   match ev ρ x,ev ρ i with
   | .slice p n _,.int _ i=>match gE P t with
     |some sz=>ZN p n i λa=>K (.pointer (ay (a.add (i.toNat*sz))))
     |none=>False
   | .pointer p,.int _ i=>match bZ P t with
     |some (len,sz)=>ZN p len i λa=>K (.pointer (ay (a.add (i.toNat*sz))))
     |none=>False
   |_,_=>False
 | .index t x i=>
   match ev ρ x,ev ρ i with
   | .string s,.int _ i=>match P.underlying t with
     |some .string=>yVs s i λb=>K (.int .u8 b.toNat)
     |_=>False
   |x,j=>match i with
    | .const _=>L3 P (af (ev ρ) o) K
    |_=>Ee P o.type λv=>uQ P (Instr.index t x j)=ay v/\K v
 | .panic _=>False
 | .typeAssert x xT asserted ok=>
   match ok with
   |true=>Ee P asserted λv=>CI .bool λb=>uQ P (cq (ev ρ x) xT asserted bo)=ay (.tuple #[v,b])/\K (.tuple #[v,b])
   |false=>Ee P asserted λv=>uQ P (cq (ev ρ x) xT asserted bu)=ay v/\K v
 | .slice t x lo hi mx=>
   match ev ρ x,mx with
   | .slice p _ c,ay m=>match gE P t,CN ρ lo,CN ρ hi,ev ρ m with
     |some sz,ay (ay l),ay (ay h),.int _ m=>ZH p c l h m sz λp n c=>K (.slice p n c)
     |_,_,_,_=>False
   | .slice p n c,az=>match gE P t with
     |some sz=>DS (CN ρ lo) (CN ρ hi) λl h=>sy p n c l h sz λp n c=>K (.slice p n c)
     |none=>False
   | .string s,az=>match P.underlying t with
     |some .string=>DS (CN ρ lo) (CN ρ hi) λl h=>yUj s l h λs=>K (.string s)
     |_=>False
   | .pointer p,az=>match bZ P t with
     |some (n,sz)=>Iq p λa=>DS (CN ρ lo) (CN ρ hi) λl h=>sy (ay a) n n l h sz λp n c=>K (.slice p n c)
     |none=>False
   |_,_=>False
 | .binOp op t x y _=>
   match op,ev ρ x,ev ρ y with
   | .quo,.int k a,.int k' b=>y4a k k' b (K (.int k (k.wrap (a.tdiv b))))
   | .rem,.int k a,.int k' b=>y4a k k' b (K (.int k (a.tmod b)))
   | .shl,.int k a,.int _ b=>shN b (K (.int k (Iz k a b)))
   | .shr,.int k a,.int _ b=>shN b (K (.int k (bD k a b)))
   | .and,.int k a,.int k' b=>Px k k' (K (.int k (BN k a b)))
   | .or,.int k a,.int k' b=>Px k k' (K (.int k (GA k a b)))
   | .xor,.int k a,.int k' b=>Px k k' (K (.int k (BP k a b)))
   | .andNot,.int k a,.int k' b=>Px k k' (K (.int k (NU k a b)))
   | .add,.string a,.string b=>y7s a b (K (.string (a++b)))
   | .eql,.pointer p,b=>bif TG b then(Kh (dM P t (.pointer p)) λr=>K (.bool r))else False
   | .neq,.pointer p,b=>bif TG b then(Kh (dM P t (.pointer p)) λr=>K (.bool !r))else False
   | .eql,.slice p n c,b=>bif ID b then(Kh (dM P t (.slice p n c)) λr=>K (.bool r))else False
   | .neq,.slice p n c,b=>bif ID b then(Kh (dM P t (.slice p n c)) λr=>K (.bool !r))else False
   | .eql,.map r,b=>bif TH b then(Kh (dM P t (.map r)) λr=>K (.bool r))else False
   | .neq,.map r,b=>bif TH b then(Kh (dM P t (.map r)) λr=>K (.bool !r))else False
   | .eql,.agg a,b=>yUg P bu t (.agg a) b λr=>K (.bool r)
   | .neq,.agg a,b=>yUg P bo t (.agg a) b λr=>K (.bool r)
   |_,_,_=>L3 P (af (ev ρ) o) K
 |_=>L3 P (af (ev ρ) o) K
def Em (P:aa) (s:Sem Next) (v:ab):Prop:=∀w,s.run P w=.ok (.value v) w
def cO {P:aa} {s:Sem Next} {K:ab->Prop} (h:L3 P s K):∃v,K v/\Em P s v:=by
 unfold L3 at h;split at h
 ·rename_i v hv;exact⟨v,h,wX hv⟩
 ·exact h.elim
def Addr.add_zero (a:am):a.add 0=a:=by simp[Addr.add]
def sY (p:Option am):p.map (·.add 0)=p:=by cases p<;>simp[Addr.add_zero]
def yC {P:aa} {s:Sem ab} {v:ab} (h:∀w,s.run P w= .ok v w):Em P (do pure (Next.value (<- s))) v:=by
 intro w;show(s.bind λa=> .pure (Next.value a)).run P w=_;rw[run_bind,h w];rfl
def YJ {P:aa} {t:ae} {sz:Nat} (h:gE P t=ay sz):∃e i,P.underlying t=ay (.slice e)/\P.info? e=ay i/\i.size=sz:=by
 unfold gE at h;split at h
 ·rename_i e he;cases hi:P.info? e with
  |none=>simp[hi]at h
  |some i=>simp[hi]at h;exact⟨e,i,he,hi,h⟩
 ·cases h
def zFs {P:aa} {t:ae} {n sz:Nat} (h:bZ P t=ay (n,sz)):∃e i,P.underlying t=ay (.array n e)/\P.info? e=ay i/\i.size=sz:=by
 unfold bZ at h;split at h
 ·rename_i m e he;cases hi:P.info? e with
  |none=>simp[hi]at h
  |some i=>simp[hi]at h;obtain⟨rfl,h⟩:=h;exact⟨e,i,he,hi,h⟩
 ·cases h
def run_underlying {P:aa} {t:ae} {d:TypeDesc} (h:P.underlying t=ay d) (w:ac):(underlying t).run P w= .ok d w:=by
 show ((Sem.program Sem.pure).bind λp => match p.underlying t with | some d => Sem.pure d | none => stuck "no such type").run P w = _;simp only[be,bc,h]
def run_sizeOf {P:aa} {t:ae} {i:TypeInfo} (h:P.info? t=ay i) (w:ac):(Go.sizeOf t).run P w= .ok i.size w:=by
 have Hq:(typeInfo t).run P w= .ok i w:=by
  unfold typeInfo;show((Sem.program bg).bind _).run P w=_;simp only[be,bc,h];rfl
 show((typeInfo t).bind λi=>bg i.size).run P w=_;rw[run_bind,Hq];rfl
def jX {P:aa} {t:ae} {sz n c:Nat} {a:am} {k:ag} {i:Int} (h:gE P t=ay sz) (hi:0<=i/\i<n) (w:ac):
 (Instr.indexAt t (.slice (ay a) n c) (.int k i)).run P w= .ok (.pointer (ay (a.add (i.toNat*sz)))) w:=by
 obtain⟨e,ti,h1,h2,rfl⟩:=YJ h;simp only[Instr.indexAt,asIntOf,bind,pure,run_bind,be,bc,run_underlying h1,fc hi,run_sizeOf h2]
def dG {P:aa} {t:ae} {sz n:Nat} {a:am} {k:ag} {i:Int} (h:bZ P t=ay (n,sz)) (hi:0<=i/\i<n) (w:ac):
 (Instr.indexAt t (.pointer (ay a)) (.int k i)).run P w= .ok (.pointer (ay (a.add (i.toNat*sz)))) w:=by
 obtain⟨e,ti,h1,h2,rfl⟩:=zFs h;simp only[Instr.indexAt,asIntOf,Instr.sureAddr,bind,pure,run_bind,be,bc,run_underlying h1,fc hi,run_sizeOf h2]
def k0 {P:aa} {k:ag} {i:Int} {y:Nat} {code:BoundsCode} (h:0<=i/\i<=y) (w:ac):(Instr.sliceBound (.int k i) y code).run P w= .ok i.toNat w:=by
 simp only[Instr.sliceBound,asIntOf,bind,pure,be,bc,fc h]
def SP {ρ:Env} {x:Option ap} {r:Option Int} (h:CN ρ x=ay r):(x=az/\r=az)\/∃y k n,x=ay y/\ev ρ y= .int k n/\r=ay n:=by
 unfold CN at h;split at h
 ·left;exact⟨rfl,by simpa using h.symm⟩
 ·rename_i y;right;split at h
  ·rename_i k n hv;exact⟨y,k,n,rfl,hv,by simpa using h.symm⟩
  ·cases h
def rC {l h:Option (Option Int)} {K:Option Int->Option Int->Prop} (hh:DS l h K):∃a b,l=ay a/\h=ay b/\K a b:=by
 unfold DS at hh;split at hh
 ·rename_i a b;exact⟨a,b,rfl,rfl,hh⟩
 ·exact hh.elim
def Yg {P:aa} {ρ:Env} {lo hi:Option ap} {l h:Option Int} (isSlice:Bool) {len cap:Nat} (h1:CN ρ lo=ay l) (h2:CN ρ hi=ay h)
 (hlen:h=az->len<=cap) (hh:∀x,h=ay x->0<=x/\x<=cap) (hl:∀x,l=ay x->0<=x/\x<=((h.map cy).getD len:Nat)) (w:ac):
 (co isSlice len cap (lo.map (ev ρ)) (hi.map (ev ρ)) az).run P w= .ok ((l.map cy).getD 0,(h.map cy).getD len,cap) w:=by
 rcases SP h1 with⟨rfl,rfl⟩|⟨x,k,n,rfl,hx,rfl⟩<;>rcases SP h2 with⟨rfl,rfl⟩|⟨y,k',m,rfl,hy,rfl⟩
 ·simp only[co,Ky,bind,pure,be,bc,run_bind,Option.getD_none]
 ·have:=hh m rfl;simp only[co,Ky,vw,hy,bind,pure,be,bc,run_bind,Option.getD_none,k0 this,zf]
 ·have h3:=hl n rfl;simp only[Ky,Option.getD_none]at h3;simp only[co,Ky,vw,hx,bind,pure,be,bc,run_bind,Option.getD_none,k0 h3,zf]
 ·have h3:=hl n rfl;have h4:=hh m rfl;simp only[vw,zf]at h3;simp only[co,vw,hx,hy,bind,pure,be,bc,run_bind,k0 h3,k0 h4,zf]
def z9g {p:Option am} {n c:Nat} {l h:Option Int} {sz:Nat} {K:Option am->Nat->Nat->Prop} (hk:sy p n c l h sz K):
 (h=az->n<=c)/\(∀x,h=ay x->0<=x/\x<=c)/\(∀x,l=ay x->0<=x/\x<=((h.map cy).getD n:Nat))/\
 K (if c=(l.map cy).getD 0 then p else p.map (·.add ((l.map cy).getD 0*sz))) ((h.map cy).getD n-(l.map cy).getD 0) (c-(l.map cy).getD 0):=by
 unfold sy at hk;split at hk
 ·refine⟨λ_=>hk.1,by simp,by simp,?_⟩;simpa[sY]using hk.2
 ·refine⟨λ_=>hk.1.2.2,by simp,?_,by simpa using hk.2⟩;intro x hx;cases hx;simp;omega
 ·refine⟨by simp,?_,by simp,by simpa[sY]using hk.2⟩;intro x hx;cases hx;omega
 ·refine⟨by simp,?_,?_,by simpa using hk.2⟩
  ·intro x hx;cases hx;omega
  ·intro x hx;cases hx;simp;omega
def z5q {P:aa} {ρ:Env} {t:ae} {x:ap} {lo hi:Option ap} {o:aj} {K:ab->Prop} (ho:o.op= .slice t x lo hi az)
 (h:dV P o ρ K):∃v,K v/\Em P (af (ev ρ) o) v:=by
 simp only[dV,ho]at h;split at h
 ·rename_i heq;cases heq
 ·rename_i p n c hx _;split at h
  ·rename_i sz oT;obtain⟨l,u,h1,h2,h3⟩:=rC h;obtain⟨q1,q2,q3,q4⟩:=z9g h3;obtain⟨e,ti,e1,e2,rfl⟩:=YJ oT;refine⟨_,q4,?_⟩;simp only[af,ho];refine yC λw=> ?_
   simp only[Instr.sliceAt,Instr.slice,hx,bind,pure,be,bc,run_bind,run_underlying e1,Ky,Yg bo h1 h2 q1 q2 q3,run_sizeOf e2]
  ·exact h.elim
 ·rename_i s hx _;split at h
  ·rename_i ht;obtain⟨l,u,h1,h2,h3⟩:=rC h;have q:(∀x,u=ay x->0<=x/\x<=s.size)/\(∀x,l=ay x->0<=x/\x<=((u.map cy).getD s.size:Nat))/\K (.string (s.extract ((l.map cy).getD 0) ((u.map cy).getD s.size))):=by
    unfold yUj at h3;split at h3
    ·refine⟨by simp,by simp,?_⟩;have:s.extract 0 s.size=s:=by simp
     simpa[this]using h3
    ·refine⟨by simp,?_,by simpa using h3.2⟩;intro x hx;cases hx;simp;omega
    ·refine⟨?_,by simp,by simpa using h3.2⟩;intro x hx;cases hx;omega
    ·refine⟨?_,?_,by simpa using h3.2⟩
     ·intro x hx;cases hx;omega
     ·intro x hx;cases hx;simp;omega
   obtain⟨q2,q3,q4⟩:=q;refine⟨_,q4,?_⟩;simp only[af,ho];refine yC λw=> ?_
   simp only[Instr.sliceAt,Instr.slice,hx,bind,pure,be,bc,run_bind,run_underlying ht,Ky,Option.isSome_none,oD,if_false,Yg bu h1 h2 (λ_=>km _) q2 q3]
  ·exact h.elim
 ·rename_i p hx _;split at h
  ·rename_i n sz oT;unfold Iq at h;split at h
   ·rename_i a;obtain⟨l,u,h1,h2,h3⟩:=rC h;obtain⟨q1,q2,q3,q4⟩:=z9g h3;obtain⟨e,ti,e1,e2,rfl⟩:=zFs oT;refine⟨_,q4,?_⟩;simp only[af,ho];refine yC λw=> ?_
    simp only[Instr.sliceAt,Instr.sureAddr,hx,bind,pure,be,bc,run_bind,run_underlying e1,Ky,Yg bu h1 h2 q1 q2 q3,run_sizeOf e2];split<;>simp
   ·exact h.elim
  ·exact h.elim
 ·exact h.elim
def m4 (t:ae) (x y:ab):Op.equal t x y=Op.equalIn (9999+1) t x y:=rfl
def cS {P:aa} {t:ae} {p:Option am} {r:Bool} (h:dM P t (.pointer p)=ay r) (w:ac):(Op.equal t (.pointer p) (.pointer az)).run P w= .ok r w:=by
 have hu:r=p.isNone/\∃d,P.underlying t=ay d/\(match d with| .pointer _=>True|_=>False):=by
  unfold dM at h;cases hd:P.underlying t with
  |none=>simp[hd]at h
  |some d=>cases d<;>simp[hd]at h;exact⟨h.symm,_,rfl,trivial⟩
 obtain⟨rfl,d,hd,hm⟩:=hu;cases d<;>first|exact hm.elim|skip
 rw[m4];generalize 9999=d;unfold Op.equalIn;simp only[bind,pure,run_bind,run_underlying hd];cases p<;>rfl
def gS {P:aa} {t:ae} {p:Option am} {n c m k:Nat} {r:Bool} (h:dM P t (.slice p n c)=ay r) (w:ac):(Op.equal t (.slice p n c) (.slice az m k)).run P w= .ok r w:=by
 have hu:r=p.isNone/\∃d,P.underlying t=ay d/\(match d with| .slice _=>True|_=>False):=by
  unfold dM at h;cases hd:P.underlying t with
  |none=>simp[hd]at h
  |some d=>cases d<;>simp[hd]at h;exact⟨h.symm,_,rfl,trivial⟩
 obtain⟨rfl,d,hd,hm⟩:=hu;cases d<;>first|exact hm.elim|skip
 rw[m4];generalize 9999=d;unfold Op.equalIn;simp only[bind,pure,run_bind,run_underlying hd];cases p<;>rfl
def cR {P:aa} {t:ae} {p:Option Nat} {r:Bool} (h:dM P t (.map p)=ay r) (w:ac):(Op.equal t (.map p) (.map az)).run P w= .ok r w:=by
 have hu:r=p.isNone/\∃d,P.underlying t=ay d/\(match d with| .map _ _=>True|_=>False):=by
  unfold dM at h;cases hd:P.underlying t with
  |none=>simp[hd]at h
  |some d=>cases d<;>simp[hd]at h;exact⟨h.symm,_,rfl,trivial⟩
 obtain⟨rfl,d,hd,hm⟩:=hu;cases d<;>first|exact hm.elim|skip
 rw[m4];generalize 9999=d;unfold Op.equalIn;simp only[bind,pure,run_bind,run_underlying hd];cases p<;>rfl
def rI {p:Option am} {K:am->Prop} (h:Iq p K):∃a,p=ay a/\K a:=by
 cases p with
 |none=>exact h.elim
 |some a=>exact⟨a,rfl,h⟩
def z0r {p:Option am} {n:Nat} {i:Int} {K:am->Prop} (h:ZN p n i K):∃a,p=ay a/\(0<=i/\i<n)/\K a:=by
 cases p with
 |none=>exact h.elim
 |some a=>exact⟨a,rfl,h⟩
def xM {P:aa} {o:aj} {ρ:Env} {neg:Bool} {t:ae} {x y:ap} {u:ae} {r:Bool} (ho:o.op= .binOp (if neg then .neq else .eql) t x y u)
 (hx:match ev ρ x with| .pointer _=>True| .slice _ _ _=>True| .map _=>True| .agg _=>True|_=>False)
 (hy:match ev ρ y with| .pointer _=>True| .slice _ _ _=>True| .map _=>True| .agg _=>True|_=>False)
 (hg:∀w,(ak (if neg then .neq else .eql) t x y (ev ρ x) (ev ρ y)).run P w= .ok () w)
 (he:∀w,(Op.equal t (ev ρ x) (ev ρ y)).run P w= .ok r w):Em P (af (ev ρ) o) (.bool (if neg then !r else r)):=by
 simp only[af,ho];refine yC λw=> ?_
 simp only[bind,run_bind,hg w];generalize ev ρ x=a at*;generalize ev ρ y=b at*;cases neg<;>cases a<;>(first|exact hx.elim|skip)<;>cases b<;>(first|exact hy.elim|skip)<;>simp only[binOp,oD,if_false,if_true,bind,pure,run_bind,he w,bc]
def zLn {P:aa} {op:BinOp} {t:ae} {x y x' y':ap} {a b:ab} (ha:a≠.nilIface) (w:ac):
 (ak op t x y a b).run P w=(ak op t x' y' a b).run P w:=by
 cases a<;>first|exact(ha rfl).elim|skip
 all_goals cases op<;>first|rfl|(cases b<;>rfl)
def y9 {P:aa} {op:BinOp} {t:ae} {x y:ap} {a b:ab} (ha:match a with| .pointer _=>True| .slice _ _ _=>True| .map _=>True|_=>False) (w:ac):
 (ak op t x y a b).run P w= .ok () w:=by
 cases a<;>first|exact ha.elim|(cases op<;>rfl)
def z7v {y:ab} (h:TG y=bo):y= .pointer az:=by
 cases y<;>simp[TG]at h
 rename_i a;cases a<;>simp at h ⊢
def z8j {y:ab} (h:ID y=bo):∃n c,y= .slice az n c:=by
 cases y<;>simp[ID]at h
 rename_i a n c;cases a<;>simp at h ⊢
def yAp {y:ab} (h:TH y=bo):y= .map az:=by
 cases y<;>simp[TH]at h
 rename_i a;cases a<;>simp at h ⊢
def zK {b:Bool} {A:Prop} (h:bif b then A else False):b=bo/\A:=by
 cases b
 ·exact h.elim
 ·exact⟨rfl,h⟩
def yMx {P:aa} {ρ:Env} {op:BinOp} {t u:ae} {x y:ap} {o:aj} {K:ab->Prop} (ho:o.op= .binOp op t x y u)
 (h:dV P o ρ K):∃v,K v/\Em P (af (ev ρ) o) v:=by
 simp only[dV,ho]at h;split at h
 ·rename_i k a k' b hx hy;obtain⟨rfl,hb,h⟩:=h;refine⟨_,h,?_⟩;simp only[af,ho];refine yC λw=> ?_
  simp[hx,hy,ak,binOp,Op.intDiv,hb,bind,pure,be,bc]
 ·rename_i k a k' b hx hy;obtain⟨rfl,hb,h⟩:=h;refine⟨_,h,?_⟩;simp only[af,ho];refine yC λw=> ?_
  simp[hx,hy,ak,binOp,Op.intDiv,hb,bind,pure,be,bc]
 ·rename_i k a k' b hx hy;obtain⟨hb,h⟩:=h;refine⟨_,h,?_⟩;simp only[af,ho];refine yC λw=> ?_
  simp[hx,hy,ak,binOp,Op.shift,Int.not_lt.2 hb,bind,pure,be,bc,Iz,bD]
 ·rename_i k a k' b hx hy;obtain⟨hb,h⟩:=h;refine⟨_,h,?_⟩;simp only[af,ho];refine yC λw=> ?_
  simp[hx,hy,ak,binOp,Op.shift,Int.not_lt.2 hb,bind,pure,be,bc,Iz,bD]
 ·rename_i k a k' b hx hy;obtain⟨hk,h'⟩:=Sg h;subst hk;refine⟨_,h',?_⟩;simp only[af,ho];refine yC λw=> ?_
  simp[hx,hy,ak,binOp,Op.intBits,bind,pure,be,bc,BN,GA,BP,NU]
 ·rename_i k a k' b hx hy;obtain⟨hk,h'⟩:=Sg h;subst hk;refine⟨_,h',?_⟩;simp only[af,ho];refine yC λw=> ?_
  simp[hx,hy,ak,binOp,Op.intBits,bind,pure,be,bc,BN,GA,BP,NU]
 ·rename_i k a k' b hx hy;obtain⟨hk,h'⟩:=Sg h;subst hk;refine⟨_,h',?_⟩;simp only[af,ho];refine yC λw=> ?_
  simp[hx,hy,ak,binOp,Op.intBits,bind,pure,be,bc,BN,GA,BP,NU]
 ·rename_i k a k' b hx hy;obtain⟨hk,h'⟩:=Sg h;subst hk;refine⟨_,h',?_⟩;simp only[af,ho];refine yC λw=> ?_
  simp[hx,hy,ak,binOp,Op.intBits,bind,pure,be,bc,BN,GA,BP,NU]
 ·rename_i a b hx hy;obtain⟨hb,h⟩:=h;refine⟨_,h,?_⟩;simp only[af,ho];refine yC λw=> ?_
  have Ae:¬(((a.size+b.size:Nat):Int)>df.max):=Int.not_lt.2 hb;simp only[hx,hy,ak,binOp,Op.stringOp,ej Ae,bind,pure,be,bc];rfl
 ·rename_i p hx;generalize hy:ev ρ y=b at h;obtain⟨hn,h⟩:=zK h;obtain⟨r,hr,h⟩:=rK h;have hb:=z7v hn;refine⟨_,h,?_⟩;exact xM (neg:=bu) ho (by simp[hx]) (by simp[hy,hb]) (λw=>by rw[hx];exact y9 trivial w) (λw=>by rw[hx,hy,hb];exact cS hr w)
 ·rename_i p hx;generalize hy:ev ρ y=b at h;obtain⟨hn,h⟩:=zK h;obtain⟨r,hr,h⟩:=rK h;have hb:=z7v hn;refine⟨_,h,?_⟩;exact xM (neg:=bo) ho (by simp[hx]) (by simp[hy,hb]) (λw=>by rw[hx];exact y9 trivial w) (λw=>by rw[hx,hy,hb];exact cS hr w)
 ·rename_i p n c hx;generalize hy:ev ρ y=b at h;obtain⟨hn,h⟩:=zK h;obtain⟨r,hr,h⟩:=rK h;obtain⟨m,d,hb⟩:=z8j hn;refine⟨_,h,?_⟩;exact xM (neg:=bu) ho (by simp[hx]) (by simp[hy,hb]) (λw=>by rw[hx];exact y9 trivial w) (λw=>by rw[hx,hy,hb];exact gS hr w)
 ·rename_i p n c hx;generalize hy:ev ρ y=b at h;obtain⟨hn,h⟩:=zK h;obtain⟨r,hr,h⟩:=rK h;obtain⟨m,d,hb⟩:=z8j hn;refine⟨_,h,?_⟩;exact xM (neg:=bo) ho (by simp[hx]) (by simp[hy,hb]) (λw=>by rw[hx];exact y9 trivial w) (λw=>by rw[hx,hy,hb];exact gS hr w)
 ·rename_i p hx;generalize hy:ev ρ y=b at h;obtain⟨hn,h⟩:=zK h;obtain⟨r,hr,h⟩:=rK h;have hb:=yAp hn;refine⟨_,h,?_⟩;exact xM (neg:=bu) ho (by simp[hx]) (by simp[hy,hb]) (λw=>by rw[hx];exact y9 trivial w) (λw=>by rw[hx,hy,hb];exact cR hr w)
 ·rename_i p hx;generalize hy:ev ρ y=b at h;obtain⟨hn,h⟩:=zK h;obtain⟨r,hr,h⟩:=rK h;have hb:=yAp hn;refine⟨_,h,?_⟩;exact xM (neg:=bo) ho (by simp[hx]) (by simp[hy,hb]) (λw=>by rw[hx];exact y9 trivial w) (λw=>by rw[hx,hy,hb];exact cR hr w)
 ·rename_i a hx;generalize hy:ev ρ y=b at h;obtain⟨r,h1,h2,h3,h⟩:=h;refine⟨_,h,?_⟩;obtain⟨c,rfl⟩:∃c,b= .agg c:=by cases b<;>first|exact⟨_,rfl⟩|(simp at h3)
  exact xM (neg:=bu) ho (by simp[hx]) (by simp[hy]) (λw=>by rw[hx,hy];exact(zLn (by simp) w).trans (wX h2 w)) (λw=>by rw[hx,hy];exact wX h1 w)
 ·rename_i a hx;generalize hy:ev ρ y=b at h;obtain⟨r,h1,h2,h3,h⟩:=h;refine⟨_,h,?_⟩;obtain⟨c,rfl⟩:∃c,b= .agg c:=by cases b<;>first|exact⟨_,rfl⟩|(simp at h3)
  exact xM (neg:=bo) ho (by simp[hx]) (by simp[hy]) (λw=>by rw[hx,hy];exact(zLn (by simp) w).trans (wX h2 w)) (λw=>by rw[hx,hy];exact wX h1 w)
 ·exact cO h
def gU {P:aa} {ρ:Env} {o:aj} {K:ab->Prop} (h:dV P o ρ K):∃v,K v/\Em P (af (ev ρ) o) v:=by
 cases ho:o.op
 case move x=>simp only[dV,ho]at h;exact⟨_,h,λw=>by simp only[af,ho];rfl⟩
 case assign x=>simp only[dV,ho]at h;exact⟨_,h,λw=>by simp only[af,ho];rfl⟩
 case pick c a b=>
  simp only[dV,ho]at h;split at h
  ·rename_i t hc;refine⟨_,h,λw=> ?_⟩;simp only[af,ho,hc,asBool,bind,pure,be,bc];cases t<;>rfl
  ·exact h.elim
 case nilCheck x=>
  simp only[dV,ho]at h;split at h
  ·rename_i p hx;obtain⟨a,rfl,h⟩:=rI h;exact⟨_,h,λw=>by simp only[af,ho,hx];rfl⟩
  ·exact cO h
 case indexAddr t x i=>
  simp only[dV,ho]at h;split at h
  ·rename_i p n c k i hx hi;split at h
   ·rename_i sz oT;obtain⟨a,rfl,hb,h⟩:=z0r h;refine⟨_,h,?_⟩;simp only[af,ho];refine yC λw=> ?_
    rw[hx,hi];exact jX oT hb w
   ·exact h.elim
  ·rename_i p k i hx hi;split at h
   ·rename_i n sz oT;obtain⟨a,rfl,hb,h⟩:=z0r h;refine⟨_,h,?_⟩;simp only[af,ho];refine yC λw=> ?_
    rw[hx,hi];exact dG oT hb w
   ·exact h.elim
  ·exact h.elim
 case index t x i=>
  simp only[dV,ho]at h;split at h
  ·rename_i s k i hx hi;split at h
   ·rename_i ht;obtain⟨b,⟨h0,h1⟩,h⟩:=h;refine⟨_,h,?_⟩;simp only[af,ho];refine yC λw=> ?_
    simp only[Instr.index,hx,hi,asIntOf,bind,pure,be,bc,run_bind,run_underlying ht,fc h0,h1]
   ·exact h.elim
  ·split at h
   ·exact cO h
   ·obtain⟨v,hv,h⟩:=vA h;refine⟨v,h,?_⟩;simp only[af,ho];exact yC (wX hv)
 case typeAssert x xT asserted ok=>
  cases ok
  ·simp only[dV,ho]at h;obtain⟨v,hv,h⟩:=vA h;refine⟨v,h,?_⟩;simp only[af,ho];exact yC (wX hv)
  ·simp only[dV,ho]at h;obtain⟨v,h⟩:=vA h;obtain⟨b,hv,h⟩:=wA h;refine⟨_,h,?_⟩;simp only[af,ho];exact yC (wX hv)
 case slice t x lo hi mx=>
  cases mx with
  |none=>exact z5q ho h
  |some m=>
   simp only[dV,ho]at h;split at h<;>first|exact h.elim|contradiction|skip
   rename_i p n c m' hx hm;cases hm;split at h<;>first|exact h.elim|skip
   rename_i sz l u k m' oT h1 h2 hm;obtain⟨⟨q1,q2,q3,q4⟩,h⟩:=h;obtain⟨e,ti,e1,e2,rfl⟩:=YJ oT;rcases SP h1 with⟨_,h1⟩|⟨y,ky,ny,rfl,hy,h1⟩
   ·cases h1
   cases h1;rcases SP h2 with⟨_,h2⟩|⟨z,kz,nz,rfl,hz,h2⟩
   ·cases h2
   cases h2;refine⟨_,h,?_⟩;simp only[af,ho];refine yC λw=> ?_
   have b1:(0:Int)<=m'/\m'<=(c:Nat):=by omega
   have b2:0<=u/\u<=(m'.toNat:Nat):=by omega
   have b3:0<=l/\l<=(u.toNat:Nat):=by omega
   simp only[Instr.sliceAt,Instr.slice,co,hx,hm,hy,hz,vw,bind,pure,be,bc,run_bind,run_underlying e1,k0 b1,k0 b2,k0 b3,run_sizeOf e2]
 case binOp op t x y u=>exact yMx ho h
 case panic x=>simp only[dV,ho]at h
 all_goals(simp only[dV,ho]at h;exact cO h)
def cD (P:aa) (s:Sem ab) (w:ac) (v:ab):Prop:=s.run P w=.ok v w
def gH (P:aa) (s:Sem ab) (w:ac) (v:ab) (w':ac):Prop:=s.run P w=.ok v w'
def Gp (P:aa) (s:Sem Unit) (w:ac) (w':ac):Prop:=s.run P w=.ok () w'
def nC (P:aa) (t:ae) (a:am) (w:ac) (v:ab):Prop:=(loadVar t a).run P w=.ok v w
def z8e (P:aa) (t:ae):Option ae:=
 match P.underlying t with
 |some (.map _ e)=>ay e
 |_=>az
def eN (P:aa) (o:aj) (ρ:Env) (w:ac) (K:ab->Prop):Prop:=
 match o.op with
 | .load t x=>
   match ev ρ x with
   | .pointer p=>Iq p λa=>Ee P t λv=>nC P t a w v/\K v
   |_=>False
 | .lookup t m k ok=>
   match z8e P t with
   |some e=>Ee P e λv=>CI .bool λb=>cD P (cp t (ev ρ m) (ev ρ k) bo) w (.tuple #[v,b])/\K (bif ok then .tuple #[v,b]else v)
   |none=>False
 | .convert s d x=>Ee P d λv=>cD P (ax s d (ev ρ x)) w v/\K v
 | .binOp op t x y _=>
   match op with
   | .eql=>CI .bool λv=>cD P (binOp .eql t (ev ρ x) (ev ρ y)) w v/\(ak .eql t x y (ev ρ x) (ev ρ y)).run P w=.ok () w/\K v
   | .neq=>CI .bool λv=>cD P (binOp .neq t (ev ρ x) (ev ρ y)) w v/\(ak .neq t x y (ev ρ x) (ev ρ y)).run P w=.ok () w/\K v
   |_=>False
 | .call {callee:= .builtin .len,args,argTypes}=>CI (.int .i64) λv=>cD P (cf argTypes o.type (args.map (ev ρ))) w v/\K v
 | .entry x=>∃v,cD P (Instr.entry (ev ρ x)) w v/\K v
 |_=>False
def yF {P:aa} {s:Sem ab} {v:ab} {w:ac} (h:s.run P w= .ok v w):((do pure (Next.value (<- s)):Sem Next)).run P w= .ok (.value v) w:=by
 show(s.bind λa=> .pure (Next.value a)).run P w=_;rw[run_bind,h];rfl
def z6m {P:aa} {s:Sem ab} {v:ab} {w w':ac} (h:s.run P w= .ok v w'):((do pure (Next.value (<- s)):Sem Next)).run P w= .ok (.value v) w':=by
 show(s.bind λa=> .pure (Next.value a)).run P w=_;rw[run_bind,h];rfl
def yEv {P:aa} {s:Sem Unit} {w w':ac} (h:s.run P w= .ok () w'):((do s;pure Next.skip:Sem Next)).run P w= .ok .skip w':=by
 show(s.bind λ_=> .pure Next.skip).run P w=_;rw[run_bind,h];rfl
def Nl (P:aa) (s1 s2:Sem ab):Prop:=∀w v b w',s1.run P w=.ok (.tuple #[v,b]) w'->s2.run P w=.ok v w'
def cZ {α:Type} {P:aa} (s:Sem α) {f g:α->Sem ab} (h:∀a,Nl P (f a) (g a)):Nl P (s.bind f) (s.bind g):=by
 intro w v b w' hr;rw[run_bind]at hr ⊢;cases hs:s.run P w with
 |ok a w1=>rw[hs]at hr;exact h a _ _ _ _ hr
 |halt x w1=>rw[hs]at hr;cases hr
def yFb {P:aa} {x y:String}:Nl P (stuck x) (stuck y):=by
 intro w v b w' hr;cases hr
def zZj {P:aa} {v b:ab}:Nl P (.pure (.tuple #[v,b])) (.pure v):=by
 intro w v b w' hr;simp only[bc,Result.ok.injEq,Value.tuple.injEq,Array.mk.injEq,List.cons.injEq]at hr ⊢;exact⟨hr.1.1,hr.2⟩
def Co {P:aa} {t:ae} {m k:ab}:Nl P (cp t m k bo) (cp t m k bu):=by
 unfold cp;refine cZ _ λd=> ?_
 have tail:∀(key elem:ae) (es:Array aq),Nl P
  ((Instr.checkKey es.isEmpty 10000 key k).bind λ_=>(Instr.findKey key k es.toList).bind λr=>
    match r with
    |some (_,v)=>(bg (v,bo)).bind λx=>bg (if bo=bo then Value.tuple #[x.1,.bool x.2]else x.1)
    |none=>(zeroValue elem).bind λz=>(bg (z,bu)).bind λx=>bg (if bo=bo then Value.tuple #[x.1,.bool x.2]else x.1))
  ((Instr.checkKey es.isEmpty 10000 key k).bind λ_=>(Instr.findKey key k es.toList).bind λr=>
    match r with
    |some (_,v)=>(bg (v,bo)).bind λx=>bg (if bu=bo then Value.tuple #[x.1,.bool x.2]else x.1)
    |none=>(zeroValue elem).bind λz=>(bg (z,bu)).bind λx=>bg (if bu=bo then Value.tuple #[x.1,.bool x.2]else x.1)):=by
  intro key elem es;refine cZ _ λ_=>cZ _ λr=> ?_
  cases r with
  |some p=>obtain⟨i,v⟩:=p;exact zZj
  |none=>exact cZ _ λz=>zZj
 cases d<;>first|exact yFb|skip
 rename_i key elem;cases m<;>first|exact cZ _ (λes=>tail key elem es)|skip
 rename_i r;cases r with
 |none=>exact cZ _ (λes=>tail key elem es)
 |some r=>
  refine cZ _ λo=> ?_
  cases o<;>exact cZ _ (λes=>tail key elem es)
def zLi {P:aa} {t:ae} {m k v b:ab} {w w':ac} (h:(cp t m k bo).run P w= .ok (.tuple #[v,b]) w'):(cp t m k bu).run P w= .ok v w':=
 Co w v b w' h
def z3u {P:aa} {ρ:Env} {o:aj} {w:ac} {K:ab->Prop} (h:eN P o ρ w K):∃v,K v/\(af (ev ρ) o).run P w= .ok (.value v) w:=by
 cases ho:o.op
 case load t x=>
  simp only[eN,ho]at h;split at h
  ·rename_i p hx;obtain⟨a,rfl,h⟩:=rI h;obtain⟨v,hv,h⟩:=vA h;refine⟨v,h,?_⟩;simp only[af,ho,hx];exact yF hv
  ·exact h.elim
 case lookup t m k ok=>
  simp only[eN,ho]at h;split at h
  ·rename_i e he;obtain⟨v,h⟩:=vA h;obtain⟨b,hb,h⟩:=wA h;refine⟨_,h,?_⟩;simp only[af,ho];cases ok
   ·exact yF (zLi hb)
   ·exact yF hb
  ·exact h.elim
 case convert s d x=>
  simp only[eN,ho]at h;obtain⟨v,hv,h⟩:=vA h;refine⟨v,h,?_⟩;simp only[af,ho];exact yF hv
 case binOp op t x y u=>
  simp only[eN,ho]at h;split at h
  ·obtain⟨v,h1,h2,h⟩:=wA h;refine⟨v,h,?_⟩;simp only[af,ho];refine yF ?_;simp only[bind,run_bind,h2];exact h1
  ·obtain⟨v,h1,h2,h⟩:=wA h;refine⟨v,h,?_⟩;simp only[af,ho];refine yF ?_;simp only[bind,run_bind,h2];exact h1
  ·exact h.elim
 case call c=>
  simp only[eN,ho]at h;split at h<;>first|exact h.elim|skip
  all_goals first|(exfalso;rename_i hh;cases hh;done)|skip
  rename_i args argTypes hh;cases hh;obtain⟨v,hv,h⟩:=wA h;refine⟨v,h,?_⟩;simp only[af,ho];exact yF hv
 case entry x=>
  simp only[eN,ho]at h;obtain⟨v,hv,h⟩:=h;refine⟨v,h,?_⟩;simp only[af,ho];exact yF hv
 all_goals(simp only[eN,ho]at h)
def mo (P:aa) (s:Sem Next) (w:ac) (K:ab->ac->Prop):Prop:=
 match s.run P w with
 | .ok (.value v) w'=>K v w'
 | .ok .skip w'=>K ao w'
 | .ok (.enter f args) w'=>Calls P f args w' λe Ue=>∃v,e=.returned v/\K v Ue
 |_=>False
def Kt (w:ac) (o:Obj) (K:Nat->ac->Prop):Prop:=∀b w',b=w.heap.size->w'=w.alloc o->K b w'
def zero? (P:aa) (t:ae):Option ab:=
 match P.info? t with
 |some i=>i.zero
 |none=>az
def Gq (z:Array ab) (n:Nat):Array ab:=((da n).map λj=>z.toList.getD (j % z.size) default).toArray
def V' (z:Array ab) (n:Nat):(Array.range n).map (z[·% z.size]!)=Gq z n:=by
 apply de;simp only[Gq,Array.toList_map,Array.toList_range];refine ui λj _=> ?_
 rw[Array.getElem!_eq_getD,BV,np,Array.getElem?_toList]
def KY (P:aa) (t:ae) (len:Nat) (parts:Array (Nat×ab)):Option (ae×Array ab):=
 match P.underlying t with
 |some (.slice e)=>
  match P.info? e with
  |some i=>
   if len*i.size>2 ^ 24 then az else
   match(if len*i.size=0 then ay #[]else i.zero.map Value.cells)with
   |some z=>(Instr.fill (λj=>ay (j*i.size,i.size)) (Gq z (len*i.size)) parts.toList).map λcs=>(e,cs)
   |none=>az
  |none=>az
 |_=>az
def vT (P:aa) (t:ae):Option (ae×Nat×Nat×Array ab):=
 match P.underlying t with
 |some (.slice e)=>
  match P.info? e with
  |some i=>i.zero.map λz=>(e,i.size,i.bytes,z.cells)
  |none=>az
 |_=>az
def uP (P:aa) (f:av):Bool:=
 match P.funcs[f]? with
 | some fn => !fn.body.isNone && !(fn.name == "runtime.NumGoroutine")
 |none=>bu
def yHd (P:aa) (f:av) (args:Array ab) (w:ac) (rt:ae) (K:ab->ac->Prop):Prop:=
 Calls P f args w λe w'=>Pw P rt λv=>e=.returned v/\K v w'
def Ext (P:aa) (f:av) (args:Array ab) (w:ac) (v:ab) (w':ac):Prop:=(au f args).run P w=.ok (.value v) w'
def dD (P:aa) (o:aj) (ρ:Env) (w:ac) (K:ab->ac->Prop):Prop:=
 match o.op with
 | .alloc e=>
   match zero? P e with
   |some z=>Kt w (.cells z.cells e) λb w'=>K (.pointer (ay ⟨b,0,az⟩)) w'
   |none=>False
 | .box e x=>Kt w (.cells (ev ρ x).cells e) λb w'=>K (.pointer (ay ⟨b,0,az⟩)) w'
 | .buildSlice t len parts=>
   match KY P t len (parts.map λ(i,x)=>(i,ev ρ x))with
   |some (e,cs)=>Kt w (.cells cs e) λb w'=>K (.slice (ay ⟨b,0,az⟩) len len) w'
   |none=>False
 | .makeMap _ az=>Kt w (.map #[] 0) λb w'=>K (.map (ay b)) w'
 | .makeSlice t l c=>
   match ev ρ l,ev ρ c with
   | .int _ l,.int _ c=>
     match vT P t with
     |some (e,sz,ou,z)=>(0<=l/\l<=c/\c<=9223372036854775807/\(ou:Int)*c<=2 ^ 48)/\
       Kt w (.cells (madeCells z (c.toNat*sz)) e) λb w'=>K (.slice (ay ⟨b,0,az⟩) l.toNat c.toNat) w'
     |none=>False
   |_,_=>False
 | .store t x v=>
   match ev ρ x with
   | .pointer p=>Iq p λa=>∃w',Gp P (storeVar t a (ev ρ v)) w w'/\K ao w'
   |_=>False
 | .mapUpdate t m k x=>∃w',Gp P (Instr.mapUpdate t (ev ρ m) (ev ρ k) (ev ρ x)) w w'/\K ao w'
 | .mapEntry t m k=>
   match z8e P t with
   |some e=>Ee P e λv=>CI (.int .i64) λs=>∃w',gH P (Instr.mapEntry t (ev ρ m) (ev ρ k)) w (.tuple #[v,s]) w'/\K (.tuple #[v,s]) w'
   |none=>False
 | .entryStore t m s x=>∃w',Gp P (Instr.entryStore t (ev ρ m) (ev ρ s) (ev ρ x)) w w'/\K ao w'
 | .range t x=>
   match P.underlying t,ev ρ x with
   |some .string,.string s=>Kt w (.stringIter s 0) λb w'=>K (.pointer (ay ⟨b,0,az⟩)) w'
   |_,x=>CI .ptr λv=>∃w',gH P (Instr.range t x) w v w'/\K v w'
 | .next it bo=>
   (∃w',gH P (Instr.next (ev ρ it) bo o.type) w (.tuple #[.bool bu]) w'/\K (.tuple #[.bool bu]) w')\/
   CI (.int .i64) λk=>CI (.int .i32) λv=>∃w',gH P (Instr.next (ev ρ it) bo o.type) w (.tuple #[.bool bo,k,v]) w'/\K (.tuple #[.bool bo,k,v]) w'
 | .next it bu=>
   (∃w',gH P (Instr.next (ev ρ it) bu o.type) w (.tuple #[.bool bu]) w'/\K (.tuple #[.bool bu]) w')\/
   ∃(k v:ab) (w':ac),gH P (Instr.next (ev ρ it) bu o.type) w (.tuple #[.bool bo,k,v]) w'/\K (.tuple #[.bool bo,k,v]) w'
 | .convert s d x=>Ee P d λv=>∃w',gH P (ax s d (ev ρ x)) w v w'/\K v w'
 | .call c=>
   match c.callee with
   | .value (.func f)=>bif uP P f then yHd P f (c.args.map (ev ρ)) w o.type K else Pw P o.type λv=>∃w',Ext P f (c.args.map (ev ρ)) w v w'/\K v w'
   | .value x=>
     match ev ρ x with
     | .func (.func f) first cap=>uP P f=bo/\yHd P f (first++c.args.map (ev ρ)++cap) w o.type K
     |_=>False
   | .builtin .append=>Ee P o.type λv=>∃w',gH P (ce c.argTypes o.type (c.args.map (ev ρ))) w v w'/\K v w'
   | .builtin .copy=>CI (.int .i64) λv=>∃w',gH P (cg c.argTypes o.type (c.args.map (ev ρ))) w v w'/\K v w'
   | .builtin .delete=>∃w',gH P (Builtin.delete_ c.argTypes o.type (c.args.map (ev ρ))) w (.tuple #[]) w'/\K (.tuple #[]) w'
   | .builtin .clear=>∃w',gH P (Builtin.clear_ c.argTypes o.type (c.args.map (ev ρ))) w (.tuple #[]) w'/\K (.tuple #[]) w'
   |_=>False
 |_=>False
def yD {P:aa} {s:Sem ab} {w w':ac} {v:ab} {K:ab->ac->Prop} (h:s.run P w= .ok v w') (hk:K v w'):mo P (do pure (Next.value (<- s))) w K:=by
 unfold mo;rw[z6m h];exact hk
def wM {P:aa} {s:Sem Unit} {w w':ac} {K:ab->ac->Prop} (h:s.run P w= .ok () w') (hk:K ao w'):mo P (do s;pure Next.skip) w K:=by
 unfold mo;rw[yEv h];exact hk
def zTf {P:aa} {f:av} {args:Array ab} {w:ac} {rt:ae} {K:ab->ac->Prop} (hb:uP P f=bo) (h:yHd P f args w rt K):mo P (au f args) w K:=by
 unfold uP at hb;split at hb
 ·rename_i fn Hx;simp only[kx,EB,Bool.not_eq_eq_eq_not,Bool.not_true]at hb;unfold mo;have:(au f args).run P w= .ok (.enter f args) w:=by
   simp only[au,bind,pure,run_bind,program,bc,be,Hx,hb.1,hb.2,oD,if_false]
  rw[this];exact h.mono λe w' hh=>by
   obtain⟨v,hv,hk⟩:=z9b hh;exact⟨v,hv,hk⟩
 ·cases hb
def lq {P:aa} {t:ae} {z:ab} (h:zero? P t=ay z) (w:ac):(zeroValue t).run P w= .ok z w:=by
 unfold zero? at h;split at h
 ·rename_i i hi;have Hq:(typeInfo t).run P w= .ok i w:=by
   unfold typeInfo;show((Sem.program bg).bind _).run P w=_;simp only[be,bc,hi];rfl
  unfold zeroValue;simp only[bind,run_bind,Hq,h];rfl
 ·cases h
def zOx {P:aa} {t:ae} {v:ab} (w:ac):(newVar t v).run P w= .ok ⟨w.heap.size,0,az⟩ (w.alloc (.cells v.cells t)):=rfl
def zGx {P:aa} {t:ae} {i:TypeInfo} (h:P.info? t=ay i) (w:ac):(typeInfo t).run P w= .ok i w:=by
 unfold typeInfo;show((Sem.program bg).bind _).run P w=_;simp only[be,bc,h];rfl
def aX {P:aa} {t:ae} {len:Nat} {parts:Array (Nat×ab)} {e:ae} {cs:Array ab} (h:KY P t len parts=ay (e,cs)) (w:ac):
 (Instr.buildSlice t len parts).run P w= .ok (.slice (ay ⟨w.heap.size,0,az⟩) len len) (w.alloc (.cells cs e)):=by
 unfold KY at h;split at h<;>first|(cases h;done)|skip
 rename_i e' ht;split at h<;>first|(cases h;done)|skip
 rename_i i hi;split at h<;>first|(cases h;done)|skip
 rename_i hlen;split at h<;>first|(cases h;done)|skip
 rename_i z hz;simp only[ba,dh]at h;obtain⟨B1,GM,rfl,rfl⟩:=h;by_cases h0:len*i.size=0
 ·simp only[h0,if_true,cr]at hz;subst hz;simp only[Instr.buildSlice,bind,pure,run_bind,be,bc,run_underlying ht,run_sizeOf hi,ej hlen,fc h0,V',GM];rfl
 ·simp only[h0,if_false,ba]at hz;obtain⟨z',OR,rfl⟩:=hz;have D6:∀w,(zeroValue e').run P w= .ok z' w:=λw=>lq (by unfold zero?;rw[hi];exact OR) w
  simp only[Instr.buildSlice,bind,pure,run_bind,be,bc,run_underlying ht,run_sizeOf hi,ej hlen,ej h0,D6,V',GM];rfl
def kJ {P:aa} {t e:ae} {sz ou:Nat} {z:Array ab} (h:vT P t=ay (e,sz,ou,z)):
 ∃i zv,P.underlying t=ay (.slice e)/\P.info? e=ay i/\i.size=sz/\i.bytes=ou/\i.zero=ay zv/\zv.cells=z:=by
 unfold vT at h;split at h<;>first|(cases h;done)|skip
 rename_i e' ht;split at h<;>first|(cases h;done)|skip
 rename_i i hi;simp only[ba,dh]at h;obtain⟨zv,Ut,rfl,rfl,rfl,rfl⟩:=h;exact⟨i,zv,ht,hi,rfl,rfl,Ut,rfl⟩
def wrap_i64 {x:Int} (h0: -9223372036854775808<=x) (h1:x<=9223372036854775807):df.wrap x=x:=IntWalk.i64_in x ⟨h0,h1⟩
def zLf (P:aa) (n:Nat) (w:ac):(askRoom n).run P w= .ok () w:=by
 unfold askRoom;split<;>rfl
def zPm {P:aa} {t e:ae} {sz ou:Nat} {z:Array ab} {k k':ag} {l c:Int} (h:vT P t=ay (e,sz,ou,z))
 (hb:0<=l/\l<=c/\c<=9223372036854775807/\(ou:Int)*c<=2 ^ 48) (w:ac):
 (Instr.makeSlice t (.int k l) (.int k' c)).run P w= .ok (.slice (ay ⟨w.heap.size,0,az⟩) l.toNat c.toNat) (w.alloc (.cells (madeCells z (c.toNat*sz)) e)):=by
 obtain⟨i,zv,ht,hi,rfl,rfl,hz,rfl⟩:=kJ h;obtain⟨h1,h2,h3,h4⟩:=hb;have wl:df.wrap l=l:=wrap_i64 (by omega) (by omega);have wc:df.wrap c=c:=wrap_i64 (by omega) (by omega);have B0:¬(((decide (c<0)||decide ((i.bytes:Int)*c>2 ^ 48))||decide (l<0)||decide (l>c))=bo):=by
  simp only[bv,tw,not_or];omega
 have D6:∀w,(zeroValue e).run P w= .ok zv w:=λw=>lq (by unfold zero?;rw[hi];exact hz) w
 simp only[Instr.makeSlice,asInt,asIntOf,bind,pure,run_bind,be,bc,run_underlying ht,zGx hi,run_sizeOf hi,wl,wc];rw[ej B0];simp only[run_bind,zLf,run_sizeOf hi];by_cases h0:c.toNat*i.size=0
 ·simp only[h0,if_true,bc,run_bind,madeCells];have e1:(Array.map (λx=>(#[]:Array ab)[x % (#[]:Array ab).size]!) (Array.range 0))= #[]:=by simp
  have e2:(Array.map (λx=>zv.cells[x % zv.cells.size]!) (Array.range 0))= #[]:=by simp
  rw[e1,e2];rfl
 ·simp only[ej h0,run_bind,D6,bc,madeCells];rfl
def zVk {P:aa} {ρ:Env} {o:aj} {w:ac} {K:ab->ac->Prop} (h:dD P o ρ w K):mo P (af (ev ρ) o) w K:=by
 cases ho:o.op
 case alloc e=>
  simp only[dD,ho]at h;split at h
  ·rename_i z hz;simp only[af,ho];refine yD (v:= .pointer (ay ⟨w.heap.size,0,az⟩)) (w':=w.alloc (.cells z.cells e)) ?_ (h _ _ rfl rfl);simp only[Instr.alloc,bind,pure,run_bind,lq hz,bc,zOx]
  ·exact h.elim
 case box e x=>
  simp only[dD,ho]at h;simp only[af,ho];exact yD (v:= .pointer (ay ⟨w.heap.size,0,az⟩)) (w':=w.alloc (.cells (ev ρ x).cells e)) rfl (h _ _ rfl rfl)
 case buildSlice t len parts=>
  simp only[dD,ho]at h;split at h
  ·rename_i e cs GM;simp only[af,ho];exact yD (aX GM w) (h _ _ rfl rfl)
  ·exact h.elim
 case makeMap t r=>
  cases r with
  |some r=>simp only[dD,ho]at h
  |none=>
   simp only[dD,ho]at h;simp only[af,ho];exact yD (v:= .map (ay w.heap.size)) (w':=w.alloc (.map #[] 0)) rfl (h _ _ rfl rfl)
 case makeSlice t l c=>
  simp only[dD,ho]at h;split at h<;>first|exact h.elim|skip
  rename_i k l' k' c' hl hc;split at h<;>first|exact h.elim|skip
  rename_i e sz ou z hs;simp only[af,ho,hl,hc];exact yD (zPm hs h.1 w) (h.2 _ _ rfl rfl)
 case store t x v=>
  simp only[dD,ho]at h;split at h<;>first|exact h.elim|skip
  rename_i p hx;obtain⟨a,rfl,w',hw,hk⟩:=rI h;simp only[af,ho,hx];exact wM (w':=w') hw hk
 case mapUpdate t m k x=>
  simp only[dD,ho]at h;obtain⟨w',hw,hk⟩:=h;simp only[af,ho];exact wM hw hk
 case mapEntry t m k=>
  simp only[dD,ho]at h;split at h<;>first|exact h.elim|skip
  obtain⟨v,h⟩:=vA h;obtain⟨s,w',hw,hk⟩:=wA h;simp only[af,ho];exact yD hw hk
 case entryStore t m s x=>
  simp only[dD,ho]at h;obtain⟨w',hw,hk⟩:=h;simp only[af,ho];exact wM hw hk
 case range t x=>
  simp only[dD,ho]at h;split at h
  ·rename_i s ht hx;simp only[af,ho];refine yD (v:= .pointer (ay ⟨w.heap.size,0,az⟩)) (w':=w.alloc (.stringIter s 0)) ?_ (h _ _ rfl rfl);rw[hx];simp only[Instr.range,bind,pure,run_bind,be,run_underlying ht];rfl
  ·obtain⟨v,w',hw,hk⟩:=wA h;simp only[af,ho];exact yD hw hk
 case next it isString=>
  simp only[af,ho];cases isString
  ·simp only[dD,ho]at h;rcases h with⟨w',hw,hk⟩|⟨k,v,w',hw,hk⟩
   ·exact yD hw hk
   ·exact yD hw hk
  ·simp only[dD,ho]at h;rcases h with⟨w',hw,hk⟩|h
   ·exact yD hw hk
   ·obtain⟨k,h⟩:=wA h;obtain⟨v,w',hw,hk⟩:=wA h;exact yD hw hk
 case convert s d x=>
  simp only[dD,ho]at h;obtain⟨v,w',hw,hk⟩:=vA h;simp only[af,ho];exact yD hw hk
 case call c=>
  have sx:af (ev ρ) o=(ar (ev ρ) c o.type).bind λd=>invoke d.target d.args:=by
   simp only[af,ho];rfl
  simp only[dD,ho]at h;split at h
  ·rename_i f hc;have jg:(af (ev ρ) o)=au f (c.args.map (ev ρ)):=by
    rw[sx];unfold ar;rw[hc];simp only[ev,Deferred.ofValue,pure,be,invoke,Array.append_empty,Array.empty_append]
   rw[jg];revert h;cases hb:uP P f<;>intro h
   ·replace h:Pw P o.type λv=>∃w',Ext P f (c.args.map (ev ρ)) w v w'/\K v w':=h
    obtain⟨v,w',hw,hk⟩:=z9b h;exact(by unfold mo;rw[show(au f (c.args.map (ev ρ))).run P w=_ from hw];exact hk)
   ·exact zTf hb h
  ·rename_i x hc;split at h<;>first|exact h.elim|skip
   rename_i f first cap hx
   have jg:(af (ev ρ) o)=au f (first++c.args.map (ev ρ)++cap):=by
    rw[sx];unfold ar;rw[hc];simp only[hx,Deferred.ofValue,pure,be,invoke]
   rw[jg];exact zTf h.1 h.2
  all_goals first|exact h.elim|skip
  ·rename_i hc;have jg:af (ev ρ) o=builtin .append c.argTypes o.type (c.args.map λ| .const _=>bo|_=>bu) (c.args.map (ev ρ)):=by
    rw[sx];unfold ar;rw[hc];rfl
   rw[jg];obtain⟨v,w',hw,hk⟩:=vA h;exact yD hw hk
  ·rename_i hc;have jg:af (ev ρ) o=builtin .copy c.argTypes o.type (c.args.map λ| .const _=>bo|_=>bu) (c.args.map (ev ρ)):=by
    rw[sx];unfold ar;rw[hc];rfl
   rw[jg];obtain⟨v,w',hw,hk⟩:=wA h;exact yD hw hk
  ·rename_i hc;have jg:af (ev ρ) o=builtin .delete c.argTypes o.type (c.args.map λ| .const _=>bo|_=>bu) (c.args.map (ev ρ)):=by
    rw[sx];unfold ar;rw[hc];rfl
   rw[jg];obtain⟨w',hw,hk⟩:=h;exact yD hw hk
  ·rename_i hc;have jg:af (ev ρ) o=builtin .clear c.argTypes o.type (c.args.map λ| .const _=>bo|_=>bu) (c.args.map (ev ρ)):=by
    rw[sx];unfold ar;rw[hc];rfl
   rw[jg];obtain⟨w',hw,hk⟩:=h;exact yD hw hk
 all_goals(simp only[dD,ho]at h)
end Cv
namespace Cv
open Go
def NI:ap->Bool
 | .const (.pointer az)=>bo
 |_=>bu
def RK (P:aa) (op:Op):Nat:=
 match op with
 | .load _ _=>1
 | .lookup _ _ _ _=>1
 | .convert s d _=>
   match P.underlying s,P.underlying d with
   |some .string,ay (.slice _)=>2
   |some (.slice _),ay .string=>1
   |_,_=>0
 | .binOp op t x y _=>
   match op,P.underlying t with
   | .eql,ay (.pointer _)=>bif NI y then 0 else 1
   | .neq,ay (.pointer _)=>bif NI y then 0 else 1
   |_,_=>0
 | .call c=>
   match c.callee with
   | .builtin .len=>
     match(c.argTypes[0]?).bind P.underlying with
     |some (.map _ _)=>1
     |_=>0
   | .builtin .cap=>0
   | .builtin .min=>0
   | .builtin .max=>0
   |_=>2
 | .alloc _=>2
 | .box _ _=>2
 | .buildSlice _ _ _=>2
 | .makeMap _ _=>2
 | .makeSlice _ _ _=>2
 | .store _ _ _=>2
 | .mapUpdate _ _ _ _=>2
 | .mapEntry _ _ _=>2
 | .entryStore _ _ _ _=>2
 | .range _ _=>2
 | .entry _=>1
 | .next _ _=>2
 |_=>0
def opV (P:aa) (o:aj) (ρ:Env) (w:ac) (K:ab->ac->Prop):Prop:=
 match RK P o.op with
 |0=>dV P o ρ λv=>K v w
 |1=>eN P o ρ w λv=>K v w
 |_=>dD P o ρ w K
def j7 {P:aa} {s:Sem Next} {w w':ac} {v:ab} {K:ab->ac->Prop} (h:s.run P w= .ok (.value v) w') (hk:K v w'):mo P s w K:=by
 unfold mo;rw[h];exact hk
def yCk {P:aa} {o:aj} {ρ:Env} {w:ac} {K:ab->ac->Prop} (h:opV P o ρ w K):mo P (af (ev ρ) o) w K:=by
 unfold opV at h;split at h
 ·obtain⟨v,hk,hf⟩:=gU h;exact j7 (hf w) hk
 ·obtain⟨v,hk,hf⟩:=z3u h;exact j7 hf hk
 ·exact zVk h
def Tw (ops:List aj) (j:Nat):Option Nat:=
 match ops[j]? with
 |some o=>o.dst
 |none=>az
def gd (c want:Bool) (Y N:Prop):Prop:=
 match c,want with
 |true,bo=>Y
 |false,bu=>Y
 |true,bu=>N
 |false,bo=>N
def Nz (ops:List aj) (g:Option (Nat×Bool)) (ρ:Env) (Y N:Env->Prop):Prop:=
 match g with
 |none=>Y ρ
 |some (j,want)=>
  match Tw ops j with
  |none=>N ρ
  |some d=>
   match ρ d with
   | .bool c=>gd c want (Y (put ρ (ay d) (.bool want))) (N (put ρ (ay d) (.bool !want)))
   |_=>N ρ
def z3j {ρ:Env} {d:Nat} {v:ab} (h:ρ d=v):put ρ (ay d) v=ρ:=by
 funext i;simp only[put];cases hb:cu i d
 ·rfl
 ·have:=iX hb;subst this;exact h.symm
@[reducible] def yM (a:Act):Env:=λi=>a.tmps.getD i ao
def wH (a:Act):ev (yM a)=a.eval:=by
 funext x;cases x<;>rfl
def lu {a:Act} {dst:Option Nat} {v:ab} (h:∀d,dst=ay d->d<a.tmps.size):yM (a.put dst v)=put (yM a) dst v:=by
 cases dst with
 |none=>rfl
 |some d=>
  funext i;have:=h d rfl;simp only[yM,Act.put,put];cases hb:cu i d
  ·have je:i≠d:=λe=>by subst e;simp at hb
   simp[BV,Uc (Ne.symm je)]
  ·have e:=iX hb;subst e;simp[BV,Ud this]
def zHp (ops:List aj) (tmps:Array ab) (j:Nat):yielded ops.toArray tmps j=match Tw ops j with
 |none=>az
 |some d=>match tmps[d]? with|some (.bool b)=>ay b|_=>az:=by
 unfold yielded Tw;simp only[AF];cases ops[j]? with
 |none=>rfl
 |some o=>
  obtain⟨dst,op,ty,pos,after,g⟩:=o;cases dst with
  |none=>rfl
  |some d=>
   simp only[Option.bind_some];cases tmps[d]? with
   |none=>rfl
   |some v=>cases v<;>rfl
def tT {ops:List aj} {o:aj} {a:Act} {Y N:Env->Prop} (h:Nz ops o.guard (yM a) Y N):
 if cn o (yielded ops.toArray a.tmps)then Y (yM a)else N (yM a):=by
 unfold Nz at h;unfold cn;split at h
 ·rename_i hg;rw[hg];exact h
 ·rename_i j want hg;rw[hg];have hy:=zHp ops a.tmps j;split at h
  ·rename_i hd;rw[hd]at hy;simp only[hy];simpa using h
  ·rename_i d hd;rw[hd]at hy;simp only[hy];have hv:yM a d=(a.tmps[d]?).getD ao:=by simp[yM,BV]
   rw[hv]at h;cases ht:a.tmps[d]? with
   |none=>
    rw[ht]at h;simpa[ao]using h
   |some v=>
    rw[ht]at h hv;simp only[zf]at h hv;cases v with
    |bool c=>
     simp only[]at h ⊢;have hs:∀b,c=b->put (yM a) (ay d) (.bool b)=yM a:=λb hb=>z3j (by rw[hv,hb])
     cases c<;>cases want<;>simp only[gd,Bool.not_true,IK]at h<;>rw[hs _ rfl]at h<;>simpa using h
    |_=>simpa using h
def Of (P:aa) (ops:List aj):List aj->Env->ac->(Env->ac->Prop)->Prop
 |[],ρ,w,K=>K ρ w
 |o::rest,ρ,w,K=>
  Nz ops o.guard ρ (λρ=>opV P o ρ w λv w'=>Of P ops rest (put ρ o.dst v) w' K) (λρ=>Of P ops rest (put ρ o.dst ao) w K)
def Ir (n:Nat) (A:Nat->Bool) (ops:List aj):Prop:=∀o∈ops,∀d,o.dst=ay d->d<n/\A d=bo
structure Good (n:Nat) (A:Nat->Bool) (e0:Env) (a:Act):Prop where
 size:a.tmps.size=n
 defers:a.defers=[]
 same:∀s,A s=bu->yM a s=e0 s
def z3e (a:Act) (d:Option Nat) (v:ab):(a.put d v).tmps.size=a.tmps.size/\(a.put d v).defers=a.defers:=by
 cases d<;>simp[Act.put]
def Good.lu {n:Nat} {A:Nat->Bool} {e0:Env} {a:Act} (h:Good n A e0 a) {dst:Option Nat} (hd:∀d,dst=ay d->d<n/\A d=bo) (v:ab):
 yM (a.put dst v)=put (yM a) dst v:=Cv.lu λd oE=>by rw[h.size];exact(hd d oE).1
def Good.put {n:Nat} {A:Nat->Bool} {e0:Env} {a:Act} (h:Good n A e0 a) {dst:Option Nat} (hd:∀d,dst=ay d->d<n/\A d=bo) (v:ab):Good n A e0 (a.put dst v):=by
 refine⟨(z3e _ _ _).1.trans h.size,(z3e _ _ _).2.trans h.defers,λs hs=> ?_⟩;rw[h.lu hd];cases dst with
 |none=>exact h.same s hs
 |some d=>
  simp only[Cv.put];cases hb:cu s d
  ·exact h.same s hs
  ·have e:=iX hb;subst e;have:=(hd s rfl).2;rw[hs]at this;cases this
def Ys {P:aa} {o:aj} {a:Act} {w:ac} {K:Act->ac->Prop} {Q:Exit->Act->ac->Prop}
 (h:mo P (af a.eval o) w λv w'=>K (a.put o.dst v) w'):o.wp P a w K Q:=by
 unfold mo at h;unfold Oper.wp;split at h
 ·rename_i v w' hr;rw[hr];exact h
 ·rename_i w' hr;rw[hr];exact h
 ·rename_i f args w' hr;rw[hr];exact h.mono λe Ue ⟨v,he,hk⟩=>by subst he;exact hk
 ·exact h.elim
def zRa {P:aa} {ops:List aj} {n:Nat} {A:Nat->Bool} {e0:Env} {Q:Exit->Act->ac->Prop} {K:Env->ac->Prop}
 (hQ:∀a w,Good n A e0 a->K (yM a) w->Q .normal a w):
 ∀(l:List aj) (a:Act) (w:ac),Ir n A l->Good n A e0 a->Of P ops l (yM a) w K->wpList P ops.toArray Q l a w
 |[],a,w,_,hg,h=>hQ a w hg h
 |o::l,a,w,hf,pg,h=>by
  have xd:=hf o ji;have hf':Ir n A l:=λo' oz=>hf o' (jw _ oz)
  have hg:=tT h;have nx:∀{v:ab} {w:ac},Of P ops l (put (yM a) o.dst v) w K->wpList P ops.toArray Q l (a.put o.dst v) w:=λ{v w} hh=>
   zRa hQ l _ _ hf' (pg.put xd v) (by rw[pg.lu xd];exact hh)
  unfold wpList;split
  ·rename_i hw;rw[fc hw]at hg;left;refine Ys ?_;have:=yCk hg;rw[wH]at this;unfold mo at this ⊢;split at this
   ·exact nx this
   ·exact nx this
   ·exact this.mono λe Ue ⟨v,he,hk⟩=>⟨v,he,nx hk⟩
   ·exact this
  ·rename_i hw;rw[ej hw]at hg;exact nx hg
end Cv
namespace Cv
open Go
def yLx (acc:List Nat) (o:aj):Nat:=
 o.after.toList.foldl (λs e=>bif cm .any e then s|||2 ^ e.on|||acc.getD e.on 0 else s) 0
def u0:List aj->List Nat->List Nat
 |[],acc=>acc
 |o::rest,acc=>u0 rest (acc++[yLx acc o])
def AN (bf:List Nat) (i r:Nat):Bool:=(bf.getD i 0).testBit r
def tW (ops:List aj) (L:Nat->Prop):Prop:=∀i o,ops[i]?=ay o->L i->∀e∈o.after,cm .any e=bo->L e.on
def zUj {ops:List aj} {acc:List Nat} {L:Nat->Prop} (Cg:∀k,L k->∀r,(acc.getD k 0).testBit r=bo->L r):
 ∀(l:List Edge) (s:Nat),(∀r,s.testBit r=bo->L r)->(∀e∈l,cm .any e=bo->L e.on)->
  ∀r,(l.foldl (λs e=>bif cm .any e then s|||2 ^ e.on|||acc.getD e.on 0 else s) s).testBit r=bo->L r
 |[],s,hs,_,r,h=>hs r h
 |e::l,s,hs,hl,r,h=>by
  refine zUj (ops:=ops) Cg l _ ?_ (λe' qy=>hl e' (jw _ qy)) r h;intro r hr;dsimp only at hr;cases hb:cm .any e
  ·rw[hb]at hr;exact hs r hr
  ·have UE:=hl e (by simp) hb;rw[hb]at hr;simp only[cond_true,Nat.testBit_or,Nat.testBit_two_pow,bv,tw]at hr;rcases hr with(hr|hr)|hr
   ·exact hs r hr
   ·exact hr▸UE
   ·exact Cg _ UE r hr
def zt {ops:List aj} {L:Nat->Prop} (hc:tW ops L):∀(l:List aj) (acc:List Nat),(∀j,l[j]? =ops[acc.length+j]?)->
 (∀k o,k<acc.length->ops[k]? =ay o->(∀e∈o.after,cm .any e=bo->L e.on)->∀r,(acc.getD k 0).testBit r=bo->L r)->
 ∀k o,ops[k]? =ay o->(∀e∈o.after,cm .any e=bo->L e.on)->∀r,((u0 l acc).getD k 0).testBit r=bo->L r
 |[],acc,hl,Cg,k,o,ho,hd,r,hr=>by
  by_cases hk:k<acc.length
  ·exact Cg k o hk ho hd r hr
  ·exfalso;have:=hl (k-acc.length);rw[show acc.length+(k-acc.length)=k by omega,ho]at this;simp at this
 |o::l,acc,hl,Cg,k,o',oz,hd,r,hr=>by
  refine zt hc l (acc++[yLx acc o]) ?_ ?_ k o' oz hd r hr
  ·intro j;have:=hl (j+1);simp only[im,iD,tp];rw[show acc.length+(0+1)+j=acc.length+(j+1)by omega];simpa using this
  ·intro k2 o2 ra I' zi r2 wu;have Q6:∀k,L k->∀r,(acc.getD k 0).testBit r=bo->L r:=by
    intro k3 hL r3 h3;by_cases Hw:k3<acc.length
    ·cases CF:ops[k3]? with
     |none=>
      exfalso;have:=hl 0;simp only[Ey]at this;rw[List.getElem?_eq_none_iff]at CF;have h4:acc.length<ops.length:=by
       rcases uo acc.length ops.length with h|h
       ·exact h
       ·rw[tx h]at this;simp at this
      omega
     |some o3=>exact Cg k3 o3 Hw CF (hc k3 o3 CF hL) r3 h3
    ·simp[np,tx (Nat.not_lt.1 Hw)]at h3
   by_cases hk:k2<acc.length
   ·rw[np,EC hk,<- np]at wu;exact Cg k2 o2 hk I' zi r2 wu
   ·have qx:k2=acc.length:=by simp at ra;omega
    subst qx;rw[np,Cy (km _)]at wu;simp only[II,Cx,zf]at wu;have h0:=hl 0;simp only[Cx,Ey]at h0;rw[I']at h0;cases h0;exact zUj (ops:=ops) Q6 _ 0 (by simp) (λe he hb=>zi e (by simpa using he) hb) r2 wu
def z4e {ops:List aj} {L:Nat->Prop} (hc:tW ops L) {i:Nat} {o:aj} (ho:ops[i]? =ay o) (hd:∀e∈o.after,cm .any e=bo->L e.on)
 {r:Nat} (h:AN (u0 ops []) i r=bo):L r:=
 zt hc ops [] (by simp) (by simp) i o ho hd r h
@[reducible] def Mon:=Nat×(ac->Prop)
def jC (bf:List Nat) (i:Nat) (M:List Mon):List Mon:=M.filter λm=> !AN bf i m.1
def Ek (M:List Mon) (w:ac):Prop:=∀m∈M,m.2 w
def DT (P:aa) (ops:Array aj) (i:Nat) (K:Act->ac->Prop) (a:Act) (w:ac):Prop:=
 match ops[i]? with
 |none=>K a w
 |some o=>if cn o (yielded ops a.tmps)then mo P (af a.eval o) w (λv w'=>K (a.put o.dst v) w')else K (a.put o.dst ao) w
def mo.mono {P:aa} {s:Sem Next} {w:ac} {K K':ab->ac->Prop} (h:mo P s w K) (hk:∀v w',K v w'->K' v w'):mo P s w K':=by
 unfold mo at*;split at h
 ·exact hk _ _ h
 ·exact hk _ _ h
 ·exact h.mono λe Ue ⟨v,he,h⟩=>⟨v,he,hk _ _ h⟩
 ·exact h
def SV {P:aa} {ops:Array aj} {i:Nat} {K K':Act->ac->Prop} {a:Act} {w:ac} (h:DT P ops i K a w) (hk:∀a w,K a w->K' a w):DT P ops i K' a w:=by
 unfold DT at*;split
 ·rename_i ho;simp only[ho]at h;exact hk _ _ h
 ·rename_i o ho;simp only[ho]at h;split
  ·rename_i hw;rw[fc hw]at h;exact h.mono λv w'=>hk _ _
  ·rename_i hw;rw[ej hw]at h;exact hk _ _ h
def Cq (P:aa) (ops:Array aj) (bf:List Nat) (Q:Act->ac->Prop):Nat->List Mon->Array Bool->Act->ac->Prop
 |0,_,fh,a,w=>ci .any ops fh=[]/\Q a w
 |fuel+1,M,fh,a,w=>
  (ci .any ops fh=[]->Q a w)/\
  ∀i∈ci .any ops fh,DT P ops i (λa' w'=>Ek (jC bf i M) w'/\Cq P ops bf Q fuel (jC bf i M) (fh.setIfInBounds i bo) a' w') a w
def zVj {bf:List Nat} {i:Nat} {M M':List Mon} (h:∀m∈M',m∈M):∀m∈jC bf i M',m∈jC bf i M:=by
 intro m hm;simp only[jC,ve]at hm ⊢;exact⟨h m hm.1,hm.2⟩
def z0b {P:aa} {ops:Array aj} {bf:List Nat} {Q:Act->ac->Prop}:∀(fuel:Nat) {M M':List Mon} (fh:Array Bool) (a:Act) (w:ac),
 (∀m∈M',m∈M)->Cq P ops bf Q fuel M fh a w->Cq P ops bf Q fuel M' fh a w
 |0,_,_,_,_,_,_,h=>h
 |fuel+1,M,M',fh,a,w,hs,h=>⟨h.1,λi hi=>SV (h.2 i hi) λa' w' hh=>
   ⟨λm hm=>hh.1 m (zVj hs m hm),z0b fuel _ _ _ (zVj hs) hh.2⟩⟩
def gG {P:aa} {ops:Array aj} {bf:List Nat} {Q:Act->ac->Prop} {Q':Exit->Act->ac->Prop} (hQ:∀a w,Q a w->Q' .normal a w):
 ∀(fuel:Nat) {M:List Mon} (fh:Array Bool) (a:Act) (w:ac),Cq P ops bf Q fuel M fh a w->wpAny P .any ops Q' fuel fh a w
 |0,_,_,_,_,h=>⟨h.1,hQ _ _ h.2⟩
 |fuel+1,M,fh,a,w,h=>⟨λh0=>hQ _ _ (h.1 h0),λi hi=>by
   have:=h.2 i hi;unfold DT at this;unfold wpOp;split
   ·rename_i ho;simp only[ho]at this;exact gG hQ fuel _ _ _ this.2
   ·rename_i o ho;simp only[ho]at this;split
    ·rename_i hw;rw[fc hw]at this;exact .inl (Ys (this.mono λv w' hh=>gG hQ fuel _ _ _ hh.2))
    ·rename_i hw;rw[ej hw]at this;exact gG hQ fuel _ _ _ this.2⟩
def tM (P:aa) (ops:Array aj) (o:aj) (v:ab) (a:Act) (w:ac):Prop:=
 (cn o (yielded ops a.tmps)=bo/\(af a.eval o).run P w=.ok (.value v) w)\/(cn o (yielded ops a.tmps)=bu/\v=ao)
def zUe {P:aa} {ops:Array aj} {i:Nat} {o:aj} {v:ab} {a:Act} {w:ac} {K:Act->ac->Prop} (hi:ops[i]? =ay o) (h:tM P ops o v a w) (hk:K (a.put o.dst v) w):DT P ops i K a w:=by
 unfold DT;simp only[hi];rcases h with⟨hw,hr⟩|⟨hw,rfl⟩
 ·rw[fc hw];exact j7 hr hk
 ·rw[ej (by rw[hw];simp)];exact hk
def yEo {fh:Array Bool} {i:Nat} (h:fh.getD i bo=bu):i<fh.size:=by
 rcases uo i fh.size with h'|h'
 ·exact h'
 ·simp[BV,Gx h']at h
def qH (fh:Array Bool) (i:Nat):Prop:=fh.getD i bu=bo
def zGk {fh:Array Bool} {i j:Nat} (h:qH fh j):qH (fh.setIfInBounds i bo) j:=by
 unfold qH at*;by_cases Jc:i=j
 ·subst Jc;have:i<fh.size:=by
   rcases uo i fh.size with h'|h'
   ·exact h'
   ·simp[BV,Gx h']at h
  simp[BV,Ud this]
 ·simpa[BV,Uc Jc]using h
def zKr {fh:Array Bool} {i j:Nat} (h:qH (fh.setIfInBounds i bo) j):j=i\/qH fh j:=by
 unfold qH at*;by_cases Jc:i=j
 ·exact .inl Jc.symm
 ·right;simpa[BV,Uc Jc]using h
def zRj {fh:Array Bool} {i:Nat} (h:fh.getD i bo=bu):¬qH fh i:=by
 unfold qH;have:=yEo h;simp only[BV,OJ this]at h ⊢;simp at h ⊢;exact h
def uM {ops:List aj} {fh:Array Bool} (hc:tW ops (qH fh)) {i:Nat} (hi:i∈ci .any ops.toArray fh):tW ops (qH (fh.setIfInBounds i bo)):=by
 intro j o ho hj e he hb;rcases zKr hj with rfl|hj
 ·obtain⟨_,o',oz,uz⟩:=mem_ready.1 hi;simp only[AF]at oz;rw[ho]at oz;cases oz;exact zGk (uz e he hb)
 ·exact zGk (hc j o ho hj e he hb)
def sR (ops:List aj) (bf:List Nat):Bool:=
 Region.noSelect ops.toArray && (da ops.length).all λi=>(da i).all λj=>
  match ops[i]?,ops[j]? with
  |some oi,ay oj=>AN bf i j||(oi.apart ops.toArray oj && oj.apart ops.toArray oi)
  |_,_=>bo
def z3h {ops:List aj} {bf:List Nat} (h:sR ops bf=bo) {i j:Nat} {oi oj:aj} (hi:ops[i]? =ay oi) (hj:ops[j]? =ay oj) (je:i≠j)
 (h1:AN bf i j=bu) (h2:AN bf j i=bu):oi.apart ops.toArray oj=bo:=by
 simp only[sR,kx,Dp,BT]at h;have lt:∀{k:Nat} {o:aj},ops[k]? =ay o->k<ops.length:=λ{k o} hk=>by
  rcases uo k ops.length with h'|h'
  ·exact h'
  ·rw[tx h']at hk;cases hk
 rcases Nat.lt_or_gt_of_ne je with gr|gr
 ·have:=h.2 j (lt hj) i gr;simp only[hi,hj,h2,Kx,kx]at this;exact this.2
 ·have:=h.2 i (lt hi) j gr;simp only[hi,hj,h1,Kx,kx]at this;exact this.1
def yNk {P:aa} {ops:Array aj} {o:aj} {v u:ab} {a:Act} {w:ac} {d:Option Tmp} (hs:∀cs b,o.op≠.select cs b) (hd:∀t,d=ay t->t∉o.looksAt ops):
 tM P ops o v (a.put d u) w↔tM P ops o v a w:=by
 unfold tM;rw[execOp_put o hs a d u hd,wanted_put o a d u hd]
def yGd {P:aa} {ops:Array aj} {j:Nat} {oi oj:aj} {v:ab} (hj:ops[j]? =ay oj) (Je:oi.apart ops oj=bo) (hsj:∀cs b,oj.op≠.select cs b)
 {K:Act->ac->Prop} {a:Act} {w:ac} (h:DT P ops j K (a.put oi.dst v) w):
 DT P ops j (λa' w'=>(∃u,a'=a.put oj.dst u)/\K (a'.put oi.dst v) w') a w:=by
 obtain⟨h1,h2,h3⟩:=Oper.apart_spec Je;unfold DT at*;simp only[hj]at*;rw[wanted_put oj a oi.dst v h1]at h;split
 ·rename_i hw;rw[fc hw]at h;rw[execOp_put oj hsj a oi.dst v h1]at h;refine h.mono λu w' hk=>⟨⟨u,rfl⟩,?_⟩
  rw[<- Act.put_comm a v u h2];exact hk
 ·rename_i hw;rw[ej hw]at h;exact⟨⟨_,rfl⟩,by rw[<- Act.put_comm a v ao h2];exact h⟩
def gY {P:aa} {ops:List aj} {Q:Act->ac->Prop} (oK:sR ops (u0 ops [])=bo) {r:Nat} {o:aj} {v:ab} (hr:ops[r]? =ay o):
 ∀(fuel:Nat) (M:List Mon) (fh:Array Bool) (a:Act) (w:ac),tW ops (qH fh)->r∈ci .any ops.toArray fh->
  tM P ops.toArray o v a w->Ek M w->
  Cq P ops.toArray (u0 ops []) Q fuel ((r,λw=>tM P ops.toArray o v a w)::M) (fh.setIfInBounds r bo) (a.put o.dst v) w->
  Cq P ops.toArray (u0 ops []) Q (fuel+1) M fh a w:=by
 have hns:∀(i:Nat) (o:aj),ops[i]? =ay o->∀cs b,o.op≠.select cs b:=by
  intro i o hi cs b;simp only[sR,kx]at oK;exact Region.noSelect_spec oK.1 i o cs b (by simpa using hi)
 intro fuel
 induction fuel with
 |zero=>
  intro M fh a w hc KL hs hM H;refine⟨λh=>(by rw[h]at KL;cases KL),λi hi=> ?_⟩;by_cases Jb:i=r
  ·subst Jb;refine zUe (by simpa using hr) hs ⟨λm hm=>hM m (by simp only[jC,ve]at hm;exact hm.1),?_⟩;exact H
  ·have:=ready_mono hi Jb;rw[H.1]at this;cases this
 |succ fuel ih=>
  intro M fh a w hc KL hs hM H;refine⟨λh=>(by rw[h]at KL;cases KL),λi hi=> ?_⟩;by_cases Jb:i=r
  ·subst Jb;refine zUe (by simpa using hr) hs ⟨λm hm=>hM m (by simp only[jC,ve]at hm;exact hm.1),?_⟩;refine z0b _ _ _ _ ?_ H;intro m hm;simp only[jC,ve]at hm;exact jw _ hm.1
  ·have h1:=H.2 i (ready_mono hi Jb);obtain⟨aaN,oi,O4,uz⟩:=mem_ready.1 hi;obtain⟨jg,o',oz,QZ⟩:=mem_ready.1 KL;simp only[AF]at O4 oz;rw[hr]at oz;cases oz;have hL:∀(k:Nat) (ok:aj),ops[k]? =ay ok->(∀e∈ok.after,cm .any e=bo->fh.getD e.on bu=bo)->∀q,AN (u0 ops []) k q=bo->qH fh q:=
    λk ok hk hd q hq=>z4e hc hk hd hq
   have nri:AN (u0 ops []) i r=bu:=by
    cases hb:AN (u0 ops []) i r with
    |false=>rfl
    |true=>exact absurd (hL i oi O4 uz r hb) (zRj jg)
   have nir:AN (u0 ops []) r i=bu:=by
    cases hb:AN (u0 ops []) r i with
    |false=>rfl
    |true=>exact absurd (hL r o hr QZ i hb) (zRj aaN)
   have Je:=z3h oK hr O4 (Ne.symm Jb) nir nri;have h2:=yGd (by simpa using O4) Je (hns i oi O4) h1;have aaV:=(Oper.apart_spec Je).2.2;have Q9:jC (u0 ops []) i ((r,λw=>tM P ops.toArray o v a w)::M)=(r,λw=>tM P ops.toArray o v a w)::jC (u0 ops []) i M:=by
    simp[jC,nri]
   refine SV h2 λa' w' hh=> ?_
   obtain⟨⟨u,rfl⟩,hA,hB⟩:=hh;rw[Q9]at hA hB;have iI:∀w,tM P ops.toArray o v (a.put oi.dst u) w↔tM P ops.toArray o v a w:=λw=>yNk (hns r o hr) aaV
   refine⟨λm hm=>hA m (jw _ hm),?_⟩;have aaR:(λw=>tM P ops.toArray o v a w)=λw=>tM P ops.toArray o v (a.put oi.dst u) w:=by
    funext w;exact propext (iI w).symm
   rw[aaR]at hA hB;refine ih _ _ _ _ (uM hc hi) (ready_mono KL (Ne.symm Jb)) (hA _ ji) (λm hm=>hA m (jw _ hm)) ?_;rw[Array.setIfInBounds_comm _ _ Jb];exact hB
end Cv
namespace Cv
open Go
def eI (P:aa) (o:aj) (ρ:Env) (v:ab) (w:ac):Prop:=
 match o.op with
 | .load t x=>
   match ev ρ x with
   | .pointer p=>Iq p λa=>nC P t a w v
   |_=>False
 | .lookup t m k ok=>cD P (cp t (ev ρ m) (ev ρ k) ok) w v
 | .convert s d x=>cD P (ax s d (ev ρ x)) w v
 | .binOp op t x y _=>cD P (do ak op t x y (ev ρ x) (ev ρ y);binOp op t (ev ρ x) (ev ρ y)) w v
 | .call {callee:= .builtin .len,args,argTypes}=>cD P (cf argTypes o.type (args.map (ev ρ))) w v
 | .entry x=>cD P (Instr.entry (ev ρ x)) w v
 |_=>False
def yEs {P:aa} {o:aj} {ρ:Env} {v:ab} {w:ac} (h:eI P o ρ v w):(af (ev ρ) o).run P w= .ok (.value v) w:=by
 unfold eI at h;split at h
 ·rename_i t x ho;split at h
  ·rename_i p hx;obtain⟨a,rfl,h⟩:=rI h;simp only[af,ho,hx];exact yF h
  ·exact h.elim
 ·rename_i t m k ok ho;simp only[af,ho];exact yF h
 ·rename_i s d x ho;simp only[af,ho];exact yF h
 ·rename_i op t x y u ho;simp only[af,ho];exact yF h
 ·rename_i args argTypes ho;simp only[af,ho];exact yF h
 ·rename_i x ho;simp only[af,ho];exact yF h
 ·exact h.elim
def z4t {P:aa} {ρ:Env} {o:aj} {w:ac} {K:ab->Prop} (h:eN P o ρ w K):∃v,K v/\eI P o ρ v w:=by
 cases ho:o.op
 case load t x=>
  simp only[eN,ho]at h;split at h
  ·rename_i p hx;obtain⟨a,rfl,h⟩:=rI h;obtain⟨v,hv,h⟩:=vA h;refine⟨v,h,?_⟩;simp only[eI,ho,hx];exact hv
  ·exact h.elim
 case lookup t m k ok=>
  simp only[eN,ho]at h;split at h
  ·rename_i e he;obtain⟨v,h⟩:=vA h;obtain⟨b,hb,h⟩:=wA h;refine⟨_,h,?_⟩;simp only[eI,ho];cases ok
   ·exact zLi hb
   ·exact hb
  ·exact h.elim
 case convert s d x=>
  simp only[eN,ho]at h;obtain⟨v,hv,h⟩:=vA h;refine⟨v,h,?_⟩;simp only[eI,ho];exact hv
 case binOp op t x y u=>
  simp only[eN,ho]at h;split at h
  ·obtain⟨v,h1,h2,h⟩:=wA h;refine⟨v,h,?_⟩;simp only[eI,ho,cD,bind,run_bind,h2];exact h1
  ·obtain⟨v,h1,h2,h⟩:=wA h;refine⟨v,h,?_⟩;simp only[eI,ho,cD,bind,run_bind,h2];exact h1
  ·exact h.elim
 case call c=>
  simp only[eN,ho]at h;split at h<;>first|exact h.elim|skip
  all_goals first|(exfalso;rename_i hh;cases hh;done)|skip
  rename_i args argTypes hh;cases hh;obtain⟨v,hv,h⟩:=wA h;refine⟨v,h,?_⟩;simp only[eI,ho];exact hv
 case entry x=>
  simp only[eN,ho]at h;obtain⟨v,hv,h⟩:=h;refine⟨v,h,?_⟩;simp only[eI,ho];exact hv
 all_goals(simp only[eN,ho]at h)
def Y0:List Mon->ac->Prop->Prop
 |[],_,X=>X
 |m::ms,w,X=>m.2 w/\Y0 ms w X
def zQx:∀{M:List Mon} {w:ac} {X:Prop},Y0 M w X->Ek M w/\X
 |[],_,_,h=>⟨λm hm=>(by cases hm),h⟩
 |m::ms,w,X,h=>by
  obtain⟨h1,h2⟩:=h;obtain⟨h3,h4⟩:=zQx h2;refine⟨λm' hm=> ?_,h4⟩;rcases mf.1 hm with rfl|hm
  ·exact h1
  ·exact h3 _ hm
def TP:List Nat->(Nat->Prop)->Prop
 |[],_=>True
 |[e],f=>f e
 |e::es,f=>f e/\TP es f
def VD:∀{l:List Nat} {f:Nat->Prop},TP l f->∀i∈l,f i
 |[],_,_,i,hi=>by cases hi
 |[e],f,h,i,hi=>by rcases vf.1 hi with rfl;exact h
 |e::e'::es,f,h,i,hi=>by
  rcases mf.1 hi with rfl|hi
  ·exact h.1
  ·exact VD h.2 i hi
def yOk (P:aa) (ops:List aj) (i:Nat):Bool:=
 match ops[i]? with
 |some o=>match RK P o.op with
  |2=>bu
  |_=>bo
 |none=>bo
def Gn (P:aa) (ops:List aj) (bf:List Nat):Nat->Array Bool->List Mon->Env->ac->(Env->ac->Prop)->Prop
 |0,fh,_,ρ,w,K=>
  match ci .any ops.toArray fh with
  |[]=>K ρ w
  |_=>False
 |fuel+1,fh,M,ρ,w,K=>
  match ci .any ops.toArray fh with
  |[]=>K ρ w
  |r::rs=>
   match(r::rs).find? (yOk P ops)with
   |some i=>
    match ops[i]? with
    |none=>False
    |some o=>Nz ops o.guard ρ
      (λρ'=>match RK P o.op with
        |0=>dV P o ρ' λv=>Gn P ops bf fuel (fh.setIfInBounds i bo) M (put ρ' o.dst v) w K
        |_=>eN P o ρ' w λv=>Gn P ops bf fuel (fh.setIfInBounds i bo) ((i,eI P o ρ' v)::M) (put ρ' o.dst v) w K)
      (λρ'=>Gn P ops bf fuel (fh.setIfInBounds i bo) M (put ρ' o.dst ao) w K)
   |none=>TP (r::rs) λi=>
    match ops[i]? with
    |none=>False
    |some o=>Nz ops o.guard ρ
      (λρ'=>dD P o ρ' w λv w'=>Y0 (jC bf i M) w' (Gn P ops bf fuel (fh.setIfInBounds i bo) (jC bf i M) (put ρ' o.dst v) w' K))
      (λρ'=>Gn P ops bf fuel (fh.setIfInBounds i bo) (jC bf i M) (put ρ' o.dst ao) w K)
def mO {n:Nat} {A:Nat->Bool} {l:List aj} (h:Ir n A l) {i:Nat} {o:aj} (ho:l[i]? =ay o):∀d,o.dst=ay d->d<n/\A d=bo:=
 h o (lr ho)
def mZ {P:aa} {ops:Array aj} {bf:List Nat} {Q:Act->ac->Prop} {i:Nat} {f:ac->Prop} (hf:∀w,f w):
 ∀(fuel:Nat) {M:List Mon} (fh:Array Bool) (a:Act) (w:ac),Cq P ops bf Q fuel M fh a w->Cq P ops bf Q fuel ((i,f)::M) fh a w
 |0,_,_,_,_,h=>h
 |fuel+1,M,fh,a,w,h=>⟨h.1,λj hj=>SV (h.2 j hj) λa' w' hh=>by
   have hk:jC bf j ((i,f)::M)=if AN bf j i then jC bf j M else(i,f)::jC bf j M:=by
    simp only[jC,List.filter_cons];cases AN bf j i<;>simp
   rw[hk];cases AN bf j i
   ·refine⟨λm hm=> ?_,mZ hf fuel _ _ _ hh.2⟩;simp only[oD,if_false,mf]at hm;rcases hm with rfl|hm
    ·exact hf w'
    ·exact hh.1 m hm
   ·exact hh⟩
def zZn {P:aa} {ops:Array aj} {bf:List Nat} {Q:Act->ac->Prop} {i:Nat} {f g:ac->Prop} (hfg:∀w,f w->g w):
 ∀(fuel:Nat) {M:List Mon} (fh:Array Bool) (a:Act) (w:ac),Cq P ops bf Q fuel ((i,f)::M) fh a w->Cq P ops bf Q fuel ((i,g)::M) fh a w
 |0,_,_,_,_,h=>h
 |fuel+1,M,fh,a,w,h=>⟨h.1,λj hj=>SV (h.2 j hj) λa' w' hh=>by
   have hk:∀f:ac->Prop,jC bf j ((i,f)::M)=if AN bf j i then jC bf j M else(i,f)::jC bf j M:=by
    intro f;simp only[jC,List.filter_cons];cases AN bf j i<;>simp
   rw[hk]at hh ⊢;cases hb:AN bf j i
   ·rw[hb]at hh;simp only[oD,if_false]at hh ⊢;refine⟨λm hm=> ?_,zZn hfg fuel _ _ _ hh.2⟩;rcases mf.1 hm with rfl|hm
    ·exact hfg w' (hh.1 _ ji)
    ·exact hh.1 m (jw _ hm)
   ·rw[hb]at hh;exact hh⟩
def z6p {P:aa} {ops:List aj} {n:Nat} {A:Nat->Bool} {e0:Env} {K:Env->ac->Prop} {Q:Act->ac->Prop} (oK:sR ops (u0 ops [])=bo) (hf:Ir n A ops)
 (hQ:∀a w,Good n A e0 a->K (yM a) w->Q a w):
 ∀(fuel:Nat) (fh:Array Bool) (M:List Mon) (a:Act) (w:ac),tW ops (qH fh)->Ek M w->Good n A e0 a->
  Gn P ops (u0 ops []) fuel fh M (yM a) w K->Cq P ops.toArray (u0 ops []) Q fuel M fh a w:=by
 intro fuel
 induction fuel with
 |zero=>
  intro fh M a w hc hM pg h;unfold Gn at h;split at h
  ·rename_i hr;exact⟨hr,hQ a w pg h⟩
  ·exact h.elim
 |succ fuel ih=>
  intro fh M a w hc hM pg h;unfold Gn at h;split at h
  ·rename_i hr;exact⟨λ_=>hQ a w pg h,λi hi=>by rw[hr]at hi;cases hi⟩
  ·rename_i r rs hr;have je:ci .any ops.toArray fh≠[]:=by rw[hr];simp
   split at h
   ·rename_i i Fi;have hi:i∈ci .any ops.toArray fh:=by rw[hr];exact List.mem_of_find?_eq_some Fi
    split at h<;>first|exact h.elim|skip
    rename_i o ho;have yw:∀v,yM (a.put o.dst v)=put (yM a) o.dst v:=λv=>pg.lu (mO hf ho) v
    have hg:=tT h;have nx:∀{M:List Mon} {v:ab},Ek M w->Gn P ops (u0 ops []) fuel (fh.setIfInBounds i bo) M (put (yM a) o.dst v) w K->
     Cq P ops.toArray (u0 ops []) Q fuel M (fh.setIfInBounds i bo) (a.put o.dst v) w:=λ{M v} hM hh=>
     ih _ _ _ _ (uM hc hi) hM (pg.put (mO hf ho) _) (by rw[yw];exact hh)
    by_cases hw:cn o (yielded ops.toArray a.tmps)=bo
    ·rw[fc hw]at hg;split at hg
     ·obtain⟨v,hk,ud⟩:=gU hg;rw[wH]at ud;have hs:∀w,tM P ops.toArray o v a w:=λw=> .inl ⟨hw,ud w⟩
      exact gY oK ho fuel M fh a w hc hi (hs w) hM (mZ hs fuel _ _ _ (nx hM hk))
     ·obtain⟨v,hk,ku⟩:=z4t hg;have hw':∀w,eI P o (yM a) v w->tM P ops.toArray o v a w:=λw ku=> .inl ⟨hw,by rw[<- wH];exact yEs ku⟩
      refine gY oK ho fuel M fh a w hc hi (hw' w ku) hM (zZn hw' fuel _ _ _ (nx ?_ hk));intro m hm;rcases mf.1 hm with rfl|hm
      ·exact ku
      ·exact hM m hm
    ·rw[ej hw]at hg;have hs:∀w,tM P ops.toArray o ao a w:=λw=> .inr ⟨by simpa using hw,rfl⟩
     exact gY oK ho fuel M fh a w hc hi (hs w) hM (mZ hs fuel _ _ _ (nx hM hg))
   ·refine⟨λh0=>absurd h0 je,λi hi=> ?_⟩;have h1:=VD h i (by rw[<- hr];exact hi);split at h1<;>first|exact h1.elim|skip
    rename_i o ho;have yw:∀v,yM (a.put o.dst v)=put (yM a) o.dst v:=λv=>pg.lu (mO hf ho) v
    have hg:=tT h1;unfold DT;simp only[AF,ho];by_cases hw:cn o (yielded ops.toArray a.tmps)=bo
    ·rw[fc hw]at hg ⊢;have Bi:=zVk hg;rw[wH]at Bi;refine Bi.mono λv w' hh=> ?_
     obtain⟨CH,hh⟩:=zQx hh;exact⟨CH,ih _ _ _ _ (uM hc hi) CH (pg.put (mO hf ho) _) (by rw[yw];exact hh)⟩
    ·rw[ej hw]at hg ⊢;have CH:Ek (jC (u0 ops []) i M) w:=λm hm=>hM m (by simp only[jC,ve]at hm;exact hm.1)
     exact⟨CH,ih _ _ _ _ (uM hc hi) CH (pg.put (mO hf ho) _) (by rw[yw];exact hg)⟩
end Cv
namespace Cv
open Go
structure Ou where
 ι:Type
 Py:ι->List (Nat×ab)
 fix:List Nat
def IA:List (Nat×ab)->Env->Prop
 |[],_=>True
 |[p],ρ=>ρ p.1=p.2
 |p::l,ρ=>ρ p.1=p.2/\IA l ρ
def DP {p:Nat×ab} {l:List (Nat×ab)} {ρ:Env}:IA (p::l) ρ↔ρ p.1=p.2/\IA l ρ:=by
 cases l<;>simp[IA]
def Tv:List (Nat×ab)->Env->Env
 |[],ρ=>ρ
 |p::l,ρ=>put (Tv l ρ) (ay p.1) p.2
def zSx:∀{l:List (Nat×ab)} {ρ:Env},IA l ρ->Tv l ρ=ρ
 |[],_,_=>rfl
 |p::l,ρ,h=>by
  have h:=DP.1 h;simp only[Tv];rw[zSx h.2];exact z3j h.1
def nZ (s:Nat):List Nat->Bool
 |[]=>bu
 |x::l=>bif cu s x then bo else nZ s l
def rl {s:Nat}:∀{l:List Nat},nZ s l=bo↔s∈l
 |[]=>by simp[nZ]
 |x::l=>by
  simp only[nZ];cases hb:cu s x
  ·have je:s≠x:=λe=>by subst e;simp at hb
   simp[rl,je]
  ·have:=iX hb;simp[this]
def yGp (fix:List Nat) (ρ j:Env):Env:=λs=>bif nZ s fix then ρ s else j s
def z5s {fix:List Nat} {ρ j:Env} (h:∀s∈fix,j s=ρ s):yGp fix ρ j=j:=by
 funext s;simp only[yGp];cases hb:nZ s fix
 ·rfl
 ·exact(h s (rl.1 hb)).symm
def uc:Code->List Nat
 | .region _ ops _=>ops.toList.filterMap (·.dst)
 | .seq a b=>uc a++uc b
 | .cond _ a b=>uc a++uc b
 | .block _ a=>uc a
 | .loop a=>uc a
 |_=>[]
def nL:Code->Nat
 | .seq a b=>nL a+nL b
 | .cond _ a b=>nL a+nL b
 | .block _ a=>nL a
 | .loop a=>nL a+1
 |_=>0
def yVb (next:Env->ac->Prop) (Q:Exit->Env->ac->Prop):Exit->Env->ac->Prop
 | .normal,ρ,w=>next ρ w
 |e,ρ,w=>Q e ρ w
def yJf (id:Nat) (Q:Exit->Env->ac->Prop):Exit->Env->ac->Prop
 | .exit EH,ρ,w=>bif cu EH id then Q .normal ρ w else Q (.exit EH) ρ w
 |e,ρ,w=>Q e ρ w
def dp (t:Bool) (A B:Prop):Prop:=
 match t with
 |true=>A
 |false=>B
def dp.mk {t:Bool} {A B:Prop} (h1:t=bo->A) (h2:t=bu->B):dp t A B:=by
 cases t
 ·exact h2 rfl
 ·exact h1 rfl
def T5 (w:ac) (K:ac->Prop):Prop:=∀w',w'=w.drew->K w'
def Ef (P:aa):List Ou->Code->(Exit->Env->ac->Prop)->Env->ac->Prop
 |_,.skip,Q,ρ,w=>Q .normal ρ w
 |an,.seq a b,Q,ρ,w=>Ef P (an.take (nL a)) a (yVb (λρ w=>Ef P (an.drop (nL a)) b Q ρ w) Q) ρ w
 |an,.cond c a b,Q,ρ,w=>
  match ev ρ c with
  | .bool t=>dp t (Ef P (an.take (nL a)) a Q ρ w) (Ef P (an.drop (nL a)) b Q ρ w)
  |_=>False
 |an,.block id a,Q,ρ,w=>Ef P an a (yJf id Q) ρ w
 |an,.loop a,Q,ρ,w=>
  match an with
  |[]=>False
  |x::rest=>∃(I:x.ι->ac->Prop) (μ:x.ι->ac->Nat),(∃i0,IA (x.Py i0) ρ/\I i0 w)/\
    ∀(j:Env) (i:x.ι) (w1:ac),I i w1->Ef P rest a (yVb (λρ' w'=>∃i',IA (x.Py i') ρ'/\I i' w'/\μ i' w'<μ i w1) Q) (Tv (x.Py i) (yGp x.fix ρ j)) w1
 |_,.exit id,Q,ρ,w=>Q (.exit id) ρ w
 |_,.ret,Q,ρ,w=>Q .ret ρ w
 |_,.region _ ops d,Q,ρ,w=>bif d then T5 w λw=>Gn P ops.toList (u0 ops.toList []) ops.toList.length (dd ops.toList.length bu) [] ρ w (Q .normal)
    else Of P ops.toList ops.toList ρ w (Q .normal)
 |_,_,_,_,_=>False
def wm (n:Nat):Code->Bool
 | .region _ ops d=>(ops.toList.all λo=>match o.dst with|none=>bo|some d=>cw d n) && (bif d then sR ops.toList (u0 ops.toList [])else bo)
 | .seq a b=>wm n a && wm n b
 | .cond _ a b=>wm n a && wm n b
 | .block _ a=>wm n a
 | .loop a=>wm n a
 |_=>bo
def okF:List Ou->Code->Bool
 |an,.seq a b=>okF (an.take (nL a)) a && okF (an.drop (nL a)) b
 |an,.cond _ a b=>okF (an.take (nL a)) a && okF (an.drop (nL a)) b
 |an,.block _ a=>okF an a
 |an,.loop a=>match an with
  |[]=>bu
  |x::rest=>(x.fix.all λs=> !nZ s (uc a)) && okF rest a
 |_,_=>bo
def z1m {n:Nat} {A:Nat->Bool} {ops:List aj} (h:(ops.all λo=>match o.dst with|none=>bo|some d=>cw d n)=bo) (hA:∀s∈ops.filterMap (·.dst),A s=bo):Ir n A ops:=by
 intro o ho d hd;have:=Dp.1 h o ho;rw[hd]at this;exact⟨by simpa[xv]using this,hA d (MN.2 ⟨o,ho,hd⟩)⟩
def T7 (n:Nat) (A:Nat->Bool) (e0:Env) (Q:Exit->Env->ac->Prop):Exit->Act->ac->Prop:=λe a w=>Good n A e0 a/\Q e (yM a) w
def yEg {P:aa} (hm:P.follows .mixedOrders=bo) {n:Nat}:∀(c:Code) (an:List Ou) (Q:Exit->Env->ac->Prop) (A:Nat->Bool) (e0:Env) (a:Act) (w:ac),
 wm n c=bo->okF an c=bo->(∀s∈uc c,A s=bo)->Good n A e0 a->Ef P an c Q (yM a) w->c.wp P (T7 n A e0 Q) a w:=by
 intro c
 induction c with
 |skip=>intro an Q A e0 a w _ _ _ hg h;exact wp_skip ⟨hg,h⟩
 |region id ops d=>
  intro an Q A e0 a w hc _ hA hg h;simp only[wm,kx]at hc;have xd:=z1m (A:=A) hc.1 hA;cases d
  ·refine wp_region_list ?_;exact zRa (Q:=T7 n A e0 Q) (K:=Q .normal) (λa w hg h=>⟨hg,h⟩) ops.toList a w xd hg h
  ·refine wp_region_any hm ?_;have h':=h _ rfl;have oK:sR ops.toList (u0 ops.toList [])=bo:=hc.2;refine gG (Q:=λa w=>T7 n A e0 Q .normal a w) (λ_ _ h=>h) ops.size _ _ _ (M:=[]) (bf:=u0 ops.toList []) ?_;have Az:tW ops.toList (qH (dd ops.toList.length bu)):=by
    intro i o ho hi;exfalso;unfold qH at hi;simp[BV]at hi;rw[Ua]at hi;split at hi<;>simp at hi
   have:=z6p (P:=P) (K:=Q .normal) (Q:=λa w=>T7 n A e0 Q .normal a w) oK xd (λa w hg h=>⟨hg,h⟩) ops.toList.length _ [] a _ Az (λm hm=>by cases hm) hg h';simpa using this
 |seq x y D5 D4=>
  intro an Q A e0 a w hc hf hA hg h;simp only[wm,okF,kx,uc,pn]at hc hf hA;refine wp_seq (aw (D5 _ _ A e0 a w hc.1 hf.1 (λs hs=>hA s (.inl hs)) hg h) ?_);rintro e a' w' ⟨py,h'⟩;cases e<;>first|exact D4 _ _ A e0 a' w' hc.2 hf.2 (λs hs=>hA s (.inr hs)) py h'|exact⟨py,h'⟩
 |cond c x y D5 D4=>
  intro an Q A e0 a w hc hf hA hg h;simp only[wm,okF,kx,uc,pn]at hc hf hA;simp only[Ef]at h;rw[wH]at h;split at h
  ·rename_i t ht;refine wp_cond_split ht (λe=> ?_) (λe=> ?_)
   ·subst e;exact D5 _ _ A e0 a w hc.1 hf.1 (λs hs=>hA s (.inl hs)) hg h
   ·subst e;exact D4 _ _ A e0 a w hc.2 hf.2 (λs hs=>hA s (.inr hs)) hg h
  ·exact h.elim
 |block id x ih=>
  intro an Q A e0 a w hc hf hA hg h;refine wp_block (aw (ih an _ A e0 a w hc hf hA hg h) ?_);rintro e a' w' ⟨py,h'⟩;cases e<;>first|exact⟨py,h'⟩|skip
  rename_i EH;simp only[Exit.inBlock];simp only[yJf]at h';split
  ·rename_i heq;subst heq;rw[Nat.beq_refl]at h';exact⟨py,h'⟩
  ·rename_i je;have hb:cu EH id=bu:=by
    cases hb:cu EH id with
    |false=>rfl
    |true=>exact absurd (iX hb) je
   rw[hb]at h';exact⟨py,h'⟩
 |loop x ih=>
  intro an Q A e0 a w hc hf hA hg h;cases an with
  |nil=>exact h.elim
  |cons an rest=>
   simp only[okF,kx]at hf;obtain⟨I,μ,⟨i0,Uy,hi0⟩,tn⟩:=h;refine wp_loop_ghost (λm a' w'=>Good n A e0 a'/\(∀s∈an.fix,yM a' s=yM a s)/\∃i,IA (an.Py i) (yM a')/\I i w'/\μ i w'=m) (μ i0 w) ⟨hg,λ_ _=>rfl,i0,Uy,hi0,rfl⟩ ?_;rintro m a' w' ⟨py,DH,i,aaD,hI,rfl⟩;have h1:=tn (yM a') i w' hI;rw[z5s DH,zSx aaD]at h1;have Pg:Good n (λs=>A s && nZ s (uc x)) (yM a') a':=⟨py.size,py.defers,λ_ _=>rfl⟩
   refine aw (ih rest _ (λs=>A s && nZ s (uc x)) (yM a') a' w' hc hf.2 (λs hs=>by rw[hA s hs,rl.2 hs];rfl) Pg h1) ?_;rintro e a2 w2 ⟨yp,h2⟩;have Jd:Good n A e0 a2:=⟨yp.size,yp.defers,λs hs=>by rw[yp.same s (by simp[hs]),py.same s hs]⟩
   cases e<;>first|exact⟨Jd,h2⟩|skip
   obtain⟨i',iI,hI',gr⟩:=h2;refine⟨_,gr,Jd,λs hs=> ?_,i',iI,hI',rfl⟩;have:=Dp.1 hf.1 s hs;rw[yp.same s (by simp at this;simp[this]),DH s hs]
 |exit id=>intro an Q A e0 a w _ _ _ hg h;exact wp_exit ⟨hg,h⟩
 |ret=>intro an Q A e0 a w _ _ _ hg h;exact wp_ret ⟨hg,h⟩
 |rangeFunc f ps x y D5 D4=>intro an Q A e0 a w _ _ _ hg h;exact h.elim
 |scope x ih=>intro an Q A e0 a w _ _ _ hg h;exact h.elim
 |label l=>intro an Q A e0 a w _ _ _ hg h;exact h.elim
 |goto l=>intro an Q A e0 a w _ _ _ hg h;exact h.elim
 |refuse s=>intro an Q A e0 a w _ _ _ hg h;exact h.elim
end Cv
namespace Cv
open Go
def bs (l:List Nat):ByteArray:=⟨(l.map Nat.toUInt8).toArray⟩
def Ks (P:aa):List ResultVar->Env->ac->(List ab->Prop)->Prop
 |[],_,_,K=>K []
 | .tmp t::rs,ρ,w,K=>Ks P rs ρ w λvs=>K (ρ t::vs)
 | .cell a t::rs,ρ,w,K=>
   match ρ a with
   | .pointer p=>Iq p λad=>Ee P t λv=>nC P t ad w v/\Ks P rs ρ w λvs=>K (v::vs)
   |_=>False
def G8:List ab->ab
 |[v]=>v
 |vs=> .tuple vs.toArray
def RG (P:aa) (fn:Func) (R:Ending->ac->Prop):Exit->Env->ac->Prop
 | .normal,ρ,w=>Ks P fn.results.toList ρ w λvs=>R (.returned (G8 vs)) w
 | .ret,ρ,w=>Ks P fn.results.toList ρ w λvs=>R (.returned (G8 vs)) w
 |_,_,_=>False
def hJ (args:List ab):Env:=λi=>args.getD i ao
def G3 (tmps:Array ab):ResultVar->Sem ab
 | .tmp t=>pure (tmps.getD t ao)
 | .cell a t=>(asAddr (tmps.getD a ao)).bind λad=>loadVar t ad
def Wt {P:aa} {tmps:Array ab} {w:ac}:∀{rs:List ResultVar} {K:List ab->Prop},Ks P rs (λi=>tmps.getD i ao) w K->
 ∃vs,(rs.mapM (G3 tmps)).run P w= .ok vs w/\K vs
 |[],K,h=>⟨[],rfl,h⟩
 | .tmp t::rs,K,h=>by
   obtain⟨vs,h1,h3⟩:=Wt (rs:=rs) h;refine⟨_::vs,?_,h3⟩;simp only[dc,G3,bind,pure,run_bind,be,bc]at h1 ⊢;rw[h1]
 | .cell a t::rs,K,h=>by
   simp only[Ks]at h;split at h
   ·rename_i p hp;obtain⟨ad,rfl,h⟩:=rI h;obtain⟨v,hv,h⟩:=vA h;obtain⟨vs,h1,h3⟩:=Wt (rs:=rs) h;refine⟨v::vs,?_,h3⟩;simp only[dc,G3,bind,pure,run_bind,be,bc,hp,asAddr]at h1 ⊢;rw[hv];simp only[h1]
   ·exact h.elim
def zLk {P:aa} {tmps:Array ab} {w:ac} {vs:List ab} {rs:List ResultVar} (h:(rs.mapM (G3 tmps)).run P w= .ok vs w) (F:ResultVar->Sem ab) (hF:∀r,F r=G3 tmps r):
 ((rs.mapM F).bind λvs=>bg (if h:vs.toArray.size=1 then vs.toArray[0]else .tuple vs.toArray)).run P w= .ok (G8 vs) w:=by
 obtain rfl:F=G3 tmps:=funext hF;rw[run_bind,h];simp only[bc];cases vs with
 |nil=>rfl
 |cons v vs=>
  cases vs with
  |nil=>rfl
  |cons u us=>simp[G8]
def zMc {P:aa} {fn:Func} {tmps:Array ab} {w:ac} {K:ab->Prop} (h:Ks P fn.results.toList (λi=>tmps.getD i ao) w λvs=>K (G8 vs)):
 ∃v,(results fn tmps).run P w= .ok v w/\K v:=by
 obtain⟨vs,h1,h3⟩:=Wt h;refine⟨G8 vs,?_,h3⟩;unfold results;rw[Array.mapM_eq_mapM_toList,map_eq_pure_bind,bind_assoc];exact zLk h1 _ (λr=>by cases r<;>rfl)
def uh {P:aa} {f:av} {fn:Func} {c:Code} {args:List ab} {w:ac} {R:Ending->ac->Prop} (hm:P.follows .mixedOrders=bo)
 (hf:P.funcs[f]? =ay fn) (hb:fn.body=ay c) (an:List Ou) (oK:wm fn.ntmps c=bo) (KO:okF an c=bo) (aaz:cx args.length fn.ntmps=bo)
 (h:Ef P an c (RG P fn R) (hJ args) w):Calls P f args.toArray w R:=by
 have oT:=BA aaz;refine calls_of_wp hf hb ?_;have hg:Good fn.ntmps (λ_=>bo) (hJ args) {tmps:=args.toArray++dd (fn.ntmps-args.toArray.size) ao,defers:=[]}:=
  ⟨by simp;omega,rfl,λs hs=>by cases hs⟩
 have Lj:yM {tmps:=args.toArray++dd (fn.ntmps-args.toArray.size) ao,defers:=[]}=hJ args:=by
  funext i;simp only[yM,hJ,BV,np,Array.getElem?_append];split
  ·simp
  ·rename_i gr;simp at gr;rw[tx gr,Ua];split<;>rfl
 refine aw (yEg hm c an _ (λ_=>bo) (hJ args) _ w oK KO (λ_ _=>rfl) hg (Lj▸h)) ?_;rintro e a' w' ⟨py,h'⟩;cases e<;>first|exact h'.elim|skip
 ·obtain⟨v,hv,hk⟩:=zMc (K:=λv=>R (.returned v) w') h';exact⟨py.defers,v,hv,hk⟩
 ·obtain⟨v,hv,hk⟩:=zMc (K:=λv=>R (.returned v) w') h';exact⟨py.defers,v,hv,hk⟩
def zLb {P:aa} {f:av} {fn:Func} {c:Code} {args:List ab} {w:ac} {R:Ending->ac->Prop} {V:Prop} (hm:P.follows .mixedOrders=bo)
 (hf:P.funcs[f]? =ay fn) (hb:fn.body=ay c) (an:List Ou) (oK:wm fn.ntmps c=bo) (KO:okF an c=bo) (oT:cx args.length fn.ntmps=bo)
 (e:V=Ef P an c (RG P fn R) (hJ args) w) (h:V):Calls P f args.toArray w R:=
 uh hm hf hb an oK KO oT (e▸h)
end Cv
namespace Cv
open Go Go.RowKit
@[reducible] def PH:=Nat->Option Obj
@[reducible] def HP:=PH->Prop
def pe:PH:=λ_=>az
def one (b:Nat) (o:Obj):PH:=λx=>if x=b then ay o else az
def Dj (g h:PH):Prop:=∀b,g b=az\/h b=az
def Sub (h:PH) (w:ac):Prop:=∀b o,h b=ay o->w.heap[b]?=ay o
def un (g h:PH):PH:=λb=>match g b with|some o=>ay o|none=>h b
def Dj.symm {g h:PH} (d:Dj g h):Dj h g:=λb=>(d b).symm
def Dj.pe (h:PH):Dj pe h:=λ_=> .inl rfl
def z8f {g g' h:PH} (d:Dj g h) (d':Dj g' h):Dj (un g g') h:=λb=>by
 rcases d b with e|e
 ·rcases d' b with e'|e'
  ·left;simp[un,e,e']
  ·exact .inr e'
 ·exact .inr e
def zOy {g g' h:PH} (d:Dj (un g g') h) (dg:Dj g g'):Dj g h/\Dj g' h:=by
 refine⟨λb=> ?_,λb=> ?_⟩
 ·rcases d b with e|e
  ·left;simp only[un]at e;cases hg:g b with
   |none=>rfl
   |some o=>rw[hg]at e;cases e
  ·exact .inr e
 ·rcases d b with e|e
  ·left;simp only[un]at e;cases hg:g b with
   |none=>rw[hg]at e;exact e
   |some o=>rw[hg]at e;cases e
  ·exact .inr e
def yNe {g h:PH} {w:ac} (a:Sub g w) (b:Sub h w):Sub (un g h) w:=λx o e=>by
 simp only[un]at e;cases hg:g x with
 |some o'=>rw[hg]at e;cases e;exact a x _ hg
 |none=>rw[hg]at e;exact b x o e
def yEr {g h:PH} {w:ac} (s:Sub (un g h) w) (d:Dj g h):Sub g w/\Sub h w:=by
 refine⟨λx o e=>s x o (by simp[un,e]),λx o e=>s x o ?_⟩;rcases d x with e'|e'
 ·simp[un,e',e]
 ·rw[e]at e';cases e'
def Sub.pe (w:ac):Sub Cv.pe w:=λ_ _ e=>by cases e
def Sub.lt {h:PH} {w:ac} (s:Sub h w) {b:Nat} (hb:h b≠az):b<w.heap.size:=by
 cases e:h b with
 |none=>exact absurd e hb
 |some o=>
  have:=s b o e;rcases uo b w.heap.size with h'|h'
  ·exact h'
  ·rw[Gx h']at this;cases this
structure Ko where
 os:Os
 tape:Nat->Question->Nat
 output:Array (Nat×ByteArray)
def ko (w:ac):Ko:=⟨w.os,w.tape,w.output⟩
def Kon (k:Ko) (w:ac):Prop:=w.os=k.os/\w.tape=k.tape/\w.output=k.output
inductive Hs (w:ac):List HP->List PH->Prop
 |nil:Hs w [] []
 |cons {A:HP} {h:PH} {L:List HP} {hs:List PH}:A h->Sub h w->(∀g∈hs,Dj h g)->Hs w L hs->Hs w (A::L) (h::hs)
def Hp (k:Ko) (w:ac) (L:List HP):Prop:=Kon k w/\∃hs,Hs w L hs
def Sat (w:ac) (A:HP):Prop:=∃h,A h/\Sub h w
def Hs.perm {w:ac} {L L':List HP} (p:L.Perm L'):∀{hs:List PH},Hs w L hs->∃iI,Hs w L' iI/\hs.Perm iI:=by
 induction p with
 |nil=>intro hs h;cases h;exact⟨[],.nil,.nil⟩
 |cons A _ ih=>
  intro hs h;cases h with
  |cons ha iS hd hr=>
   obtain⟨iI,h1,h2⟩:=ih hr;exact⟨_,.cons ha iS (λg hg=>hd g (h2.mem_iff.2 hg)) h1,.cons _ h2⟩
 |swap A B L=>
  intro hs h;cases h with
  |cons hb hbs BF hr=>
   cases hr with
   |cons ha has had hr=>
    refine⟨_,.cons ha has ?_ (.cons hb hbs (λg hg=>BF g (jw _ hg)) hr),.swap _ _ _⟩;intro g hg;rcases mf.1 hg with rfl|hg
    ·exact(BF _ ji).symm
    ·exact had g hg
 |trans _ _ Ur Uq=>
  intro hs h;obtain⟨tc,h1,p1⟩:=Ur h;obtain⟨ye,h2,p2⟩:=Uq h1;exact⟨ye,h2,p1.trans p2⟩
def Hp.perm {k:Ko} {w:ac} {L L':List HP} (H:Hp k w L) (p:L.Perm L'):Hp k w L':=
 ⟨H.1,let⟨_,h⟩:=H.2;let⟨iI,h',_⟩:=h.perm p;⟨iI,h'⟩⟩
def Hp.drop {k:Ko} {w:ac} {A:HP} {L:List HP} (H:Hp k w (A::L)):Hp k w L:=by
 obtain⟨hk,hs,hh⟩:=H;cases hh with
 |cons _ _ _ hr=>exact⟨hk,_,hr⟩
def Hp.sat {k:Ko} {w:ac} {A:HP} {L:List HP} (H:Hp k w (A::L)):Sat w A:=by
 obtain⟨hk,hs,hh⟩:=H;cases hh with
 |cons ha iS _ _=>exact⟨_,ha,iS⟩
def Hp.imp {k:Ko} {w:ac} {A B:HP} {L:List HP} (H:Hp k w (A::L)) (h:∀x,A x->B x):Hp k w (B::L):=by
 obtain⟨hk,hs,hh⟩:=H;cases hh with
 |cons ha iS hd hr=>exact⟨hk,_,.cons (h _ ha) iS hd hr⟩
def pt (b:Nat) (o:Obj):HP:=λh=>h=one b o
def hPu (p:Prop):HP:=λh=>p/\h=pe
def Pr (A B:HP):HP:=λh=>∃g g',A g/\B g'/\Dj g g'/\h=un g g'
def hS:List HP->HP
 |[]=>λh=>h=pe
 |[A]=>A
 |A::L=>Pr A (hS L)
def hP {k:Ko} {w:ac} {p:Prop} {L:List HP}:Hp k w (hPu p::L)↔p/\Hp k w L:=by
 constructor
 ·rintro⟨hk,hs,hh⟩;cases hh with
  |cons ha iS hd hr=>exact⟨ha.1,hk,_,hr⟩
 ·rintro⟨hp,hk,hs,hh⟩;exact⟨hk,_,.cons ⟨hp,rfl⟩ (Sub.pe w) (λg _=>Dj.pe g) hh⟩
def ug {k:Ko} {w:ac} {A B:HP} {L:List HP}:Hp k w (Pr A B::L)↔Hp k w (A::B::L):=by
 constructor
 ·rintro⟨hk,hs,hh⟩;cases hh with
  |cons ha iS hd hr=>
   obtain⟨g,g',h1,h2,h3,rfl⟩:=ha;obtain⟨s1,s2⟩:=yEr iS h3;refine⟨hk,_,.cons h1 s1 ?_ (.cons h2 s2 (λx hx=>(zOy (hd x hx) h3).2) hr)⟩;intro x hx;rcases mf.1 hx with rfl|hx
   ·exact h3
   ·exact(zOy (hd x hx) h3).1
 ·rintro⟨hk,hs,hh⟩;cases hh with
  |cons h1 s1 d1 hr=>
   cases hr with
   |cons h2 s2 d2 hr=>
    exact⟨hk,_,.cons ⟨_,_,h1,h2,d1 _ ji,rfl⟩ (yNe s1 s2) (λx hx=>z8f (d1 x (jw _ hx)) (d2 x hx)) hr⟩
def yLo {k:Ko} {w:ac} {L:List HP}:Hp k w (hS []::L)↔Hp k w L:=by
 have e:hS []=hPu True:=by funext h;simp[hS,hPu]
 rw[e,hP];exact⟨λh=>h.2,λh=>⟨trivial,h⟩⟩
def yGs {k:Ko} {w:ac} {A B:HP} {l L:List HP}:Hp k w (hS (A::B::l)::L)↔Hp k w (A::hS (B::l)::L):=ug
def Hp.swap {k:Ko} {w:ac} {A B:HP} {L:List HP} (H:Hp k w (A::B::L)):Hp k w (B::A::L):=H.perm (.swap _ _ _)
def Hp.cons {k:Ko} {w:ac} {A:HP} {L L':List HP} (H:Hp k w (A::L)) (p:L.Perm L'):Hp k w (A::L'):=H.perm (.cons _ p)
def qi {k:Ko} {w:ac}:∀{l L:List HP},Hp k w (hS l::L)↔Hp k w (l++L)
 |[],L=>yLo
 |[A],L=>Iff.rfl
 |A::B::l,L=>by
  rw[yGs];constructor
  ·intro h;have h1:=(qi (l:=B::l) (L:=A::L)).1 h.swap;refine h1.perm ?_;exact mg
  ·intro h;have h1:Hp k w ((B::l)++(A::L)):=h.perm (mg (l₁:=B::l)).symm;exact((qi (l:=B::l) (L:=A::L)).2 h1).swap
def Hs.move {w w':ac} (h:∀(x:PH),Sub x w->Sub x w'):∀{L:List HP} {hs:List PH},Hs w L hs->Hs w' L hs
 |_,_,.nil=> .nil
 |_,_,.cons ha iS hd hr=> .cons ha (h _ iS) hd (hr.move h)
def XU {w w':ac} (h:Below w.heap.size w w') {x:PH} (s:Sub x w):Sub x w':=λb o e=>by
 rw[h.block b (s.lt (by rw[e];simp))];exact s b o e
def zVm {k:Ko} {B:Nat} {w w':ac} (h:Below B w w') (hk:Kon k w):Kon k w':=⟨h.os.trans hk.1,h.tape.trans hk.2.1,h.output.trans hk.2.2⟩
def Hp.below {k:Ko} {w w':ac} {L:List HP} (H:Hp k w L) (h:Below w.heap.size w w'):Hp k w' L:=
 ⟨zVm h H.1,let⟨hs,hh⟩:=H.2;⟨hs,hh.move λ_ s=>XU h s⟩⟩
def Sat.below {w w':ac} {A:HP} (H:Sat w A) (h:Below w.heap.size w w'):Sat w' A:=let⟨x,a,s⟩:=H;⟨x,a,XU h s⟩
def Hp.drew {k:Ko} {w:ac} {L:List HP} (H:Hp k w L):Hp k w.drew L:=H.below ((Below.refl _ _).drew)
def Hp.new {k:Ko} {w:ac} {L:List HP} (H:Hp k w L) (o:Obj):Hp k (w.alloc o) (pt w.heap.size o::L):=by
 have hb:Below w.heap.size w (w.alloc o):=(Below.refl _ _).alloc (km _) o;obtain⟨hk,hs,hh⟩:=H;refine⟨zVm hb hk,_,.cons rfl ?_ ?_ (hh.move λ_ s=>XU hb s)⟩
 ·intro b o' e;simp only[one]at e;split at e
  ·rename_i Ae;subst Ae;cases e;exact heap_alloc_new w o
  ·cases e
 ·intro g hg;have iS:∀{L:List HP} {hs:List PH},Hs w L hs->∀g∈hs,Sub g w:=by
   intro L hs hh
   induction hh with
   |nil=>intro g hg;cases hg
   |cons _ hs _ _ ih=>
    intro g hg;rcases mf.1 hg with rfl|hg
    ·exact hs
    ·exact ih g hg
  intro b;by_cases Ae:b=w.heap.size
  ·right;cases hgb:g b with
   |none=>rfl
   |some o'=>
    have:=(iS hh g hg).lt (b:=b) (by rw[hgb];simp);omega
  ·left;simp[one,Ae]
def World.iR (w:ac) (b:Nat) (o:Obj):ac:={w with heap:=w.heap.setIfInBounds b o}
def Hp.get {k:Ko} {w:ac} {b:Nat} {o:Obj} {L:List HP} (H:Hp k w (pt b o::L)):w.heap[b]? =ay o:=by
 obtain⟨h,rfl,s⟩:=H.sat;exact s b o (by simp[one])
def Hp.yj {k:Ko} {w:ac} {b:Nat} {o:Obj} {L:List HP} (H:Hp k w (pt b o::L)) (o':Obj):Hp k (World.iR w b o') (pt b o'::L):=by
 have jv:=H.get;obtain⟨hk,hs,hh⟩:=H;cases hh with
 |cons ha iS hd hr=>
  cases ha;have gr:b<w.heap.size:=iS.lt (b:=b) (by simp[one]);rename_i hs;have s0:Sub (one b o') (World.iR w b o'):=by
   intro x o2 e;simp only[one]at e;split at e
   ·rename_i hx;subst hx;cases e;simp[World.iR,Ud gr]
   ·cases e
  have d0:∀g∈hs,Dj (one b o') g:=by
   intro g hg x;rcases hd g hg x with e|e
   ·left;simp only[one]at e ⊢;split at e<;>simp_all
   ·exact .inr e
  have key:∀{L:List HP} {hs:List PH},Hs w L hs->(∀g∈hs,Dj (one b o) g)->Hs (World.iR w b o') L hs:=by
   intro L hs hh
   induction hh with
   |nil=>intro _;exact .nil
   |cons ha iI oE _ ih=>
    intro GL;refine .cons ha ?_ oE (ih λg hg=>GL g (jw _ hg));intro x o2 e;have je:x≠b:=by
     intro hx;subst hx;rcases GL _ ji x with e'|e'
     ·simp[one]at e'
     ·rw[e]at e';cases e'
    simp only[World.iR];rw[Uc (Ne.symm je)];exact iI x o2 e
  exact⟨hk,_,.cons rfl s0 d0 (key hr hd)⟩
def base (w0:ac):HP:=λh=>h=λb=>w0.heap[b]?
def Hp.start (w:ac):Hp (Cv.ko w) w [base w]:=⟨⟨rfl,rfl,rfl⟩,_,.cons rfl (λ_ _ e=>e) (λg hg=>by cases hg) .nil⟩
end Cv
namespace Cv
open Go Go.RowKit
def uD (b o n:Nat):(⟨b,o,az⟩:am).add n=⟨b,o+n,az⟩:=by
 unfold Addr.add;split
 ·rename_i h;subst h;rfl
 ·rfl
def BO (P:aa) (t:ae):Bool:=
 match P.underlying t with
 |some (.struct _)=>bu
 |some (.array _ _)=>bu
 |some _=>bo
 |none=>bu
def DW (P:aa) (t:ae):Option Nat:=
 match P.underlying t with
 |some (.struct _)=>(P.info? t).map λ(x:TypeInfo)=>x.size
 |some (.array _ _)=>(P.info? t).map λ(x:TypeInfo)=>x.size
 |_=>az
def mW {P:aa} {t:ae} (h:BO P t=bo) (w:ac):(isAgg t).run P w= .ok bu w:=by
 unfold BO at h;cases hd:P.underlying t with
 |none=>rw[hd]at h;cases h
 |some d=>
  rw[hd]at h;unfold isAgg;simp only[bind,run_bind,run_underlying hd];cases d<;>first|rfl|(simp at h)
def cT {P:aa} {t:ae} {n:Nat} (h:DW P t=ay n) (w:ac):(isAgg t).run P w= .ok bo w/\(Go.sizeOf t).run P w= .ok n w:=by
 unfold DW at h;cases hd:P.underlying t with
 |none=>rw[hd]at h;cases h
 |some d=>
  rw[hd]at h;cases d<;>simp only[reduceCtorEq]at h
  all_goals
   cases hi:P.info? t with
   |none=>rw[hi]at h;cases h
   |some i=>
    rw[hi]at h;simp only[vw,cr]at h;subst h;refine⟨?_,run_sizeOf hi w⟩;unfold isAgg;simp only[bind,run_bind,run_underlying hd];rfl
def z1f {P:aa} {w:ac} {a:am} {v:ab} (h:w.cell? a=ay v):(load a).run P w= .ok v w:=by
 simp only[load,bc,h]
def SX {w:ac} {b o:Nat} {l:List ab} {T:ae} {fr:Nat×Nat} (hb:w.heap[b]? =ay (.cells l.toArray T fr)):w.cell? ⟨b,o,az⟩=l[o]? :=by
 simp[World.cell?,hb]
def vF {P:aa} {t:ae} {w:ac} {b o:Nat} {l:List ab} {T:ae} {fr:Nat×Nat} {v:ab} (hs:BO P t=bo)
 (hb:w.heap[b]? =ay (.cells l.toArray T fr)) (hc:l[o]? =ay v):nC P t ⟨b,o,az⟩ w v:=by
 unfold nC loadVar;simp only[bind,run_bind,mW hs,oD,if_false];exact z1f ((SX hb).trans hc)
def nQ {P:aa} {w:ac} {b o:Nat} {l:List ab} {T:ae} {fr:Nat×Nat} (hb:w.heap[b]? =ay (.cells l.toArray T fr)):
 ∀(n i:Nat) (acc:Array ab),o+i+n<=l.length->(loadCellsFrom ⟨b,o,az⟩ i n acc).run P w= .ok (acc++((l.drop (o+i)).take n).toArray) w
 |0,i,acc,_=>by simp[loadCellsFrom,pure,bc]
 |n+1,i,acc,h=>by
  have gr:o+i<l.length:=by omega
  have hc:w.cell? ⟨b,o+i,az⟩=ay l[o+i]:=by rw[SX hb];exact vd gr
  unfold loadCellsFrom;simp only[bind,run_bind,uD,z1f hc];rw[nQ hb n (i+1) _ (by omega)];congr 1;rw[Dq gr,vg];simp[Dm]
def gN {P:aa} {w:ac} {b o n:Nat} {l:List ab} {T:ae} {fr:Nat×Nat} (hb:w.heap[b]? =ay (.cells l.toArray T fr)) (h:o+n<=l.length):
 (loadCells ⟨b,o,az⟩ n).run P w= .ok ((l.drop o).take n).toArray w:=by
 unfold loadCells;rw[nQ hb n 0 #[] (by omega)];simp
def SW {P:aa} {t:ae} {w:ac} {b o n:Nat} {l vs:List ab} {T:ae} {fr:Nat×Nat} (hs:DW P t=ay n)
 (hb:w.heap[b]? =ay (.cells l.toArray T fr)) (hc:(l.drop o).take n=vs) (hl:vs.length=n):nC P t ⟨b,o,az⟩ w (.agg vs.toArray):=by
 unfold nC loadVar;have hlen:o+n<=l.length\/n=0:=by
  subst hc;simp only[oe,oV]at hl;omega
 simp only[bind,run_bind,(cT hs w).1,if_true,(cT hs w).2];rcases hlen with hlen|h0
 ·rw[gN hb hlen,hc];rfl
 ·subst h0;have:vs=[]:=xu hl;subst this;rfl
def _root_.Go.Value.nv:ab->Bool
 | .agg _=>bu
 | .tuple _=>bu
 |_=>bo
def jz (l:List ab) (o:Nat) (vs:List ab):List ab:=l.take o++vs++l.drop (o+vs.length)
def yCl (w:ac) (b:Nat) (x y:Obj):World.iR (World.iR w b x) b y=World.iR w b y:=by
 simp[World.iR,Array.setIfInBounds_setIfInBounds]
def z7c {P:aa} {w:ac} {b o:Nat} {l:List ab} {T:ae} {v:ab} (hb:w.heap[b]? =ay (.cells l.toArray T (0,0))) (ho:o<l.length) (hv:v.nv=bo):
 (store ⟨b,o,az⟩ v).run P w= .ok () (World.iR w b (.cells (l.set o v).toArray T (0,0))):=by
 have hc:w.cell? ⟨b,o,az⟩=ay l[o]:=by rw[SX hb];exact vd ho
 have hf:w.frozen? ⟨b,o,az⟩=bu:=by simp[World.frozen?,hb]
 have qd:w.setCell ⟨b,o,az⟩ v=World.iR w b (.cells (l.set o v).toArray T (0,0)):=by
  unfold World.setCell World.iR;congr 1;apply OA;intro i;rw[Array.getElem?_modify,OL];have gr:b<w.heap.size:=by
   rcases uo b w.heap.size with h|h
   ·exact h
   ·rw[Gx h]at hb;cases hb
  by_cases hi:b=i
  ·subst hi;have mr:w.heap[b]= .cells l.toArray T (0,0):=by rw[OJ gr]at hb;exact ct hb
   simp[gr,mr]
  ·simp[hi]
 unfold store;cases v<;>first|(cases hv;done)|(simp only[bc,hc,hf,oD,if_false,qd])
def RT {l:List ab} {p:Nat} {v:ab} {vs:List ab} (h:p<l.length):jz (l.set p v) (p+1) vs=jz l p (v::vs):=by
 have h1:(l.set p v).take (p+1)=l.take p++[v]:=by
  rw[MU,fc h];rw[List.take_append,oe];simp[Gu (Nat.le_of_lt h),List.take_take]
 have h2:(l.set p v).drop (p+1+vs.length)=l.drop (p+(v::vs).length):=by
  rw[List.drop_set_of_lt (by omega)];congr 1;simp only[iD];omega
 simp only[jz,h1,h2,jd,List.singleton_append]
def wP {P:aa} {b:Nat} {T:ae}:∀(vs:List ab) (i o:Nat) (l:List ab) (w:ac),w.heap[b]? =ay (.cells l.toArray T (0,0))->o+i+vs.length<=l.length->
 (∀v∈vs,v.nv=bo)->(storeCells ⟨b,o,az⟩ vs i).run P w= .ok () (World.iR w b (.cells (jz l (o+i) vs).toArray T (0,0)))
 |[],i,o,l,w,hb,h,_=>by
  have gr:b<w.heap.size:=by
   rcases uo b w.heap.size with h|h
   ·exact h
   ·rw[Gx h]at hb;cases hb
  have:World.iR w b (.cells (jz l (o+i) []).toArray T (0,0))=w:=by
   have e:jz l (o+i) []=l:=by simp[jz]
   rw[e];unfold World.iR;have:w.heap.setIfInBounds b (.cells l.toArray T (0,0))=w.heap:=by
    apply OA;intro j;rw[OL];split
    ·rename_i hj;subst hj;rw[hb]
    ·rfl
   rw[this]
  unfold storeCells;rw[this];rfl
 |v::vs,i,o,l,w,hb,h,hv=>by
  have gr:b<w.heap.size:=by
   rcases uo b w.heap.size with h|h
   ·exact h
   ·rw[Gx h]at hb;cases hb
  simp only[iD]at h;unfold storeCells;simp only[bind,run_bind,uD,z7c hb (show o+i<l.length by omega) (hv v ji)];have Ae:(World.iR w b (.cells (l.set (o+i) v).toArray T (0,0))).heap[b]? =ay (.cells (l.set (o+i) v).toArray T (0,0)):=by
   simp[World.iR,Ud gr]
  rw[wP vs (i+1) o (l.set (o+i) v) _ Ae (by rw[qp];omega) (λu hu=>hv u (jw _ hu)),yCl];rw[show o+(i+1)=o+i+1 by omega,RT (show o+i<l.length by omega)]
end Cv
namespace Cv
open Go Go.RowKit
def oa (e sz:Nat) (a:Option am) (n k:Nat) (xs:List ab):HP:=λh=>
 (a=az/\n=0/\k=0/\xs=[]/\h=pe)\/
 ∃b r,a=ay ⟨b,0,az⟩/\h=one b (.cells (xs++r).toArray e)/\xs.length=n*sz/\(xs++r).length=k*sz/\n<=k
def EE (sz:Nat) (a:Option am) (n k:Nat) (xs:List ab):HP:=λh=>
 (n=0/\xs=[]/\h=pe)\/
 ∃(b o:Nat) (l:List ab) (T:ae) (fr:Nat×Nat),a=ay ⟨b,o,az⟩/\h=one b (.cells l.toArray T fr)/\(l.drop o).take (n*sz)=xs/\xs.length=n*sz/\n<=k
def mQ {e sz:Nat} {a:Option am} {n k:Nat} {xs:List ab} {h:PH} (H:oa e sz a n k xs h):EE sz a n k xs h:=by
 rcases H with⟨rfl,rfl,rfl,rfl,rfl⟩|⟨b,r,rfl,rfl,h1,h2,h3⟩
 ·exact .inl ⟨rfl,rfl,rfl⟩
 ·right;exact⟨b,0,_,e,_,rfl,rfl,by rw[Dn,<- h1];simp,h1,h3⟩
def Hp.HL {k:Ko} {w:ac} {e sz:Nat} {a:Option am} {n c:Nat} {xs:List ab} {L:List HP} (H:Hp k w (oa e sz a n c xs::L)):Sat w (EE sz a n c xs):=by
 obtain⟨h,hh,s⟩:=H.sat;exact⟨h,mQ hh,s⟩
def Hp.ov {k:Ko} {w:ac} {e sz:Nat} {a:Option am} {n c:Nat} {xs:List ab} {L:List HP} (H:Hp k w (oa e sz a n c xs::L)):
 (a=az/\n=0/\c=0/\xs=[]/\Hp k w L)\/
 ∃b r,a=ay ⟨b,0,az⟩/\xs.length=n*sz/\(xs++r).length=c*sz/\n<=c/\Hp k w (pt b (.cells (xs++r).toArray e)::L):=by
 obtain⟨hk,hs,hh⟩:=H;cases hh with
 |cons ha iS hd hr=>
  rcases ha with⟨h1,h2,h3,h4,h5⟩|⟨b,r,h1,h2,h3,h4,h5⟩
  ·exact .inl ⟨h1,h2,h3,h4,hk,_,hr⟩
  ·subst h2;exact .inr ⟨b,r,h1,h3,h4,h5,hk,_,.cons rfl iS hd hr⟩
def Hp.Aj {k:Ko} {w:ac} {e sz b n c:Nat} {xs r:List ab} {L:List HP} (H:Hp k w (pt b (.cells (xs++r).toArray e)::L)) (h1:xs.length=n*sz) (h2:(xs++r).length=c*sz) (h3:n<=c):
 Hp k w (oa e sz (ay ⟨b,0,az⟩) n c xs::L):=H.imp λx hx=> .inr ⟨b,r,rfl,hx,h1,h2,h3⟩
def z9f (e sz:Nat):oa e sz az 0 0 [] pe:= .inl ⟨rfl,rfl,rfl,rfl,rfl⟩
def Hp.nil {k:Ko} {w:ac} {L:List HP} (e sz:Nat) (H:Hp k w L):Hp k w (oa e sz az 0 0 []::L):=
 ((@hP k w True L).2 ⟨trivial,H⟩).imp λx hx=>by rw[hx.2];exact z9f e sz
def Hp.lit {k:Ko} {w:ac} {b e sz n:Nat} {l:List ab} {L:List HP} (H:Hp k w (pt b (.cells l.toArray e)::L)) (hl:l.length=n*sz):Hp k w (oa e sz (ay ⟨b,0,az⟩) n n l::L):=
 H.imp λx hx=> .inr ⟨b,[],rfl,by rw[hx,oL],hl,by simpa using hl,km _⟩
def R9 {e sz:Nat} {a:Option am} {n k:Nat} {xs:List ab} {h:PH} (H:oa e sz a n k xs h):xs.length=n*sz/\n<=k:=by
 rcases H with⟨rfl,rfl,rfl,rfl,rfl⟩|⟨b,r,rfl,rfl,h1,h2,h3⟩
 ·simp
 ·exact⟨h1,h3⟩
def Hp.len {k:Ko} {w:ac} {e sz:Nat} {a:Option am} {n c:Nat} {xs:List ab} {L:List HP} (H:Hp k w (oa e sz a n c xs::L)):xs.length=n*sz/\n<=c:=by
 obtain⟨h,hh,s⟩:=H.sat;exact R9 hh
def yBa {w:ac} {sz:Nat} {a:Option am} {n k:Nat} {xs:List ab} (H:Sat w (EE sz a n k xs)):xs.length=n*sz:=by
 obtain⟨h,hh,s⟩:=H;rcases hh with⟨rfl,rfl,_⟩|⟨b,o,l,T,fr,rfl,rfl,h1,h2,_⟩
 ·simp
 ·exact h2
def Kd {w:ac} {sz:Nat} {a:Option am} {n k:Nat} {xs:List ab} (H:Sat w (EE sz a n k xs)) (hn:0<n):
 ∃(b o:Nat) (l:List ab) (T:ae) (fr:Nat×Nat),a=ay ⟨b,o,az⟩/\w.heap[b]? =ay (.cells l.toArray T fr)/\(l.drop o).take (n*sz)=xs:=by
 obtain⟨h,hh,s⟩:=H;rcases hh with⟨rfl,rfl,_⟩|⟨b,o,l,T,fr,rfl,rfl,h1,h2,_⟩
 ·omega
 ·exact⟨b,o,l,T,fr,rfl,s b _ (by simp[one]),h1⟩
def zSt (m:Nat) (hm:256<=m):∀(r c:Nat),c<=2*m->Builtin.growBy m r c<=2*m
 |0,c,h=>h
 |r+1,c,h=>by
  unfold Builtin.growBy;split
  ·exact h
  ·exact zSt m hm r _ (by omega)
def zQp {need cap:Nat} (h:cap<need):Builtin.nextslicecap need cap<=2*need:=by
 unfold Builtin.nextslicecap;split
 ·omega
 ·split
  ·omega
  ·exact zSt need (by omega) 4 cap (by omega)
def Src (sz:Nat) (w:ac) (x:ab) (m:Nat) (ys:List ab):Prop:=
 (∃a k,x=.slice a m k/\Sat w (EE sz a m k ys))\/(∃s:ByteArray,x=.string s/\sz=1/\m=s.size/\ys=s.data.toList.map λb=> .int .u8 b.toNat)
def NQ {P:aa} {sz:Nat} {w:ac} {x:ab} {m:Nat} {ys:List ab} (h:Src sz w x m ys):
 (Builtin.lenOf x).run P w= .ok m w/\(bz sz m x).run P w= .ok ys.toArray w/\ys.length=m*sz:=by
 rcases h with⟨a,k,rfl,H⟩|⟨s,rfl,rfl,rfl,rfl⟩
 ·refine⟨rfl,?_,yBa H⟩;have hl:=yBa H;obtain⟨h,hh,s⟩:=H;rcases hh with⟨rfl,rfl,_⟩|⟨b,o,l,T,fr,rfl,rfl,h1,h2,_⟩
  ·cases a with
   |none=>rfl
   |some a=>simp[bz,loadCells,loadCellsFrom,pure,bc]
  ·have hb:=s b _ (show one b _ b=_ by simp[one];rfl);unfold bz;by_cases h0:m*sz=0
   ·rw[h0]at h1 hl ⊢;have:ys=[]:=xu hl;subst this;rfl
   ·have:o+m*sz<=l.length:=by
     rw[<- h1,oe,oV]at h2;omega
    rw[gN hb this,h1]
 ·refine⟨rfl,?_,by simp⟩;simp only[bz];have:s.extract 0 s.size=s:=by simp
  rw[this];simp only[pure,bc];congr 1;apply de;simp
def Kg (P:aa) (t:ae):Bool:=
 match P.underlying t with
 |some (.slice _)=>bo
 |some .string=>bo
 |_=>bu
def VL {P:aa} {t:ae} (h:Kg P t=bo):(∃e,P.underlying t=ay (.slice e))\/P.underlying t=ay .string:=by
 unfold Kg at h;cases hd:P.underlying t with
 |none=>rw[hd]at h;cases h
 |some d=>
  rw[hd]at h;cases d<;>first|exact .inl ⟨_,rfl⟩|exact .inr rfl|(cases h)
def Hp.append {P:aa} {k:Ko} {w:ac} {L:List HP} {t1 t2 rt e sz ou:Nat} {z:Array ab} (hi:vT P t1=ay (e,sz,ou,z)) (h2:Kg P t2=bo) {a:Option am} {n c:Nat} {xs:List ab}
 (H:Hp k w (oa e sz a n c xs::L)) {x:ab} {m:Nat} {ys:List ab} (hx:Src sz w x m ys) (hv:∀v∈ys,v.nv=bo) (hz:z.size=sz) (Ea:0<ou) (hb:(n+m)*ou<=140737488355328):
 ∃a' c' w',gH P (ce #[t1,t2] rt #[.slice a n c,x]) w (.slice a' (n+m) c') w'/\Hp k w' (oa e sz a' (n+m) c' (xs++ys)::L):=by
 obtain⟨i,zv,q1,q2,rfl,rfl,q5,rfl⟩:=kJ hi;obtain⟨r1,r2,Bd⟩:=NQ (P:=P) hx;obtain⟨JH,hnc⟩:=H.len;have hnm:n+m<=140737488355328:=xw (Nat.le_mul_of_pos_right _ Ea) hb;have Am:(n+m)*i.size=n*i.size+m*i.size:=zc _ _ _;by_cases si:n+m<=c
 ·--zG the capacity
  rcases H.ov with⟨rfl,rfl,rfl,rfl,H0⟩|⟨b,r,rfl,h3,h4,h5,H0⟩
  ·have hm:m=0:=by omega
   subst hm;have GB:ys=[]:=xu (by simpa using Bd);subst GB;refine⟨az,0,w,?_,by simpa using H⟩;unfold gH ce;rcases VL h2 with⟨e2,hd⟩|hd<;>
   simp only[AF,Cx,AS,bind,pure,run_bind,be,bc,run_underlying q1,run_sizeOf q2,run_underlying hd,oD,if_false,r1,r2,Ey,km,if_true,IK]
  ·have Fb:n*i.size+ys.length<=(xs++r).length:=by
    rw[h4,Bd,<- Am];exact wj _ si
   have ku:=wP (P:=P) ys 0 (n*i.size) (xs++r) w H0.get (by omega) hv;simp only[Ey]at ku;have Ca:jz (xs++r) (n*i.size) ys=(xs++ys)++r.drop ys.length:=by
    simp only[jz];rw[<- h3,MH,KB];simp
   rw[Ca]at ku;refine⟨ay ⟨b,0,az⟩,c,_,?_,(H0.yj _).Aj (r:=r.drop ys.length) (by rw[im,h3,Bd,Am]) ?_ si⟩
   ·unfold gH ce;rcases VL h2 with⟨e2,hd⟩|hd<;>
    simp only[AF,Cx,AS,bind,pure,run_bind,be,bc,run_underlying q1,run_sizeOf q2,run_underlying hd,oD,if_false,r1,r2,si,if_true,uD,nw,ku,IK]
   ·rw[<- h4];simp only[im,oV]at Fb ⊢;omega
 ·have B0:¬(((n+m:Nat):Int)>df.max/\(False\/i.bytes=0)):=by
   rintro⟨_,h|h⟩
   ·exact h
   ·omega
  have BE:¬(Builtin.nextslicecap (n+m) c*i.bytes>2 ^ 48):=by
   have:=zQp (need:=n+m) (cap:=c) (by omega);have:=wj i.bytes this;have e:2*(n+m)*i.bytes=2*((n+m)*i.bytes):=by rw[Nat.mul_assoc]
   omega
  have hold:(bz i.size n (.slice a n c)).run P w= .ok xs.toArray w:=(NQ (P:=P) (.inl ⟨a,c,rfl,H.HL⟩)).2.1;have D6:∀w,(zeroValue e).run P w= .ok zv w:=λw=>lq (by unfold zero?;rw[q2];exact q5) w
  have Hq:∀w,(typeInfo e).run P w= .ok i w:=λw=>zGx q2 w
  generalize HU:(Question.appendCap (n+m) c e).cut (w.tape w.drawn (.appendCap (n+m) c e))=nc;have KN:n+m<=nc:=by
   rw[<- HU];simp only[Question.cut];omega
  have r2':(bz i.size m x).run P w.drew= .ok ys.toArray w.drew:=by
   have I1:Src i.size w.drew x m ys:=by
    rcases hx with⟨a,kk,rfl,H⟩|h
    ·exact .inl ⟨a,kk,rfl,H.below ((Below.refl _ _).drew)⟩
    ·exact .inr h
   exact(NQ (P:=P) I1).2.1
  have Q5:(bz i.size n (.slice a n c)).run P w.drew= .ok xs.toArray w.drew:=(NQ (P:=P) (.inl ⟨a,c,rfl,H.HL.below ((Below.refl _ _).drew)⟩)).2.1;have hch:(choose (.appendCap (n+m) c e)).run P w= .ok nc w.drew:=by
   simp only[choose,bc,Question.forced,oD,if_false,HU];rfl
  have HR:=(H.drop.drew).new (.cells (xs++(ys++(cd zv.cells (nc-(n+m))).toList)).toArray e);have hlen:(ys++(cd zv.cells (nc-(n+m))).toList).length=m*i.size+(nc-(n+m))*i.size:=by
   rw[im,Bd,IV,size_zeroCells,hz]
  have E7:xs.toArray++ys.toArray++cd zv.cells (nc-(n+m))=(xs++(ys++(cd zv.cells (nc-(n+m))).toList)).toArray:=by
   apply de;simp
  refine⟨ay ⟨w.drew.heap.size,0,az⟩,nc,w.drew.alloc (.cells (xs++(ys++(cd zv.cells (nc-(n+m))).toList)).toArray e),?_,?_⟩
  ·unfold gH ce;rcases VL h2 with⟨e2,hd⟩|hd<;>
   simp only[AF,Cx,AS,bind,pure,run_bind,be,bc,run_underlying q1,run_sizeOf q2,run_underlying hd,oD,if_false,r1,si,Hq,B0,BE,hch,zLf,Q5,r2',D6,IK,if_true,E7,newRow,newObj]
   all_goals rfl
  ·have:=Hp.Aj (c:=nc) (n:=n+m) (sz:=i.size) (xs:=xs++ys) (r:=(cd zv.cells (nc-(n+m))).toList) (by rw[jd];exact HR) (by rw[im,JH,Bd,Am]) ?_ KN
   ·exact this
   ·rw[jd,im,hlen,JH,<- zc,<- zc];congr 1;omega
end Cv
namespace Sx
@[reducible] def di.{u} {α:Sort u} (x:α):Prop:=x=x
open Go Go.RowKit Cv
inductive D where
 |v (x:ab)
 |ro (sz:Nat) (eg:List (List D))
inductive V where
 |top
 |d (x:D)
 |nm (n off:Nat)
 |el (n sz i f:Nat)
 |re (sz:Nat) (eg:List (List D)) (i f:Nat)
 |na (n off i:Nat)
 |own (n:Nat)
 |mp (n:Nat)
 |sub (n i:Nat)
 |agg (l:List V)
 |iW (l:List V)
 |fn (f:Nat) (first cap:List V)
 |zh (t:Nat) (x:V)
inductive ff:Type 1 where
 |gone
 |Al
 |cells (vs:List V) (t:ae)
 |own (t sz:Nat) (eg:List (List D))
 |ja (sz:Nat) (eg:List (List D))
 |Gy (t:ae) (eg:List (List D))
 |vec (ds:List D) (t:ae)
 |map (es:List (ab×List D))
 |B8 (es:List (ab×List D)) (kv:ab) (b:Int)
 |iter (s:ByteArray) (pos:Nat)
 |qq (T:Type) (m:Nat) (ix:T->Nat->ff) (x:T)
 |jt (t:Nat) (T:Type) (m:Nat) (ix:T->Nat->ff) (l:List T) (hole:Option Nat)
 |vi (q:Bool) (t sz:Nat) (eg:List (List D)) (i f:Nat) (b:Bool) (m:Option Nat)
@[reducible] def Hd:=ab×List ab
structure Ev where
 F:PH
 fv:List Hd
def wv (F G:PH):Prop:=∀b o,F b=ay o->G b=ay o
def Ev.le (E E':Ev):Prop:=wv E.F E'.F/\E.fv<+:E'.fv
def wv.refl (F:PH):wv F F:=λ_ _ h=>h
def wv.trans {F G H:PH} (a:wv F G) (b:wv G H):wv F H:=λx o h=>b x o (a x o h)
def Ev.le.refl (E:Ev):E.le E:=⟨wv.refl _,IN _⟩
def Ev.le.trans {E E' E2:Ev} (a:E.le E') (b:E'.le E2):E.le E2:=⟨a.1.trans b.1,a.2.trans b.2⟩
def Sn {α:Type} {l l':List α} (h:l<+:l') {n:Nat} {x:α} (e:l[n]? =ay x):l'[n]? =ay x:=by
 obtain⟨t,rfl⟩:=h;rw[EC]
 ·exact e
 ·exact(jl.1 e).1
def Ev.le.get {E E':Ev} (a:E.le E') {n:Nat} {x:Hd} (e:E.fv[n]? =ay x):E'.fv[n]? =ay x:=Sn a.2 e
mutual
def DR (F:PH):D->ab->Prop
 | .v x,y=>y=x/\x.nv=bo
 | .ro sz eg,y=>∃a c,y= .slice a eg.length c/\eg.length<=c/\(∀el∈eg,el.length=sz)/\
    (eg=[]\/∃(b o:Nat) (l:List ab) (T:ae) (fr:Nat×Nat),a=ay ⟨b,o,az⟩/\F b=ay (.cells l.toArray T fr)/\A1 F eg (l.drop o))
def iz (F:PH):List D->List ab->Prop
 |[],l=>l=[]
 |d::ds,l=>∃x xs,l=x::xs/\DR F d x/\iz F ds xs
def A1 (F:PH):List (List D)->List ab->Prop
 |[],_=>True
 |el::eg,l=>∃l1 l2,l=l1++l2/\iz F el l1/\A1 F eg l2
end
mutual
theorem DR.mono {F G:PH} (h:wv F G):∀{d:D} {y:ab},DR F d y->DR G d y
 | .v x,y,e=>by simpa only[DR]using e
 | .ro sz eg,y,e=>by
   simp only[DR]at e ⊢;obtain⟨a,c,h1,h2,h3,h4⟩:=e;refine⟨a,c,h1,h2,h3,?_⟩;rcases h4 with h4|⟨b,o,l,T,fr,q1,q2,q3⟩
   ·exact .inl h4
   ·exact .inr ⟨b,o,l,T,fr,q1,h _ _ q2,A1.mono h q3⟩
theorem iz.mono {F G:PH} (h:wv F G):∀{ds:List D} {l:List ab},iz F ds l->iz G ds l
 |[],l,e=>by simpa only[iz]using e
 |d::ds,l,e=>by
  simp only[iz]at e ⊢;obtain⟨x,xs,h1,h2,h3⟩:=e;exact⟨x,xs,h1,DR.mono h h2,iz.mono h h3⟩
theorem A1.mono {F G:PH} (h:wv F G):∀{eg:List (List D)} {l:List ab},A1 F eg l->A1 G eg l
 |[],l,e=>by simp only[A1]
 |el::eg,l,e=>by
  simp only[A1]at e ⊢;obtain⟨x,xs,h1,h2,h3⟩:=e;exact⟨x,xs,h1,iz.mono h h2,A1.mono h h3⟩
end
mutual
def VR (E:Ev):V->ab->Prop
 | .top,_=>True
 | .d d,y=>DR E.F d y
 | .nm n o,y=>∃(b oo:Nat) (l:List ab),E.fv[n]? =ay (.pointer (ay ⟨b,oo,az⟩),l)/\y= .pointer (ay ⟨b,oo+o,az⟩)
 | .el n sz i f,y=>∃(b oo m c:Nat) (l:List ab),E.fv[n]? =ay (.slice (ay ⟨b,oo,az⟩) m c,l)/\y= .pointer (ay ⟨b,oo+i*sz+f,az⟩)
 | .re sz eg i f,y=>i<eg.length/\(∀el∈eg,el.length=sz)/\∃(b o:Nat) (l:List ab) (T:ae) (fr:Nat×Nat),y= .pointer (ay ⟨b,o+i*sz+f,az⟩)/\E.F b=ay (.cells l.toArray T fr)/\A1 E.F eg (l.drop o)
 | .na n o i,y=>∃(b oo:Nat) (l:List ab),E.fv[n]? =ay (.pointer (ay ⟨b,oo,az⟩),l)/\y= .pointer (ay ⟨b,oo+(o+i),az⟩)
 | .own n,y=>∃l,E.fv[n]? =ay (y,l)/\∃a m c,y= .slice a m c
 | .mp n,y=>∃b l,E.fv[n]? =ay (y,l)/\y= .map (ay b)
 | .sub n i,y=>∃hd l b oo,E.fv[n]? =ay (hd,l)/\l[i]? =ay y/\y= .pointer (ay ⟨b,oo,az⟩)
 | .agg l,y=>∃ys,y= .agg ys.toArray/\gp E l ys
 | .iW l,y=>∃ys,y= .tuple ys.toArray/\gp E l ys
 | .fn f a b,y=>∃as bs,y= .func (.func f) as.toArray bs.toArray/\gp E a as/\gp E b bs
 | .zh t x,y=>∃z,y= .iface t z/\VR E x z
def gp (E:Ev):List V->List ab->Prop
 |[],l=>l=[]
 |v::vs,l=>∃x xs,l=x::xs/\VR E v x/\gp E vs xs
end
mutual
theorem VR.mono {E E':Ev} (h:E.le E'):∀{v:V} {y:ab},VR E v y->VR E' v y
 | .top,y,e=>by simp only[VR]
 | .d d,y,e=>by simp only[VR]at e ⊢;exact e.mono h.1
 | .nm n o,y,e=>by
   simp only[VR]at e ⊢;obtain⟨b,oo,l,h1,h2⟩:=e;exact⟨b,oo,l,h.get h1,h2⟩
 | .el n sz i f,y,e=>by
   simp only[VR]at e ⊢;obtain⟨b,oo,m,c,l,h1,h2⟩:=e;exact⟨b,oo,m,c,l,h.get h1,h2⟩
 | .re sz eg i f,y,e=>by
   simp only[VR]at e ⊢;obtain⟨h0,h1,b,o,l,T,fr,h2,h3,h4⟩:=e;exact⟨h0,h1,b,o,l,T,fr,h2,h.1 _ _ h3,h4.mono h.1⟩
 | .na n o i,y,e=>by
   simp only[VR]at e ⊢;obtain⟨b,oo,l,h1,h2⟩:=e;exact⟨b,oo,l,h.get h1,h2⟩
 | .own n,y,e=>by
   simp only[VR]at e ⊢;obtain⟨l,h1,h2⟩:=e;exact⟨l,h.get h1,h2⟩
 | .mp n,y,e=>by
   simp only[VR]at e ⊢;obtain⟨b,l,h1,h2⟩:=e;exact⟨b,l,h.get h1,h2⟩
 | .sub n i,y,e=>by
   simp only[VR]at e ⊢;obtain⟨hd,l,b,oo,h1,h2⟩:=e;exact⟨hd,l,b,oo,h.get h1,h2⟩
 | .agg l,y,e=>by
   simp only[VR]at e ⊢;obtain⟨ys,h1,h2⟩:=e;exact⟨ys,h1,gp.mono h h2⟩
 | .iW l,y,e=>by
   simp only[VR]at e ⊢;obtain⟨ys,h1,h2⟩:=e;exact⟨ys,h1,gp.mono h h2⟩
 | .fn f a b,y,e=>by
   simp only[VR]at e ⊢;obtain⟨as,bs,h1,h2,h3⟩:=e;exact⟨as,bs,h1,gp.mono h h2,gp.mono h h3⟩
 | .zh t x,y,e=>by
   simp only[VR]at e ⊢;obtain⟨z,h1,h2⟩:=e;exact⟨z,h1,VR.mono h h2⟩
theorem gp.mono {E E':Ev} (h:E.le E'):∀{vs:List V} {l:List ab},gp E vs l->gp E' vs l
 |[],l,e=>by simpa only[gp]using e
 |v::vs,l,e=>by
  simp only[gp]at e ⊢;obtain⟨x,xs,h1,h2,h3⟩:=e;exact⟨x,xs,h1,VR.mono h h2,gp.mono h h3⟩
end
def pV:List ab->ab
 |[y]=>y
 |ys=> .agg ys.toArray
def MR (F:PH):List (ab×List D)->List aq->Prop
 |[],l=>l=[]
 |(k,ds)::es,l=>∃(m:aq) (ms:List aq),l=m::ms/\m.key=k/\(∃ys,iz F ds ys/\m.val=pV ys)/\MR F es ms
def MR.mono {F G:PH} (h:wv F G):∀{es:List (ab×List D)} {l:List aq},MR F es l->MR G es l
 |[],l,e=>e
 |(k,ds)::es,l,e=>by
  obtain⟨m,ms,h1,h2,⟨ys,h3,h4⟩,h5⟩:=e;exact⟨m,ms,h1,h2,⟨ys,h3.mono h,h4⟩,h5.mono h⟩
def vS (l:List aq) (ck:Nat):Prop:=(l.map (·.born)).Nodup/\∀e∈l,e.born<ck
def IG (kd:TypeDesc) (x:ab):Prop:=(∃ik k n,kd=.int ik/\x=.int k n)\/(∃s,kd=.string/\x=.string s)
def Sm (l:List aq) (x:ab) (b:Int):Prop:=∃kd,IG kd x/\∃q m,Instr.findNow kd x l 0=ay (ay (q,m.val))/\l[q]?=ay m/\(m.born:Int)=b
def yz (fv:List Hd) (p:Nat) (b:Bool) (ys xs:List ab):Option Nat->Prop
 |some m=>∃y l,fv[m]? =ay (y,l)/\(∃a n c,y= .slice a n c)/\xs=bif b then ys.set p y else ys
 |none=>∃y,(∃a n c,y= .slice a n c)/\xs=bif b then ys.set p y else ys
def fi (F:PH):ff->List Hd->Hd->HP
 | .gone,_,_=>λh=>h=pe
 | .Al,_,hd=>λh=>h=pe/\hd.1= .slice az 0 0/\hd.2=[]
 | .cells vs t,fv,hd=>λh=>∃b l,hd.1= .pointer (ay ⟨b,0,az⟩)/\gp ⟨F,fv⟩ vs l/\h=one b (.cells l.toArray t)
 | .own t sz eg,fv,hd=>λh=>∃a k xs,hd.1= .slice a eg.length k/\iz F eg.flatten xs/\(∀el∈eg,el.length=sz)/\oa t sz a eg.length k xs h
 | .ja sz eg,fv,hd=>λh=>h=pe/\DR F (.ro sz eg) hd.1
 | .Gy t eg,fv,hd=>λh=>∃b k xs r,hd.1= .slice (ay ⟨b,0,az⟩) eg.length k/\iz F eg.flatten xs/\(∀el∈eg,el.length=1)/\eg.length<=k/\h=one b (.cells (xs++r).toArray t ((xs++r).length,(xs++r).length+1))
 | .vec ds t,fv,hd=>λh=>∃b l,hd.1= .pointer (ay ⟨b,0,az⟩)/\iz F ds l/\h=one b (.cells l.toArray t)
 | .map es,fv,hd=>λh=>∃b fq ck,hd.1= .map (ay b)/\MR F es fq/\vS fq ck/\h=one b (.map fq.toArray ck)
 | .B8 es kv x,fv,hd=>λh=>∃b fq ck,hd.1= .map (ay b)/\MR F es fq/\vS fq ck/\Sm fq kv x/\h=one b (.map fq.toArray ck)
 | .iter s pos,fv,hd=>λh=>∃b,hd.1= .pointer (ay ⟨b,0,az⟩)/\h=one b (.stringIter s pos)
 | .qq T m ix x,fv,hd=>λh=>∃jm,jm[0]? =ay hd/\jm.length=m/\hS ((da m).map λj=>λh=>∃oE,jm[j]? =ay oE/\fi F (ix x j) jm oE h) h
 | .jt t T m ix l hole,fv,hd=>λh=>∃a k,hd.1= .slice a l.length k/\hd.2.length=l.length/\(∀p∈hd.2,∃b oo,p= .pointer (ay ⟨b,oo,az⟩))/\
    hS [oa t 1 a l.length k hd.2,hS ((da l.length).map λi=>λh=>if hole=ay i then h=pe else ∃x p l0 jm,l[i]? =ay x/\hd.2[i]? =ay p/\jm[0]? =ay (p,l0)/\jm.length=m/\
     hS ((da m).map λj=>λh=>∃oE,jm[j]? =ay oE/\fi F (ix x j) jm oE h) h)] h
 | .vi q t sz eg i f b m,fv,hd=>λh=>∃a k ys xs,hd.1= .slice a eg.length k/\iz F eg.flatten ys/\(∀el∈eg,el.length=sz)/\yz fv (i*sz+f) b ys xs m/\oa t sz a eg.length k xs h
def Kf {α:Type} {f g:α->HP} (h:∀a x,f a x->g a x):∀{l:List α} {x:PH},hS (l.map f) x->hS (l.map g) x
 |[],x,e=>e
 |[a],x,e=>h a x e
 |a::b::l,x,e=>by
  obtain⟨g1,g2,h1,h2,h3,h4⟩:=e;exact⟨g1,g2,h a _ h1,Kf h (l:=b::l) h2,h3,h4⟩
def yz.mono {fv ox:List Hd} (h:∀(n:Nat) (hd:Hd),fv[n]? =ay hd->ox[n]? =ay hd) {p:Nat} {b:Bool} {ys xs:List ab}:∀{m:Option Nat},yz fv p b ys xs m->yz ox p b ys xs m
 |some m,⟨y,l,h1,h2⟩=>⟨y,l,h _ _ h1,h2⟩
 |none,e=>e
def fi.mono {F G:PH} (hF:wv F G) (o:ff):∀{fv ox:List Hd} (ht:fv<+:ox) {hd:Hd} {h:PH},fi F o fv hd h->fi G o ox hd h:=by
 induction o with
 |gone=>intro _ _ _ _ _ e;exact e
 |Al=>intro _ _ _ _ _ e;exact e
 |cells vs t=>
  intro fv ox ht hd h e;simp only[fi]at e ⊢;obtain⟨b,l,h1,h2,h3⟩:=e;exact⟨b,l,h1,h2.mono ⟨hF,ht⟩,h3⟩
 |own t sz eg=>
  intro fv ox ht hd h e;simp only[fi]at e ⊢;obtain⟨a,k,xs,h1,h2,h3⟩:=e;exact⟨a,k,xs,h1,h2.mono hF,h3⟩
 |ja sz eg=>
  intro fv ox ht hd h e;simp only[fi]at e ⊢;exact⟨e.1,e.2.mono hF⟩
 |Gy t eg=>
  intro fv ox ht hd h e;simp only[fi]at e ⊢;obtain⟨b,k,xs,r,h1,h2,h3⟩:=e;exact⟨b,k,xs,r,h1,h2.mono hF,h3⟩
 |vec ds t=>
  intro fv ox ht hd h e;simp only[fi]at e ⊢;obtain⟨b,l,h1,h2,h3⟩:=e;exact⟨b,l,h1,h2.mono hF,h3⟩
 |map es=>
  intro fv ox ht hd h e;simp only[fi]at e ⊢;obtain⟨b,l,ck,h1,h2,h3⟩:=e;exact⟨b,l,ck,h1,h2.mono hF,h3⟩
 |B8 es kv x=>
  intro fv ox ht hd h e;simp only[fi]at e ⊢;obtain⟨b,l,ck,h1,h2,h3⟩:=e;exact⟨b,l,ck,h1,h2.mono hF,h3⟩
 |iter s pos=>intro _ _ _ _ _ e;simpa only[fi]using e
 |qq T m ix x ih=>
  intro fv ox ht hd h e;simp only[fi]at e ⊢;obtain⟨jm,h1,h2,h3⟩:=e;refine⟨jm,h1,h2,Kf ?_ h3⟩;rintro j y ⟨oE,q1,q2⟩;exact⟨oE,q1,ih x j (IN _) q2⟩
 |jt t T m ix l hole ih=>
  intro fv ox ht hd h e;simp only[fi]at e ⊢;obtain⟨a,k,h1,h2,h3,h5⟩:=e;refine⟨a,k,h1,h2,h3,?_⟩;obtain⟨g1,g2,q1,q2,q3,q4⟩:=h5;refine⟨g1,g2,q1,Kf ?_ q2,q3,q4⟩;intro i y hy;split
  ·rename_i hi;rw[fc hi]at hy;exact hy
  ·rename_i hi;rw[ej hi]at hy;obtain⟨x,p,l0,jm,r1,r2,r3,r4,r5⟩:=hy;refine⟨x,p,l0,jm,r1,r2,r3,r4,Kf ?_ r5⟩;rintro j y ⟨oE,s1,s2⟩;exact⟨oE,s1,ih x j (IN _) s2⟩
 |vi q t sz eg i f b m=>
  intro fv ox ht hd h e;simp only[fi]at e ⊢;obtain⟨a,k,ys,xs,h1,h2,h3,h4,h5⟩:=e;exact⟨a,k,ys,xs,h1,h2.mono hF,h3,h4.mono λn hd e=>Sn ht e,h5⟩
structure St where
 rows:List (Nat×ff)
 nx:Nat
def eQ (n:Nat):List (Nat×ff)->Option ff
 |[]=>az
 |(m,o)::l=>bif cu m n then ay o else eQ n l
def vH (n:Nat):List (Nat×ff)->List (Nat×ff)
 |[]=>[]
 |(m,o)::l=>bif cu m n then l else(m,o)::vH n l
def eF (n:Nat) (x:ff):List (Nat×ff)->List (Nat×ff)
 |[]=>[]
 |(m,o)::l=>bif cu m n then(m,x)::l else(m,o)::eF n x l
def St.get (s:St) (n:Nat):Option ff:=eQ n s.rows
def St.set (s:St) (n:Nat) (o:ff):St:=⟨eF n o s.rows,s.nx⟩
def St.del (s:St) (n:Nat):St:=⟨vH n s.rows,s.nx⟩
def St.HV (s:St) (n:Nat):ff->St
 | .ja _ _=>s
 |_=>s.del n
def St.new (s:St) (o:ff):St:=⟨(s.nx,o)::s.rows,s.nx+1⟩
def vQ {n:Nat} {o:ff}:∀{l:List (Nat×ff)},eQ n l=ay o->l.Perm ((n,o)::vH n l)/\∀x,(eF n x l).Perm ((n,x)::vH n l)
 |[],h=>by cases h
 |(m,p)::l,h=>by
  simp only[eQ,vH,eF]at h ⊢;cases hb:cu m n
  ·rw[hb]at h;obtain⟨h1,h2⟩:=vQ (l:=l) h;exact⟨(h1.cons _).trans (.swap _ _ _),λx=>((h2 x).cons _).trans (.swap _ _ _)⟩
  ·rw[hb]at h;have:=iX hb;subst this;cases h;exact⟨.refl _,λx=> .refl _⟩
def gu (E:Ev) (r:Nat×ff):HP:=λh=>r.2= .gone/\h=pe\/∃hd,E.fv[r.1]? =ay hd/\fi E.F r.2 E.fv hd h
def gu.mono {E E':Ev} (h:E.le E') (r:Nat×ff) {x:PH} (e:gu E r x):gu E' r x:=by
 rcases e with e|⟨hd,h1,h2⟩
 ·exact .inl e
 ·exact .inr ⟨hd,h.get h1,h2.mono h.1 _ h.2⟩
def y7c:List (Nat×(Obj->Prop)):=[]
def DK (F:PH):Prop:=∀g∈y7c,∃o,F g.1=ay o/\g.2 o
def DK.mono {F G:PH} (h:wv F G) (e:DK F):DK G:=λg hg=>let⟨o,h1,h2⟩:=e g hg;⟨o,h _ _ h1,h2⟩
def fz (F:PH):HP:=λh=>h=F/\DK F
structure Rel (k:Ko) (L:List HP) (E:Ev) (s:St) (w:ac):Prop where
 nx:E.fv.length=s.nx
 hp:Hp k w (s.rows.map (gu E)++fz E.F::L)
end Sx
namespace Cv
open Go Go.RowKit
inductive Tr (α:Type) where
 |e
 |n (v:Option α) (l r:Tr α)
def Tr.get {α:Type}:List Bool->Tr α->Option α
 |_,.e=>az
 |[],.n v _ _=>v
 |b::p,.n _ l r=>bif b then Tr.get p l else Tr.get p r
def Tr.set {α:Type} (x:Option α):List Bool->Tr α->Tr α
 |[],.e=> .n x .e .e
 |[],.n _ l r=> .n x l r
 |b::p,.e=>bif b then .n az (Tr.set x p .e) .e else .n az .e (Tr.set x p .e)
 |b::p,.n v l r=>bif b then .n v (Tr.set x p l) r else .n v l (Tr.set x p r)
def y5n:Nat->Nat->List Bool
 |0,n=>List.replicate n bo
 |f+1,n=>bif cu n 0 then[]else cu (n % 2) 1::y5n f (n / 2)
def OO (n:Nat):List Bool:=y5n 40 n
inductive Cap where
 |k (c:Nat)
 |r (l o0:Nat)
inductive V where
 |int (k:ag) (n:Int)
 |bool (b:Bool)
 |str (l:List Nat)
 |ptr (a:Option (Nat×Nat))
 |sl (a:Option (Nat×Nat)) (n:Nat) (c:Cap)
 |map (r:Option Nat)
 |agg (l:List V)
 |iW (l:List V)
 |fn (f:Nat) (first cap:List V)
 |QM
inductive ff where
 |cells (xs:List V) (t:ae) (CB:Option Nat)
 |map (es:List (V×V×Nat)) (clock:Nat)
 |iter (s:List Nat) (pos:Nat)
structure St where
 h:Tr ff
 nx:Nat
def St.get (s:St) (b:Nat):Option ff:=Tr.get (OO b) s.h
def St.set (s:St) (b:Nat) (o:ff):St:=⟨Tr.set (ay o) (OO b) s.h,s.nx⟩
def St.del (s:St) (b:Nat):St:=⟨Tr.set az (OO b) s.h,s.nx⟩
def St.new (s:St) (o:ff):St:=⟨Tr.set (ay o) (OO s.nx) s.h,s.nx+1⟩
@[reducible] def HD:=Nat->Nat×Nat
def cvs (φ:HD) (b o n:Nat):Cap->am
 | .k _=>⟨(φ b).1,o,az⟩
 | .r l o0=>⟨(φ b).1,bif cu n 0 && cu (φ b).2 l then o0 else o,az⟩
def cvc (φ:HD) (b:Nat):Cap->Nat
 | .k c=>c
 | .r l _=>(φ b).2-l
mutual
def cv (φ:HD):V->ab
 | .int k n=> .int k n
 | .bool b=> .bool b
 | .str l=> .string (bs l)
 | .ptr az=> .pointer az
 | .ptr (ay (b,o))=> .pointer (ay ⟨(φ b).1,o,az⟩)
 | .sl az n c=> .slice az n (match c with| .k c=>c| .r _ _=>0)
 | .sl (ay (b,o)) n c=> .slice (ay (cvs φ b o n c)) n (cvc φ b c)
 | .map az=> .map az
 | .map (ay b)=> .map (ay (φ b).1)
 | .agg l=> .agg (GQ φ l).toArray
 | .iW l=> .tuple (GQ φ l).toArray
 | .fn f a b=> .func (.func f) (GQ φ a).toArray (GQ φ b).toArray
 | .QM=> .nilFunc
def GQ (φ:HD):List V->List ab
 |[]=>[]
 |v::l=>cv φ v::GQ φ l
end
def Oi {α:Type}:List (Option α)->Option (List α)
 |[]=>ay []
 |some a::l=>match Oi l with
  |some r=>ay (a::r)
  |none=>az
 |none::_=>az
def IB (ρ:Tr V):Option Nat->V->Tr V
 |none,_=>ρ
 |some d,v=>Tr.set (ay v) (OO d) ρ
def vy:ag->ag->Bool
 | .i8,.i8=>bo| .i16,.i16=>bo| .i32,.i32=>bo| .i64,.i64=>bo
 | .u8,.u8=>bo| .u16,.u16=>bo| .u32,.u32=>bo| .u64,.u64=>bo
 |_,_=>bu
def ieq:Int->Int->Bool
 | .ofNat a,.ofNat b=>cu a b
 | .negSucc a,.negSucc b=>cu a b
 |_,_=>bu
def aeq:Option (Nat×Nat)->Option (Nat×Nat)->Bool
 |none,az=>bo
 |some (a,b),ay (c,d)=>cu a c && cu b d
 |_,_=>bu
def Um:ag->Nat
 | .i8=>128| .i16=>32768| .i32=>2147483648| .i64=>9223372036854775808
 | .u8=>256| .u16=>65536| .u32=>4294967296| .u64=>18446744073709551616
def wr (k:ag):Int->Int
 | .ofNat n=>bif cw n (Um k)then .ofNat n else k.wrap (.ofNat n)
 |x=>k.wrap x
def Oo:ag->Nat
 | .i8=>256| .i16=>65536| .i32=>4294967296| .i64=>18446744073709551616
 | .u8=>256| .u16=>65536| .u32=>4294967296| .u64=>18446744073709551616
def y8t (k:ag):Int->Int->Int
 | .ofNat a,.ofNat b=>wr k (.ofNat (Nat.land (a % Oo k) (b % Oo k)))
 |a,b=>BN k a b
def fOr (k:ag):Int->Int->Int
 | .ofNat a,.ofNat b=>wr k (.ofNat (Nat.lor (a % Oo k) (b % Oo k)))
 |a,b=>GA k a b
def ZM (k:ag):Int->Int->Int
 | .ofNat a,.ofNat b=>wr k (.ofNat (a*2 ^ (Nat.min b k.bits)))
 |a,b=>Iz k a b
def RA (P:aa) (t:ae):Bool:=
 match P.underlying t with
 |some (.pointer _)=>bo
 |_=>bu
def G6 (P:aa) (t:ae):Bool:=
 match P.underlying t with
 |some (.slice _)=>bo
 |_=>bu
def Zl (P:aa) (t:ae):Bool:=
 match P.underlying t with
 |some (.map _ _)=>bo
 |_=>bu
def Ka (P:aa) (t:ae):Bool:=
 match P.underlying t with
 |some .string=>bo
 |_=>bu
def y8s (P:aa) (t:ae):Option ag:=
 match P.underlying t with
 |some (.int k)=>ay k
 |_=>az
def Wv (P:aa) (s:ae) (f:Nat):Option Nat:=
 match P.underlying s with
 |some (.struct fs)=>match fs[f]? with
  |some fd=>match P.info? fd.type with
   |some i=>bif cu i.size 0 then az else ay fd.offset
   |none=>az
  |none=>az
 |_=>az
def WX (P:aa) (s:ae) (f:Nat):Option (ae×Nat):=
 match P.underlying s with
 |some (.struct fs)=>match fs[f]? with
  |some fd=>ay (fd.type,fd.offset)
  |none=>az
 |_=>az
def RX (P:aa) (t:ae):Option (Nat×ae×Nat):=
 match P.underlying t with
 |some (.array n e)=>match P.info? e with
  |some i=>ay (n,e,i.size)
  |none=>az
 |_=>az
def apart (P:aa) (t:ae) (cs:List V) (off:Nat):Option V:=
 match DW P t with
 |some sz=>ay (.agg ((cs.drop off).take sz))
 |none=>bif BO P t then cs[off]? else az
def J6 (i:Int) (n:Nat):Option Nat:=
 match i with
 | .ofNat j=>bif cw j n then ay j else az
 |_=>az
def yIh (P:aa) (t:ae):Option (List (Option (Nat×Nat))):=
 match P.underlying t with
 |some (.struct fs)=>ay (fs.toList.map λfd=>match P.info? fd.type with
   |some i=>ay (fd.offset,i.size)
   |none=>az)
 |_=>az
def U6 (l:List (Option (Nat×Nat))) (i:Nat):Option (Nat×Nat):=
 match l[i]? with
 |some r=>r
 |none=>az
def Gf (P:aa) (t:ae):Option (ae×ae):=
 match P.underlying t with
 |some (.map k e)=>ay (k,e)
 |_=>az
def Ot (P:aa) (t:ae):Bool:=
 match P.underlying t with
 |some (.slice e)=>match P.underlying e with
  |some (.int .u8)=>bo
  |_=>bu
 |_=>bu
def nS (P:aa) (t:ae):Option Nat:=
 match P.info? t with
 |some i=>ay i.size
 |none=>az
end Cv
namespace Cv
open Go Go.RowKit
def cme (φ:HD) (e:V×V×Nat):aq:={key:=cv φ e.1,val:=cv φ e.2.1,born:=e.2.2}
def coT (φ:HD) (b:Nat):ff->Obj->Prop
 | .cells xs t az,O=>O= .cells (GQ φ xs).toArray t
 | .cells xs t (ay sz),O=>∃r,O= .cells (GQ φ xs++r).toArray t/\xs.length+r.length=(φ b).2*sz
 | .map es ck,O=>O= .map (es.map (cme φ)).toArray ck
 | .iter l pos,O=>O= .stringIter (bs l) pos
structure Rel (φ:HD) (s:St) (w:ac):Prop where
 obj:∀b o,s.get b=ay o->∃O,w.heap[(φ b).1]? =ay O/\coT φ b o O
 inj:∀b c,s.get b≠az->s.get c≠az->(φ b).1=(φ c).1->b=c
 lt:∀b,s.get b≠az->b<s.nx
def Gb (s:ByteArray):bs (s.data.toList.map UInt8.toNat)=s:=by
 unfold bs;rw[vu];have:(Nat.toUInt8∘UInt8.toNat)=id:=by
  funext x;simp[Nat.toUInt8]
 rw[this];simp
def VY {off:Nat}:∀(vs:List ab) (k:Nat) (l:List ab),off+k+vs.length<=l.length->
 List.foldl (λ(cs:Array ab) (p:ab×Nat)=>cs.setIfInBounds (off+p.2) p.1) l.toArray (vs.zipIdx k)=(jz l (off+k) vs).toArray
 |[],k,l,_=>by simp[jz]
 |v::vs,k,l,h=>by
  simp only[iD]at h;simp only[List.zipIdx_cons,EA,List.setIfInBounds_toArray];rw[VY vs (k+1) (l.set (off+k) v) (by rw[qp];omega),show off+(k+1)=off+k+1 by omega,RT (by omega)]
end Cv
namespace Cv
open Go Go.RowKit
def zUy {k k':ag} (h:vy k k'=bo):k=k':=by cases k<;>cases k'<;>first|rfl|cases h
def z5p {k:ag} {n:Nat} (h:n<Um k):k.wrap (.ofNat n)= .ofNat n:=by
 cases k<;>simp only[Um]at h<;>simp[IntKind.wrap,IntKind.bits,IntKind.signed]<;>omega
def TC (k:ag) (x:Int):wr k x=k.wrap x:=by
 cases x with
 |ofNat n=>
  simp only[wr];cases h:cw n (Um k)
  ·rfl
  ·exact(z5p (by simpa[xv]using h)).symm
 |negSucc n=>rfl
def yOr (k:ag):Oo k=2 ^ k.bits:=by cases k<;>rfl
def zMb (w a:Nat):cz w (Int.ofNat a)=BitVec.ofNat w a:=by
 apply BitVec.eq_of_toNat_eq;simp
def y0z (k:ag) (a b:Int):fOr k a b=GA k a b:=by
 unfold fOr;split
 ·rename_i a b;rw[TC,yOr];unfold GA;rw[zMb,zMb];simp only[BitVec.toNat_or,BitVec.toNat_ofNat];rfl
 ·rfl
def yPe (k:ag) (a b:Int):ZM k a b=Iz k a b:=by
 unfold ZM;split
 ·rename_i a b;rw[TC];unfold Iz;congr 1
 ·rfl
end Cv
namespace Cv
open Go Go.RowKit
def zZt {P:aa} {t:ae} (h:RA P t=bo):∃e,P.underlying t=ay (.pointer e):=by
 unfold RA at h;split at h
 ·exact⟨_,by assumption⟩
 ·cases h
def tQ {P:aa} {t:ae} (h:G6 P t=bo):∃e,P.underlying t=ay (.slice e):=by
 unfold G6 at h;split at h
 ·exact⟨_,by assumption⟩
 ·cases h
def z1c {P:aa} {t:ae} (h:Zl P t=bo):∃k e,P.underlying t=ay (.map k e):=by
 unfold Zl at h;split at h
 ·exact⟨_,_,by assumption⟩
 ·cases h
def nI {P:aa} {t:ae} (h:Ka P t=bo):P.underlying t=ay .string:=by
 unfold Ka at h;split at h
 ·assumption
 ·cases h
end Cv
namespace Cv
open Go Go.RowKit
def yU {α:Type} {b:Bool} {x:Option α} {v:α} (h:(bif b then x else az)=ay v):b=bo/\x=ay v:=by
 cases b
 ·cases h
 ·exact⟨rfl,h⟩
def zOr {i:Int} {n j:Nat} (h:J6 i n=ay j):i=(j:Int)/\j<n:=by
 unfold J6 at h;split at h
 ·rename_i m;obtain⟨hb,h⟩:=yU h;simp only[cr]at h;subst h;exact⟨rfl,by simpa[xv]using hb⟩
 ·cases h
def zSl {P:aa} {s f off:Nat} (h:Wv P s f=ay off):∃fs fd i,P.underlying s=ay (.struct fs)/\fs[f]? =ay fd/\P.info? fd.type=ay i/\i.size≠0/\fd.offset=off:=by
 unfold Wv at h;split at h<;>first|(cases h;done)|skip
 rename_i fs wx;split at h<;>first|(cases h;done)|skip
 rename_i fd Pj;split at h<;>first|(cases h;done)|skip
 rename_i i hi;cases hb:cu i.size 0
 ·rw[hb]at h;simp only[cond_false,cr]at h;exact⟨fs,fd,i,wx,Pj,hi,(λe=>by rw[e]at hb;cases hb),h⟩
 ·rw[hb]at h;cases h
def zOl {P:aa} {s f ft off:Nat} (h:WX P s f=ay (ft,off)):∃fs fd,P.underlying s=ay (.struct fs)/\fs[f]? =ay fd/\fd.type=ft/\fd.offset=off:=by
 unfold WX at h;split at h<;>first|(cases h;done)|skip
 rename_i fs wx;split at h<;>first|(cases h;done)|skip
 rename_i fd Pj;simp only[cr,dh]at h;exact⟨fs,fd,wx,Pj,h.1,h.2⟩
def zFz {P:aa} {t n e sz:Nat} (h:RX P t=ay (n,e,sz)):∃i,P.underlying t=ay (.array n e)/\P.info? e=ay i/\i.size=sz:=by
 unfold RX at h;split at h<;>first|(cases h;done)|skip
 rename_i n' e' ht;split at h<;>first|(cases h;done)|skip
 rename_i i hi;simp only[cr,dh]at h;obtain⟨rfl,rfl,rfl⟩:=h;exact⟨i,ht,hi,rfl⟩
def zUb {α:Type}:∀{l:List (Option α)} {L:List α},Oi l=ay L->l=L.map ay
 |[],L,h=>by simp only[Oi,cr]at h;subst h;rfl
 |none::l,L,h=>by cases h
 |some a::l,L,h=>by
  simp only[Oi]at h;split at h<;>first|(cases h;done)|skip
  rename_i r hr;simp only[cr]at h;subst h;rw[jo,<- zUb hr]
def zNu {P:aa} (w:ac):∀{fs:List Field} {L:List (Nat×Nat)},
 (fs.map λfd=>match P.info? fd.type with|some i=>ay (fd.offset,i.size)|none=>az)=L.map ay->
 ((fs.mapM λf=>(do pure (f.offset,<- Go.sizeOf f.type):Sem (Nat×Nat))):Sem (List (Nat×Nat))).run P w= .ok L w
 |[],L,h=>by
  cases L with
  |nil=>rfl
  |cons a l=>cases h
 |fd::fs,L,h=>by
  cases L with
  |nil=>cases h
  |cons a l=>
   simp only[jo,List.cons.injEq]at h;obtain⟨h1,h2⟩:=h;split at h1<;>first|(cases h1;done)|skip
   rename_i i hi;simp only[cr]at h1;subst h1;have ih:=zNu w h2;simp only[dc,bind,pure,run_bind,be,bc,run_sizeOf hi]at ih ⊢;rw[ih]
def jQ {ρ:Env} {o:aj} {c:Call} {b:Builtin} (ho:o.op= .call c) (hc:c.callee= .builtin b):
 af (ev ρ) o=builtin b c.argTypes o.type (c.args.map λ| .const _=>bo|_=>bu) (c.args.map (ev ρ)):=by
 have sx:af (ev ρ) o=(ar (ev ρ) c o.type).bind λd=>invoke d.target d.args:=by
  simp only[af,ho];rfl
 rw[sx];unfold ar;rw[hc];rfl
end Cv
