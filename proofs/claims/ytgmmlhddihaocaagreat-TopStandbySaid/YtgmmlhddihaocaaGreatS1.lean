/- Texts of ours. No condition. -/
import Derived.Deep.LoopGhost
import Derived.KernelRfl
import Derived.Lib.Strings
import Derived.Orders
import Derived.WalkKit
set_option linter.all false
open Go renaming Program->aa,Value->ab,World->ac,TypeId->ae,execOp->af,IntKind->ag,Oper->aj,eqGuard->ak,Addr->am,undef->ao,Operand->ap,MapEntry->aq,resolve->ar,callFunc->au,FuncId->av,wp_mono->aw,convert->ax
open Option renaming some->ay,none->az,map_eq_some_iff->ba
open Go.Sem renaming run->bc,bind->be,pure->bg
open Bool renaming true->bo,false->bu,or_eq_true->bv
open Go.Builtin renaming firstCells->bz,zeroCells->cd,append_->ce,len_->cf,copy_->cg
open Go.Region renaming ready->cm,binds->cn,wanted->co
open Go.Instr renaming sliceBounds->cp,lookup->cq,typeAssert->cr
open Option.some renaming injEq->ct,inj->cu
open Nat renaming beq->cw,blt->cx,ble->cy
open Int renaming toNat->cz
open BitVec renaming ofInt->da
open List renaming range->dc,mapM_cons->dd
open Array renaming replicate->de,ext'->df
open Go.IntKind renaming i64->dh
open Prod.mk renaming injEq->di
def iv:=@List.length_append
def fb:=@if_neg
def im:=@List.length_map
def fh:=@if_pos
def jv:=@List.getElem?_eq_some_iff
def iJ:=@List.length_cons
def jb:=@Nat.eq_of_beq_eq_true
def jm:=@List.mem_cons_self
def jh:=@List.append_assoc
def kg:=@List.mem_cons_of_mem
def nk:=@List.getD_eq_getElem?_getD
def lq:=@List.mem_of_getElem?
def jr:=@List.map_append
def oh:=@List.take_of_length_le
def ku:=@decide_eq_false
def lr:=@Bool.and_eq_true
def jx:=@List.map_cons
def lg:=@decide_eq_true
def mo:=@List.perm_middle
def om:=@List.length_take
def oF:=@Int.toNat_natCast
def oK:=@Bool.false_eq_true
def mn:=@List.mem_cons
def lk:=@Nat.le_refl
def oV:=@of_decide_eq_true
def oU:=@List.append_nil
def pd:=@List.length_drop
def oa:=@Nat.zero_add
def mz:=@Nat.zero_le
def xk:=@List.take_append_of_le_length
def vd:=@List.getElem?_eq_getElem
def yh:=@List.eq_nil_of_length_eq_zero
def pz:=@List.mem_append
def ue:=@List.getElem?_eq_none
def tc:=@List.mem_map_of_mem
def qv:=@List.length_set
def tb:=@List.take_add_one
def uv:=@List.map_congr_left
def pj:=@List.mem_map
def vo:=@List.take_succ_cons
def ud:=@decide_eq_true_eq
def wz:=@Nat.mul_le_mul_right
def vm:=@List.mem_singleton
def ra:=@List.sum_cons
def uc:=@List.cons_append
def vc:=@List.getElem?_map
def yg:=@List.mem_append_left
def ua:=@List.length_nil
def wg:=@List.flatMap_cons
def uu:=@List.mem_filter
def zn:=@List.mem_append_right
def B8:=@Array.getD_eq_getD_getElem?
def yq:=@List.flatMap_append
def A1:=@List.getElem?_cons_succ
def B7:=@List.getElem?_append_right
def AO:=@List.getElem?_toArray
def AN:=@List.length_singleton
def we:=@Option.map_some
def A0:=@List.perm_append_comm
def xj:=@List.nil_append
def ur:=@Nat.lt_or_ge
def BL:=@Nat.le_of_ble_eq_true
def BK:=@List.take_append_drop
def DC:=@List.drop_eq_getElem_cons
def Af:=@List.nodup_append
def CK:=@List.getElem?_cons_zero
def zm:=@Option.getD_some
def EN:=@List.drop_append_of_le_length
def B6:=@List.mem_iff_getElem?
def AM:=@List.flatten_cons
def AZ:=@List.getElem?_drop
def Ec:=@List.getElem?_append_left
def wb:=@List.map_map
def zk:=@List.nodup_cons
def AL:=@List.mem_flatMap
def xi:=@Nat.le_trans
def BJ:=@List.take_length
def Ae:=@Bool.true_and
def zj:=@Nat.succ_mul
def yp:=@Int.le_refl
def GI:=@Array.getElem?_eq_none
def yf:=@Nat.blt_eq
def zi:=@Nat.add_mul
def Eb:=@Option.toList_some
def B5:=@List.mem_range
def GH:=@List.length_replicate
def GG:=@List.length_filter_le
def DB:=@List.all_eq_true
def M8:=@List.set_eq_take_append_cons_drop
def Hz:=@List.drop_eq_nil_of_le
def M7:=@List.findIdx?_eq_some_iff_getElem
def CJ:=@List.drop_drop
def CI:=@Bool.false_and
def EM:=@Bool.not_eq_true'
def CH:=@Nat.add_assoc
def DA:=@List.drop_zero
def GF:=@List.getElem?_set
def CG:=@List.map_nil
def EL:=@List.foldl_cons
def Hy:=@List.filter_append
def Hx:=@List.pairwise_cons
def Jb:=@List.mem_of_mem_drop
def UQ:=@Array.getElem?_setIfInBounds_self_of_lt
def Hw:=@List.ext_getElem?
def Ja:=@Array.length_toList
def GD:=@Nat.min_eq_left
def I':=@List.getElem?_take
def I9:=@List.prefix_append
def Ea:=@List.set_set
def EK:=@List.map_take
def O7:=@Array.getElem?_setIfInBounds
def KV:=@Bool.or_eq_false_iff
def I8:=@List.size_toArray
def I7:=@List.foldl_append
def Hv:=@Bool.eq_iff_iff
def KU:=@List.replicate_succ
def KT:=@List.getElem?_range
def EJ:=@Nat.add_zero
def EI:=@Nat.add_comm
def EH:=@Int.mul_comm
def O0:=@List.perm_append_singleton
def I6:=@List.prefix_refl
def Hu:=@List.take_zero
def KS:=@of_decide_eq_false
def OZ:=@Array.getElem?_eq_getElem
def OY:=@List.findIdx?_eq_none_iff
def OX:=@List.getElem?_zip_eq_some
def UP:=@Array.getElem?_setIfInBounds_ne
def M6:=@List.mem_of_mem_take
def M5:=@List.getElem?_of_mem
def I5:=@List.range_succ
def KR:=@List.any_eq_false
def Ht:=@List.map_drop
def UO:=@Int.mul_le_mul_of_nonneg_left
def OW:=@List.filter_cons_of_pos
def OV:=@List.filter_cons_of_neg
def M4:=@List.flatten_append
def M3:=@List.length_flatMap
def I4:=@Bool.not_false
def KQ:=@List.drop_append
def I1:=@Bool.and_false
def KP:=@List.flatMap_nil
def KO:=@Nat.lt_succ_self
def M1:=@List.mem_filterMap
def KN:=@Option.map_none
def OU:=@List.modify_succ_cons
def OT:=@Array.toArray_toList
def KM:=@List.take_left
def I0:=@Nat.sub_self
def UN:=@Array.getElem?_replicate
def M0:=@List.not_mem_nil
def MZ:=@List.any_eq_true
def UM:=@Option.isSome_iff_exists
def UL:=@List.eq_of_mem_replicate
def OS:=@List.filter_eq_self
def OR:=@List.filter_sublist
def xFm:=@List.takeWhile_append_dropWhile
def KL:=@Bool.false_or
def OQ:=@Array.ext_getElem?
def OP:=@List.set_cons_zero
def OO:=@List.set_cons_succ
def MY:=@Int.emod_nonneg
def ON:=@Int.emod_lt_of_pos
def MX:=@List.find?_cons
def MW:=@List.sum_append
def UK:=@List.filter_eq_nil_iff
def MV:=@Int.mul_nonneg
namespace Cv
open Go
@[reducible] def Env:=Nat->ab
def put (ρ:Env):Option Nat->ab->Env
 |none,_=>ρ
 |some d,v=>λi=>bif cw i d then v else ρ i
def ev (ρ:Env):ap->ab
 | .tmp t=>ρ t
 | .const v=>v
 | .global g=> .pointer (ay ⟨g,0,az⟩)
 | .func f=> .func (.func f) #[] #[]
def uU {α:Type} (P:aa):Sem α->Option α
 | .pure a=>ay a
 | .program k=>uU P (k P)
 | .mark _ k=>uU P k
 |_=>az
def wX {α:Type} {P:aa}:∀{s:Sem α} {a:α},uU P s=ay a->∀w,s.run P w= .ok a w:=by
 intro s
 induction s with
 |pure a=>intro b h w;simp only[uU,ct]at h;subst h;rfl
 |program k ih=>intro b h w;simp only[uU]at h;exact ih _ h w
 |mark m k ih=>intro b h w;simp only[uU]at h;exact ih h w
 |_=>intro b h w;simp[uU]at h
def run_bind {α β:Type} (P:aa) (s:Sem α) (f:α->Sem β) (w:ac):(s.bind f).run P w=match s.run P w with| .ok a w'=>(f a).run P w'| .halt h w'=> .halt h w':=by
 induction s generalizing w with
 |pure a=>rfl
 |halt h=>rfl
 |load m a k ih=>simp only[be,bc];split<;>first|exact ih _ _|(split<;>first|exact ih _ _|rfl)
 |store m a v k ih=>
  cases v<;>simp only[be,bc]<;>first|rfl|(split<;>first|(split<;>first|exact ih _|rfl))
 |new o k ih=>exact ih _ _
 |shape r k ih=>exact ih _ _
 |freeze a n k ih=>exact ih _
 |frozen a k ih=>exact ih _ _
 |getObj r k ih=>simp only[be,bc];split<;>first|rfl|exact ih _ _
 |setObj r o k ih=>simp only[be,bc];split<;>first|rfl|exact ih _
 |choose q k ih=>simp only[be,bc];split<;>exact ih _ _
 |sys c k ih=>exact ih _ _
 |program k ih=>exact ih _ _
 |mark m k ih=>exact ih _
inductive Sh where
 |int (k:ag)|bool|str|ptr|sl|map|any
def yNc:ab->Sh
 | .int k _=> .int k
 | .bool _=> .bool
 | .string _=> .str
 | .pointer _=> .ptr
 | .slice _ _ _=> .sl
 | .map _=> .map
 |_=> .any
def CT:Sh->(ab->Prop)->Prop
 | .int k,K=>∃n:Int,K (.int k n)
 | .bool,K=>∃b:Bool,K (.bool b)
 | .str,K=>∃s:ByteArray,K (.string s)
 | .ptr,K=>∃a:Option am,K (.pointer a)
 | .sl,K=>∃(a:Option am) (n c:Nat),K (.slice a n c)
 | .map,K=>∃r:Option Nat,K (.map r)
 | .any,K=>∃v:ab,K v
def wE {s:Sh} {K:ab->Prop} (h:CT s K):∃v,K v:=by
 cases s<;>simp only[CT]at h<;>first|(obtain⟨n,h⟩:=h;exact⟨_,h⟩)|(obtain⟨a,n,c,h⟩:=h;exact⟨_,h⟩)
def exL:List ab->(List ab->Prop)->Prop
 |[],K=>K []
 |z::zs,K=>CT (yNc z) λv=>exL zs λvs=>K (v::vs)
def yAf:∀{zs:List ab} {K:List ab->Prop},exL zs K->∃vs,K vs
 |[],_,h=>⟨_,h⟩
 |_::_,_,h=>let⟨_,h1⟩:=wE h;let⟨_,h2⟩:=yAf h1;⟨_,h2⟩
structure Raw where
 i:Nat->Int
 b:Nat->Bool
 s:Nat->ByteArray
 p:Nat->Option am
 a:Nat->Option am
 n:Nat->Nat
 k:Nat->Nat
 m:Nat->Option Nat
 v:Nat->ab
def Raw.cell (r:Raw) (j:Nat):ab->ab
 | .int k _=> .int k (r.i j)
 | .bool _=> .bool (r.b j)
 | .string _=> .string (r.s j)
 | .pointer _=> .pointer (r.p j)
 | .slice _ _ _=> .slice (r.a j) (r.n j) (r.k j)
 | .map _=> .map (r.m j)
 |_=>r.v j
def y4c (r:Raw):List ab->Nat->List ab
 |[],_=>[]
 |z::zs,j=>r.cell j z::y4c r zs (j+1)
def y9g (z:ab) (r:Raw):ab:=
 match z with
 | .agg cs=> .agg (y4c r cs.toList 0).toArray
 |z=>z
def exV:ab->(ab->Prop)->Prop
 | .agg cs,K=>bif cy cs.size 9 then exL cs.toList λvs=>K (.agg vs.toArray)else ∃r:Raw,K (y9g (.agg cs) r)
 |z,K=>CT (yNc z) K
def vE {z:ab} {K:ab->Prop} (h:exV z K):∃v,K v:=by
 cases z<;>simp only[exV]at h<;>first
  |exact wE h
  |(revert h;cases cy _ 9<;>intro h
    ·obtain⟨r,h⟩:=h;exact⟨_,h⟩
    ·obtain⟨_,h⟩:=yAf h;exact⟨_,h⟩)
def yZx (P:aa) (t:ae):ab:=
 match P.info? t with
 |some i=>i.zero.getD ao
 |none=>ao
def Er (P:aa) (t:ae) (K:ab->Prop):Prop:=exV (yZx P t) K
def y1w (P:aa):List ae->(List ab->Prop)->Prop
 |[],K=>K []
 |t::ts,K=>Er P t λv=>y1w P ts λvs=>K (v::vs)
def z0m {P:aa}:∀{ts:List ae} {K:List ab->Prop},y1w P ts K->∃vs,K vs
 |[],_,h=>⟨_,h⟩
 |_::_,_,h=>let⟨_,h1⟩:=vE h;let⟨_,h2⟩:=z0m h1;⟨_,h2⟩
def PX (P:aa) (t:ae) (K:ab->Prop):Prop:=
 match P.underlying t with
 |some (.tuple ts)=>y1w P ts.toList λvs=>K (.tuple vs.toArray)
 |_=>Er P t K
def z9h {P:aa} {t:ae} {K:ab->Prop} (h:PX P t K):∃v,K v:=by
 unfold PX at h;split at h
 ·obtain⟨_,h⟩:=z0m h;exact⟨_,h⟩
 ·exact vE h
def gC (P:aa) (t:ae):Option Nat:=
 match P.underlying t with
 |some (.slice e)=>(P.info? e).map λ(x:TypeInfo)=>x.size
 |_=>az
def aD (P:aa) (t:ae):Option (Nat×Nat):=
 match P.underlying t with
 |some (.array n e)=>(P.info? e).map λ(x:TypeInfo)=>(n,x.size)
 |_=>az
def IQ (p:Option am) (K:am->Prop):Prop:=
 match p with
 |some a=>K a
 |none=>False
def yWg (p:Option am) (n:Nat) (i:Int) (K:am->Prop):Prop:=
 match p with
 |some a=>(0<=i/\i<n)/\K a
 |none=>False
def yYh (s:ByteArray) (i:Int) (K:UInt8->Prop):Prop:=∃b:UInt8,(0<=i/\s[i.toNat]?=ay b)/\K b
def tn (p:Option am) (n c:Nat) (lo hi:Option Int) (sz:Nat) (K:Option am->Nat->Nat->Prop):Prop:=
 match lo,hi with
 |none,az=>(n<=c)/\K p n c
 |some l,az=>(0<=l/\l<=n/\n<=c)/\K (if c=l.toNat then p else p.map (·.add (l.toNat*sz))) (n-l.toNat) (c-l.toNat)
 |none,ay h=>(0<=h/\h<=c)/\K p h.toNat c
 |some l,ay h=>(0<=l/\l<=h/\h<=c)/\K (if c=l.toNat then p else p.map (·.add (l.toNat*sz))) (h.toNat-l.toNat) (c-l.toNat)
def yZl (p:Option am) (c:Nat) (l h m:Int) (sz:Nat) (K:Option am->Nat->Nat->Prop):Prop:=
 (0<=l/\l<=h/\h<=m/\m<=c)/\K (if m.toNat=l.toNat then p else p.map (·.add (l.toNat*sz))) (h.toNat-l.toNat) (m.toNat-l.toNat)
def yUx (s:ByteArray) (lo hi:Option Int) (K:ByteArray->Prop):Prop:=
 match lo,hi with
 |none,az=>K s
 |some l,az=>(0<=l/\l<=s.size)/\K (s.extract l.toNat s.size)
 |none,ay h=>(0<=h/\h<=s.size)/\K (s.extract 0 h.toNat)
 |some l,ay h=>(0<=l/\l<=h/\h<=s.size)/\K (s.extract l.toNat h.toNat)
def CY (ρ:Env):Option ap->Option (Option Int)
 |none=>ay az
 |some x=>match ev ρ x with
  | .int _ n=>ay (ay n)
  |_=>az
def D8 (l h:Option (Option Int)) (K:Option Int->Option Int->Prop):Prop:=
 match l,h with
 |some l,ay h=>K l h
 |_,_=>False
def dQ (P:aa) (t:ae) (x:ab):Option Bool:=
 match P.underlying t,x with
 |some (.pointer _),.pointer p=>ay p.isNone
 |some (.slice _),.slice p _ _=>ay p.isNone
 |some (.map _ _),.map r=>ay r.isNone
 |_,_=>az
def y9j:ab->Bool
 | .pointer az=>bo
 | .slice az _ _=>bo
 | .map az=>bo
 |_=>bu
def Uu:ab->Bool
 | .pointer az=>bo
 |_=>bu
def IV:ab->Bool
 | .slice az _ _=>bo
 |_=>bu
def Us:ab->Bool
 | .map az=>bo
 |_=>bu
def Mg (P:aa) (s:Sem Next) (K:ab->Prop):Prop:=
 match uU P s with
 |some (.value v)=>K v
 |_=>False
def yUd (P:aa) (neg:Bool) (t:ae) (x y:ab) (K:Bool->Prop):Prop:=
 ∃b:Bool,uU P (Op.equal t x y)=ay b/\uU P (ak (if neg then .neq else .eql) t (.tmp 0) (.tmp 0) x y)=ay ()/\
  (match y with| .agg _=>bo|_=>bu)=bo/\K (if neg then !b else b)
def KA (o:Option Bool) (K:Bool->Prop):Prop:=
 match o with
 |some r=>K r
 |none=>False
def rH {o:Option Bool} {K:Bool->Prop} (h:KA o K):∃r,o=ay r/\K r:=by
 cases o with
 |none=>exact h.elim
 |some r=>exact⟨r,rfl,h⟩
def y2c (k k':ag) (b:Int) (A:Prop):Prop:=k=k'/\b≠0/\A
def shN (b:Int) (A:Prop):Prop:=0<=b/\A
def y8q (a b:ByteArray) (A:Prop):Prop:=(((a.size+b.size:Nat):Int)<=dh.max)/\A
def PY (k k':ag) (A:Prop):Prop:=
 match k,k' with
 | .i8,.i8=>A
 | .i16,.i16=>A
 | .i32,.i32=>A
 | .i64,.i64=>A
 | .u8,.u8=>A
 | .u16,.u16=>A
 | .u32,.u32=>A
 | .u64,.u64=>A
 |_,_=>False
def SS {k k':ag} {A:Prop} (h:PY k k' A):k=k'/\A:=by
 cases k<;>cases k'<;>first|exact⟨rfl,h⟩|exact h.elim
def IG (k:ag) (a b:Int):Int:=k.wrap (a*2 ^ (min b.toNat k.bits))
def c9 (k:ag) (a b:Int):Int:=a.fdiv (2 ^ (min b.toNat k.bits))
def B0 (k:ag) (a b:Int):Int:=k.wrap ((da k.bits a &&& da k.bits b).toNat:Int)
def GL (k:ag) (a b:Int):Int:=k.wrap ((da k.bits a|||BitVec.ofInt k.bits b).toNat:Int)
def B2 (k:ag) (a b:Int):Int:=k.wrap ((da k.bits a ^^^ da k.bits b).toNat:Int)
def N7 (k:ag) (a b:Int):Int:=k.wrap ((da k.bits a &&& ~~~ da k.bits b).toNat:Int)
def cR (P:aa) (o:aj) (ρ:Env) (K:ab->Prop):Prop:=
 match o.op with
 | .move x=>K (ev ρ x)
 | .assign x=>K (ev ρ x)
 | .pick c a b=>
   match ev ρ c with
   | .bool t=>K (bif t then ev ρ a else ev ρ b)
   |_=>False
 | .nilCheck x=>
   match ev ρ x with
   | .pointer p=>IQ p λa=>K (.pointer (ay a))
   |_=>Mg P (af (ev ρ) o) K
 | .indexAddr t x i=>
   match ev ρ x,ev ρ i with
   | .slice p n _,.int _ i=>match gC P t with
     |some sz=>yWg p n i λa=>K (.pointer (ay (a.add (i.toNat*sz))))
     |none=>False
   | .pointer p,.int _ i=>match aD P t with
     |some (len,sz)=>yWg p len i λa=>K (.pointer (ay (a.add (i.toNat*sz))))
     |none=>False
   |_,_=>False
 | .index t x i=>
   match ev ρ x,ev ρ i with
   | .string s,.int _ i=>match P.underlying t with
     |some .string=>yYh s i λb=>K (.int .u8 b.toNat)
     |_=>False
   |x,j=>match i with
    | .const _=>Mg P (af (ev ρ) o) K
    |_=>Er P o.type λv=>uU P (Instr.index t x j)=ay v/\K v
 | .panic _=>False
 | .typeAssert x xT asserted ok=>
   match ok with
   |true=>Er P asserted λv=>CT .bool λb=>uU P (cr (ev ρ x) xT asserted bo)=ay (.tuple #[v,b])/\K (.tuple #[v,b])
   |false=>Er P asserted λv=>uU P (cr (ev ρ x) xT asserted bu)=ay v/\K v
 | .slice t x lo hi mx=>
   match ev ρ x,mx with
   | .slice p _ c,ay m=>match gC P t,CY ρ lo,CY ρ hi,ev ρ m with
     |some sz,ay (ay l),ay (ay h),.int _ m=>yZl p c l h m sz λp n c=>K (.slice p n c)
     |_,_,_,_=>False
   | .slice p n c,az=>match gC P t with
     |some sz=>D8 (CY ρ lo) (CY ρ hi) λl h=>tn p n c l h sz λp n c=>K (.slice p n c)
     |none=>False
   | .string s,az=>match P.underlying t with
     |some .string=>D8 (CY ρ lo) (CY ρ hi) λl h=>yUx s l h λs=>K (.string s)
     |_=>False
   | .pointer p,az=>match aD P t with
     |some (n,sz)=>IQ p λa=>D8 (CY ρ lo) (CY ρ hi) λl h=>tn (ay a) n n l h sz λp n c=>K (.slice p n c)
     |none=>False
   |_,_=>False
 | .binOp op t x y _=>
   match op,ev ρ x,ev ρ y with
   | .quo,.int k a,.int k' b=>y2c k k' b (K (.int k (k.wrap (a.tdiv b))))
   | .rem,.int k a,.int k' b=>y2c k k' b (K (.int k (a.tmod b)))
   | .shl,.int k a,.int _ b=>shN b (K (.int k (IG k a b)))
   | .shr,.int k a,.int _ b=>shN b (K (.int k (c9 k a b)))
   | .and,.int k a,.int k' b=>PY k k' (K (.int k (B0 k a b)))
   | .or,.int k a,.int k' b=>PY k k' (K (.int k (GL k a b)))
   | .xor,.int k a,.int k' b=>PY k k' (K (.int k (B2 k a b)))
   | .andNot,.int k a,.int k' b=>PY k k' (K (.int k (N7 k a b)))
   | .add,.string a,.string b=>y8q a b (K (.string (a++b)))
   | .eql,.pointer p,b=>bif Uu b then(KA (dQ P t (.pointer p)) λr=>K (.bool r))else False
   | .neq,.pointer p,b=>bif Uu b then(KA (dQ P t (.pointer p)) λr=>K (.bool !r))else False
   | .eql,.slice p n c,b=>bif IV b then(KA (dQ P t (.slice p n c)) λr=>K (.bool r))else False
   | .neq,.slice p n c,b=>bif IV b then(KA (dQ P t (.slice p n c)) λr=>K (.bool !r))else False
   | .eql,.map r,b=>bif Us b then(KA (dQ P t (.map r)) λr=>K (.bool r))else False
   | .neq,.map r,b=>bif Us b then(KA (dQ P t (.map r)) λr=>K (.bool !r))else False
   | .eql,.agg a,b=>yUd P bu t (.agg a) b λr=>K (.bool r)
   | .neq,.agg a,b=>yUd P bo t (.agg a) b λr=>K (.bool r)
   |_,_,_=>Mg P (af (ev ρ) o) K
 |_=>Mg P (af (ev ρ) o) K
def EA (P:aa) (s:Sem Next) (v:ab):Prop:=∀w,s.run P w=.ok (.value v) w
def cX {P:aa} {s:Sem Next} {K:ab->Prop} (h:Mg P s K):∃v,K v/\EA P s v:=by
 unfold Mg at h;split at h
 ·rename_i v hv;exact⟨v,h,wX hv⟩
 ·exact h.elim
def Addr.add_zero (a:am):a.add 0=a:=by simp[Addr.add]
def eA (p:Option am):p.map (·.add 0)=p:=by cases p<;>simp[Addr.add_zero]
def yC {P:aa} {s:Sem ab} {v:ab} (h:∀w,s.run P w= .ok v w):EA P (do pure (Next.value (<- s))) v:=by
 intro w;show(s.bind λa=> .pure (Next.value a)).run P w=_;rw[run_bind,h w];rfl
def Zr {P:aa} {t:ae} {sz:Nat} (h:gC P t=ay sz):∃e i,P.underlying t=ay (.slice e)/\P.info? e=ay i/\i.size=sz:=by
 unfold gC at h;split at h
 ·rename_i e he;cases hi:P.info? e with
  |none=>simp[hi]at h
  |some i=>simp[hi]at h;exact⟨e,i,he,hi,h⟩
 ·cases h
def zGf {P:aa} {t:ae} {n sz:Nat} (h:aD P t=ay (n,sz)):∃e i,P.underlying t=ay (.array n e)/\P.info? e=ay i/\i.size=sz:=by
 unfold aD at h;split at h
 ·rename_i m e he;cases hi:P.info? e with
  |none=>simp[hi]at h
  |some i=>simp[hi]at h;obtain⟨rfl,h⟩:=h;exact⟨e,i,he,hi,h⟩
 ·cases h
def run_underlying {P:aa} {t:ae} {d:TypeDesc} (h:P.underlying t=ay d) (w:ac):(underlying t).run P w= .ok d w:=by
 show ((Sem.program Sem.pure).bind λp => match p.underlying t with | some d => Sem.pure d | none => stuck "no such type").run P w = _;simp only[be,bc,h]
def run_sizeOf {P:aa} {t:ae} {i:TypeInfo} (h:P.info? t=ay i) (w:ac):(Go.sizeOf t).run P w= .ok i.size w:=by
 have HG:(typeInfo t).run P w= .ok i w:=by
  unfold typeInfo;show((Sem.program bg).bind _).run P w=_;simp only[be,bc,h];rfl
 show((typeInfo t).bind λi=>bg i.size).run P w=_;rw[run_bind,HG];rfl
def jW {P:aa} {t:ae} {sz n c:Nat} {a:am} {k:ag} {i:Int} (h:gC P t=ay sz) (hi:0<=i/\i<n) (w:ac):
 (Instr.indexAt t (.slice (ay a) n c) (.int k i)).run P w= .ok (.pointer (ay (a.add (i.toNat*sz)))) w:=by
 obtain⟨e,ti,h1,h2,rfl⟩:=Zr h;simp only[Instr.indexAt,asIntOf,bind,pure,run_bind,be,bc,run_underlying h1,fh hi,run_sizeOf h2]
def dN {P:aa} {t:ae} {sz n:Nat} {a:am} {k:ag} {i:Int} (h:aD P t=ay (n,sz)) (hi:0<=i/\i<n) (w:ac):
 (Instr.indexAt t (.pointer (ay a)) (.int k i)).run P w= .ok (.pointer (ay (a.add (i.toNat*sz)))) w:=by
 obtain⟨e,ti,h1,h2,rfl⟩:=zGf h;simp only[Instr.indexAt,asIntOf,Instr.sureAddr,bind,pure,run_bind,be,bc,run_underlying h1,fh hi,run_sizeOf h2]
def jA {P:aa} {k:ag} {i:Int} {y:Nat} {code:BoundsCode} (h:0<=i/\i<=y) (w:ac):(Instr.sliceBound (.int k i) y code).run P w= .ok i.toNat w:=by
 simp only[Instr.sliceBound,asIntOf,bind,pure,be,bc,fh h]
def Tg {ρ:Env} {x:Option ap} {r:Option Int} (h:CY ρ x=ay r):(x=az/\r=az)\/∃y k n,x=ay y/\ev ρ y= .int k n/\r=ay n:=by
 unfold CY at h;split at h
 ·left;exact⟨rfl,by simpa using h.symm⟩
 ·rename_i y;right;split at h
  ·rename_i k n hv;exact⟨y,k,n,rfl,hv,by simpa using h.symm⟩
  ·cases h
def sA {l h:Option (Option Int)} {K:Option Int->Option Int->Prop} (hh:D8 l h K):∃a b,l=ay a/\h=ay b/\K a b:=by
 unfold D8 at hh;split at hh
 ·rename_i a b;exact⟨a,b,rfl,rfl,hh⟩
 ·exact hh.elim
def Y7 {P:aa} {ρ:Env} {lo hi:Option ap} {l h:Option Int} (isSlice:Bool) {len cap:Nat} (h1:CY ρ lo=ay l) (h2:CY ρ hi=ay h)
 (hlen:h=az->len<=cap) (hh:∀x,h=ay x->0<=x/\x<=cap) (hl:∀x,l=ay x->0<=x/\x<=((h.map cz).getD len:Nat)) (w:ac):
 (cp isSlice len cap (lo.map (ev ρ)) (hi.map (ev ρ)) az).run P w= .ok ((l.map cz).getD 0,(h.map cz).getD len,cap) w:=by
 rcases Tg h1 with⟨rfl,rfl⟩|⟨x,k,n,rfl,hx,rfl⟩<;>rcases Tg h2 with⟨rfl,rfl⟩|⟨y,k',m,rfl,hy,rfl⟩
 ·simp only[cp,KN,bind,pure,be,bc,run_bind,Option.getD_none]
 ·have:=hh m rfl;simp only[cp,KN,we,hy,bind,pure,be,bc,run_bind,Option.getD_none,jA this,zm]
 ·have h3:=hl n rfl;simp only[KN,Option.getD_none]at h3;simp only[cp,KN,we,hx,bind,pure,be,bc,run_bind,Option.getD_none,jA h3,zm]
 ·have h3:=hl n rfl;have h4:=hh m rfl;simp only[we,zm]at h3;simp only[cp,we,hx,hy,bind,pure,be,bc,run_bind,jA h3,jA h4,zm]
def z9a {p:Option am} {n c:Nat} {l h:Option Int} {sz:Nat} {K:Option am->Nat->Nat->Prop} (hk:tn p n c l h sz K):
 (h=az->n<=c)/\(∀x,h=ay x->0<=x/\x<=c)/\(∀x,l=ay x->0<=x/\x<=((h.map cz).getD n:Nat))/\
 K (if c=(l.map cz).getD 0 then p else p.map (·.add ((l.map cz).getD 0*sz))) ((h.map cz).getD n-(l.map cz).getD 0) (c-(l.map cz).getD 0):=by
 unfold tn at hk;split at hk
 ·refine⟨λ_=>hk.1,by simp,by simp,?_⟩;simpa[eA]using hk.2
 ·refine⟨λ_=>hk.1.2.2,by simp,?_,by simpa using hk.2⟩;intro x hx;cases hx;simp;omega
 ·refine⟨by simp,?_,by simp,by simpa[eA]using hk.2⟩;intro x hx;cases hx;omega
 ·refine⟨by simp,?_,?_,by simpa using hk.2⟩
  ·intro x hx;cases hx;omega
  ·intro x hx;cases hx;simp;omega
def z4e {P:aa} {ρ:Env} {t:ae} {x:ap} {lo hi:Option ap} {o:aj} {K:ab->Prop} (ho:o.op= .slice t x lo hi az)
 (h:cR P o ρ K):∃v,K v/\EA P (af (ev ρ) o) v:=by
 simp only[cR,ho]at h;split at h
 ·rename_i heq;cases heq
 ·rename_i p n c hx _;split at h
  ·rename_i sz oZ;obtain⟨l,u,h1,h2,h3⟩:=sA h;obtain⟨q1,q2,q3,q4⟩:=z9a h3;obtain⟨e,ti,e1,e2,rfl⟩:=Zr oZ;refine⟨_,q4,?_⟩;simp only[af,ho];refine yC λw=> ?_
   simp only[Instr.sliceAt,Instr.slice,hx,bind,pure,be,bc,run_bind,run_underlying e1,KN,Y7 bo h1 h2 q1 q2 q3,run_sizeOf e2]
  ·exact h.elim
 ·rename_i s hx _;split at h
  ·rename_i ht;obtain⟨l,u,h1,h2,h3⟩:=sA h;have q:(∀x,u=ay x->0<=x/\x<=s.size)/\(∀x,l=ay x->0<=x/\x<=((u.map cz).getD s.size:Nat))/\K (.string (s.extract ((l.map cz).getD 0) ((u.map cz).getD s.size))):=by
    unfold yUx at h3;split at h3
    ·refine⟨by simp,by simp,?_⟩;have:s.extract 0 s.size=s:=by simp
     simpa[this]using h3
    ·refine⟨by simp,?_,by simpa using h3.2⟩;intro x hx;cases hx;simp;omega
    ·refine⟨?_,by simp,by simpa using h3.2⟩;intro x hx;cases hx;omega
    ·refine⟨?_,?_,by simpa using h3.2⟩
     ·intro x hx;cases hx;omega
     ·intro x hx;cases hx;simp;omega
   obtain⟨q2,q3,q4⟩:=q;refine⟨_,q4,?_⟩;simp only[af,ho];refine yC λw=> ?_
   simp only[Instr.sliceAt,Instr.slice,hx,bind,pure,be,bc,run_bind,run_underlying ht,KN,Option.isSome_none,oK,if_false,Y7 bu h1 h2 (λ_=>lk _) q2 q3]
  ·exact h.elim
 ·rename_i p hx _;split at h
  ·rename_i n sz oZ;unfold IQ at h;split at h
   ·rename_i a;obtain⟨l,u,h1,h2,h3⟩:=sA h;obtain⟨q1,q2,q3,q4⟩:=z9a h3;obtain⟨e,ti,e1,e2,rfl⟩:=zGf oZ;refine⟨_,q4,?_⟩;simp only[af,ho];refine yC λw=> ?_
    simp only[Instr.sliceAt,Instr.sureAddr,hx,bind,pure,be,bc,run_bind,run_underlying e1,KN,Y7 bu h1 h2 q1 q2 q3,run_sizeOf e2];split<;>simp
   ·exact h.elim
  ·exact h.elim
 ·exact h.elim
def mW (t:ae) (x y:ab):Op.equal t x y=Op.equalIn (9999+1) t x y:=rfl
def cU {P:aa} {t:ae} {p:Option am} {r:Bool} (h:dQ P t (.pointer p)=ay r) (w:ac):(Op.equal t (.pointer p) (.pointer az)).run P w= .ok r w:=by
 have hu:r=p.isNone/\∃d,P.underlying t=ay d/\(match d with| .pointer _=>True|_=>False):=by
  unfold dQ at h;cases hd:P.underlying t with
  |none=>simp[hd]at h
  |some d=>cases d<;>simp[hd]at h;exact⟨h.symm,_,rfl,trivial⟩
 obtain⟨rfl,d,hd,hm⟩:=hu;cases d<;>first|exact hm.elim|skip
 rw[mW];generalize 9999=d;unfold Op.equalIn;simp only[bind,pure,run_bind,run_underlying hd];cases p<;>rfl
def gR {P:aa} {t:ae} {p:Option am} {n c m k:Nat} {r:Bool} (h:dQ P t (.slice p n c)=ay r) (w:ac):(Op.equal t (.slice p n c) (.slice az m k)).run P w= .ok r w:=by
 have hu:r=p.isNone/\∃d,P.underlying t=ay d/\(match d with| .slice _=>True|_=>False):=by
  unfold dQ at h;cases hd:P.underlying t with
  |none=>simp[hd]at h
  |some d=>cases d<;>simp[hd]at h;exact⟨h.symm,_,rfl,trivial⟩
 obtain⟨rfl,d,hd,hm⟩:=hu;cases d<;>first|exact hm.elim|skip
 rw[mW];generalize 9999=d;unfold Op.equalIn;simp only[bind,pure,run_bind,run_underlying hd];cases p<;>rfl
def cS {P:aa} {t:ae} {p:Option Nat} {r:Bool} (h:dQ P t (.map p)=ay r) (w:ac):(Op.equal t (.map p) (.map az)).run P w= .ok r w:=by
 have hu:r=p.isNone/\∃d,P.underlying t=ay d/\(match d with| .map _ _=>True|_=>False):=by
  unfold dQ at h;cases hd:P.underlying t with
  |none=>simp[hd]at h
  |some d=>cases d<;>simp[hd]at h;exact⟨h.symm,_,rfl,trivial⟩
 obtain⟨rfl,d,hd,hm⟩:=hu;cases d<;>first|exact hm.elim|skip
 rw[mW];generalize 9999=d;unfold Op.equalIn;simp only[bind,pure,run_bind,run_underlying hd];cases p<;>rfl
def pP {p:Option am} {K:am->Prop} (h:IQ p K):∃a,p=ay a/\K a:=by
 cases p with
 |none=>exact h.elim
 |some a=>exact⟨a,rfl,h⟩
def z2c {p:Option am} {n:Nat} {i:Int} {K:am->Prop} (h:yWg p n i K):∃a,p=ay a/\(0<=i/\i<n)/\K a:=by
 cases p with
 |none=>exact h.elim
 |some a=>exact⟨a,rfl,h⟩
def xQ {P:aa} {o:aj} {ρ:Env} {neg:Bool} {t:ae} {x y:ap} {u:ae} {r:Bool} (ho:o.op= .binOp (if neg then .neq else .eql) t x y u)
 (hx:match ev ρ x with| .pointer _=>True| .slice _ _ _=>True| .map _=>True| .agg _=>True|_=>False)
 (hy:match ev ρ y with| .pointer _=>True| .slice _ _ _=>True| .map _=>True| .agg _=>True|_=>False)
 (hg:∀w,(ak (if neg then .neq else .eql) t x y (ev ρ x) (ev ρ y)).run P w= .ok () w)
 (he:∀w,(Op.equal t (ev ρ x) (ev ρ y)).run P w= .ok r w):EA P (af (ev ρ) o) (.bool (if neg then !r else r)):=by
 simp only[af,ho];refine yC λw=> ?_
 simp only[bind,run_bind,hg w];generalize ev ρ x=a at*;generalize ev ρ y=b at*;cases neg<;>cases a<;>(first|exact hx.elim|skip)<;>cases b<;>(first|exact hy.elim|skip)<;>simp only[binOp,oK,if_false,if_true,bind,pure,run_bind,he w,bc]
def zLl {P:aa} {op:BinOp} {t:ae} {x y x' y':ap} {a b:ab} (ha:a≠.nilIface) (w:ac):
 (ak op t x y a b).run P w=(ak op t x' y' a b).run P w:=by
 cases a<;>first|exact(ha rfl).elim|skip
 all_goals cases op<;>first|rfl|(cases b<;>rfl)
def y9 {P:aa} {op:BinOp} {t:ae} {x y:ap} {a b:ab} (ha:match a with| .pointer _=>True| .slice _ _ _=>True| .map _=>True|_=>False) (w:ac):
 (ak op t x y a b).run P w= .ok () w:=by
 cases a<;>first|exact ha.elim|(cases op<;>rfl)
def yBn {y:ab} (h:Uu y=bo):y= .pointer az:=by
 cases y<;>simp[Uu]at h
 rename_i a;cases a<;>simp at h ⊢
def z9i {y:ab} (h:IV y=bo):∃n c,y= .slice az n c:=by
 cases y<;>simp[IV]at h
 rename_i a n c;cases a<;>simp at h ⊢
def yAh {y:ab} (h:Us y=bo):y= .map az:=by
 cases y<;>simp[Us]at h
 rename_i a;cases a<;>simp at h ⊢
def zK {b:Bool} {A:Prop} (h:bif b then A else False):b=bo/\A:=by
 cases b
 ·exact h.elim
 ·exact⟨rfl,h⟩
def yNe {P:aa} {ρ:Env} {op:BinOp} {t u:ae} {x y:ap} {o:aj} {K:ab->Prop} (ho:o.op= .binOp op t x y u)
 (h:cR P o ρ K):∃v,K v/\EA P (af (ev ρ) o) v:=by
 simp only[cR,ho]at h;split at h
 ·rename_i k a k' b hx hy;obtain⟨rfl,hb,h⟩:=h;refine⟨_,h,?_⟩;simp only[af,ho];refine yC λw=> ?_
  simp[hx,hy,ak,binOp,Op.intDiv,hb,bind,pure,be,bc]
 ·rename_i k a k' b hx hy;obtain⟨rfl,hb,h⟩:=h;refine⟨_,h,?_⟩;simp only[af,ho];refine yC λw=> ?_
  simp[hx,hy,ak,binOp,Op.intDiv,hb,bind,pure,be,bc]
 ·rename_i k a k' b hx hy;obtain⟨hb,h⟩:=h;refine⟨_,h,?_⟩;simp only[af,ho];refine yC λw=> ?_
  simp[hx,hy,ak,binOp,Op.shift,Int.not_lt.2 hb,bind,pure,be,bc,IG,c9]
 ·rename_i k a k' b hx hy;obtain⟨hb,h⟩:=h;refine⟨_,h,?_⟩;simp only[af,ho];refine yC λw=> ?_
  simp[hx,hy,ak,binOp,Op.shift,Int.not_lt.2 hb,bind,pure,be,bc,IG,c9]
 ·rename_i k a k' b hx hy;obtain⟨hk,h'⟩:=SS h;subst hk;refine⟨_,h',?_⟩;simp only[af,ho];refine yC λw=> ?_
  simp[hx,hy,ak,binOp,Op.intBits,bind,pure,be,bc,B0,GL,B2,N7]
 ·rename_i k a k' b hx hy;obtain⟨hk,h'⟩:=SS h;subst hk;refine⟨_,h',?_⟩;simp only[af,ho];refine yC λw=> ?_
  simp[hx,hy,ak,binOp,Op.intBits,bind,pure,be,bc,B0,GL,B2,N7]
 ·rename_i k a k' b hx hy;obtain⟨hk,h'⟩:=SS h;subst hk;refine⟨_,h',?_⟩;simp only[af,ho];refine yC λw=> ?_
  simp[hx,hy,ak,binOp,Op.intBits,bind,pure,be,bc,B0,GL,B2,N7]
 ·rename_i k a k' b hx hy;obtain⟨hk,h'⟩:=SS h;subst hk;refine⟨_,h',?_⟩;simp only[af,ho];refine yC λw=> ?_
  simp[hx,hy,ak,binOp,Op.intBits,bind,pure,be,bc,B0,GL,B2,N7]
 ·rename_i a b hx hy;obtain⟨hb,h⟩:=h;refine⟨_,h,?_⟩;simp only[af,ho];refine yC λw=> ?_
  have An:¬(((a.size+b.size:Nat):Int)>dh.max):=Int.not_lt.2 hb;simp only[hx,hy,ak,binOp,Op.stringOp,fb An,bind,pure,be,bc];rfl
 ·rename_i p hx;generalize hy:ev ρ y=b at h;obtain⟨hn,h⟩:=zK h;obtain⟨r,hr,h⟩:=rH h;have hb:=yBn hn;refine⟨_,h,?_⟩;exact xQ (neg:=bu) ho (by simp[hx]) (by simp[hy,hb]) (λw=>by rw[hx];exact y9 trivial w) (λw=>by rw[hx,hy,hb];exact cU hr w)
 ·rename_i p hx;generalize hy:ev ρ y=b at h;obtain⟨hn,h⟩:=zK h;obtain⟨r,hr,h⟩:=rH h;have hb:=yBn hn;refine⟨_,h,?_⟩;exact xQ (neg:=bo) ho (by simp[hx]) (by simp[hy,hb]) (λw=>by rw[hx];exact y9 trivial w) (λw=>by rw[hx,hy,hb];exact cU hr w)
 ·rename_i p n c hx;generalize hy:ev ρ y=b at h;obtain⟨hn,h⟩:=zK h;obtain⟨r,hr,h⟩:=rH h;obtain⟨m,d,hb⟩:=z9i hn;refine⟨_,h,?_⟩;exact xQ (neg:=bu) ho (by simp[hx]) (by simp[hy,hb]) (λw=>by rw[hx];exact y9 trivial w) (λw=>by rw[hx,hy,hb];exact gR hr w)
 ·rename_i p n c hx;generalize hy:ev ρ y=b at h;obtain⟨hn,h⟩:=zK h;obtain⟨r,hr,h⟩:=rH h;obtain⟨m,d,hb⟩:=z9i hn;refine⟨_,h,?_⟩;exact xQ (neg:=bo) ho (by simp[hx]) (by simp[hy,hb]) (λw=>by rw[hx];exact y9 trivial w) (λw=>by rw[hx,hy,hb];exact gR hr w)
 ·rename_i p hx;generalize hy:ev ρ y=b at h;obtain⟨hn,h⟩:=zK h;obtain⟨r,hr,h⟩:=rH h;have hb:=yAh hn;refine⟨_,h,?_⟩;exact xQ (neg:=bu) ho (by simp[hx]) (by simp[hy,hb]) (λw=>by rw[hx];exact y9 trivial w) (λw=>by rw[hx,hy,hb];exact cS hr w)
 ·rename_i p hx;generalize hy:ev ρ y=b at h;obtain⟨hn,h⟩:=zK h;obtain⟨r,hr,h⟩:=rH h;have hb:=yAh hn;refine⟨_,h,?_⟩;exact xQ (neg:=bo) ho (by simp[hx]) (by simp[hy,hb]) (λw=>by rw[hx];exact y9 trivial w) (λw=>by rw[hx,hy,hb];exact cS hr w)
 ·rename_i a hx;generalize hy:ev ρ y=b at h;obtain⟨r,h1,h2,h3,h⟩:=h;refine⟨_,h,?_⟩;obtain⟨c,rfl⟩:∃c,b= .agg c:=by cases b<;>first|exact⟨_,rfl⟩|(simp at h3)
  exact xQ (neg:=bu) ho (by simp[hx]) (by simp[hy]) (λw=>by rw[hx,hy];exact(zLl (by simp) w).trans (wX h2 w)) (λw=>by rw[hx,hy];exact wX h1 w)
 ·rename_i a hx;generalize hy:ev ρ y=b at h;obtain⟨r,h1,h2,h3,h⟩:=h;refine⟨_,h,?_⟩;obtain⟨c,rfl⟩:∃c,b= .agg c:=by cases b<;>first|exact⟨_,rfl⟩|(simp at h3)
  exact xQ (neg:=bo) ho (by simp[hx]) (by simp[hy]) (λw=>by rw[hx,hy];exact(zLl (by simp) w).trans (wX h2 w)) (λw=>by rw[hx,hy];exact wX h1 w)
 ·exact cX h
def gX {P:aa} {ρ:Env} {o:aj} {K:ab->Prop} (h:cR P o ρ K):∃v,K v/\EA P (af (ev ρ) o) v:=by
 cases ho:o.op
 case move x=>simp only[cR,ho]at h;exact⟨_,h,λw=>by simp only[af,ho];rfl⟩
 case assign x=>simp only[cR,ho]at h;exact⟨_,h,λw=>by simp only[af,ho];rfl⟩
 case pick c a b=>
  simp only[cR,ho]at h;split at h
  ·rename_i t hc;refine⟨_,h,λw=> ?_⟩;simp only[af,ho,hc,asBool,bind,pure,be,bc];cases t<;>rfl
  ·exact h.elim
 case nilCheck x=>
  simp only[cR,ho]at h;split at h
  ·rename_i p hx;obtain⟨a,rfl,h⟩:=pP h;exact⟨_,h,λw=>by simp only[af,ho,hx];rfl⟩
  ·exact cX h
 case indexAddr t x i=>
  simp only[cR,ho]at h;split at h
  ·rename_i p n c k i hx hi;split at h
   ·rename_i sz oZ;obtain⟨a,rfl,hb,h⟩:=z2c h;refine⟨_,h,?_⟩;simp only[af,ho];refine yC λw=> ?_
    rw[hx,hi];exact jW oZ hb w
   ·exact h.elim
  ·rename_i p k i hx hi;split at h
   ·rename_i n sz oZ;obtain⟨a,rfl,hb,h⟩:=z2c h;refine⟨_,h,?_⟩;simp only[af,ho];refine yC λw=> ?_
    rw[hx,hi];exact dN oZ hb w
   ·exact h.elim
  ·exact h.elim
 case index t x i=>
  simp only[cR,ho]at h;split at h
  ·rename_i s k i hx hi;split at h
   ·rename_i ht;obtain⟨b,⟨h0,h1⟩,h⟩:=h;refine⟨_,h,?_⟩;simp only[af,ho];refine yC λw=> ?_
    simp only[Instr.index,hx,hi,asIntOf,bind,pure,be,bc,run_bind,run_underlying ht,fh h0,h1]
   ·exact h.elim
  ·split at h
   ·exact cX h
   ·obtain⟨v,hv,h⟩:=vE h;refine⟨v,h,?_⟩;simp only[af,ho];exact yC (wX hv)
 case typeAssert x xT asserted ok=>
  cases ok
  ·simp only[cR,ho]at h;obtain⟨v,hv,h⟩:=vE h;refine⟨v,h,?_⟩;simp only[af,ho];exact yC (wX hv)
  ·simp only[cR,ho]at h;obtain⟨v,h⟩:=vE h;obtain⟨b,hv,h⟩:=wE h;refine⟨_,h,?_⟩;simp only[af,ho];exact yC (wX hv)
 case slice t x lo hi mx=>
  cases mx with
  |none=>exact z4e ho h
  |some m=>
   simp only[cR,ho]at h;split at h<;>first|exact h.elim|contradiction|skip
   rename_i p n c m' hx hm;cases hm;split at h<;>first|exact h.elim|skip
   rename_i sz l u k m' oZ h1 h2 hm;obtain⟨⟨q1,q2,q3,q4⟩,h⟩:=h;obtain⟨e,ti,e1,e2,rfl⟩:=Zr oZ;rcases Tg h1 with⟨_,h1⟩|⟨y,ky,ny,rfl,hy,h1⟩
   ·cases h1
   cases h1;rcases Tg h2 with⟨_,h2⟩|⟨z,kz,nz,rfl,hz,h2⟩
   ·cases h2
   cases h2;refine⟨_,h,?_⟩;simp only[af,ho];refine yC λw=> ?_
   have b1:(0:Int)<=m'/\m'<=(c:Nat):=by omega
   have b2:0<=u/\u<=(m'.toNat:Nat):=by omega
   have b3:0<=l/\l<=(u.toNat:Nat):=by omega
   simp only[Instr.sliceAt,Instr.slice,cp,hx,hm,hy,hz,we,bind,pure,be,bc,run_bind,run_underlying e1,jA b1,jA b2,jA b3,run_sizeOf e2]
 case binOp op t x y u=>exact yNe ho h
 case panic x=>simp only[cR,ho]at h
 all_goals(simp only[cR,ho]at h;exact cX h)
def dS (P:aa) (s:Sem ab) (w:ac) (v:ab):Prop:=s.run P w=.ok v w
def gH (P:aa) (s:Sem ab) (w:ac) (v:ab) (w':ac):Prop:=s.run P w=.ok v w'
def Gz (P:aa) (s:Sem Unit) (w:ac) (w':ac):Prop:=s.run P w=.ok () w'
def nX (P:aa) (t:ae) (a:am) (w:ac) (v:ab):Prop:=(loadVar t a).run P w=.ok v w
def z8n (P:aa) (t:ae):Option ae:=
 match P.underlying t with
 |some (.map _ e)=>ay e
 |_=>az
def eY (P:aa) (o:aj) (ρ:Env) (w:ac) (K:ab->Prop):Prop:=
 match o.op with
 | .load t x=>
   match ev ρ x with
   | .pointer p=>IQ p λa=>Er P t λv=>nX P t a w v/\K v
   |_=>False
 | .lookup t m k ok=>
   match z8n P t with
   |some e=>Er P e λv=>CT .bool λb=>dS P (cq t (ev ρ m) (ev ρ k) bo) w (.tuple #[v,b])/\K (bif ok then .tuple #[v,b]else v)
   |none=>False
 | .convert s d x=>Er P d λv=>dS P (ax s d (ev ρ x)) w v/\K v
 | .binOp op t x y _=>
   match op with
   | .eql=>CT .bool λv=>dS P (binOp .eql t (ev ρ x) (ev ρ y)) w v/\(ak .eql t x y (ev ρ x) (ev ρ y)).run P w=.ok () w/\K v
   | .neq=>CT .bool λv=>dS P (binOp .neq t (ev ρ x) (ev ρ y)) w v/\(ak .neq t x y (ev ρ x) (ev ρ y)).run P w=.ok () w/\K v
   |_=>False
 | .call {callee:= .builtin .len,args,argTypes}=>CT (.int .i64) λv=>dS P (cf argTypes o.type (args.map (ev ρ))) w v/\K v
 | .entry x=>∃v,dS P (Instr.entry (ev ρ x)) w v/\K v
 |_=>False
def yF {P:aa} {s:Sem ab} {v:ab} {w:ac} (h:s.run P w= .ok v w):((do pure (Next.value (<- s)):Sem Next)).run P w= .ok (.value v) w:=by
 show(s.bind λa=> .pure (Next.value a)).run P w=_;rw[run_bind,h];rfl
def z5l {P:aa} {s:Sem ab} {v:ab} {w w':ac} (h:s.run P w= .ok v w'):((do pure (Next.value (<- s)):Sem Next)).run P w= .ok (.value v) w':=by
 show(s.bind λa=> .pure (Next.value a)).run P w=_;rw[run_bind,h];rfl
def yEv {P:aa} {s:Sem Unit} {w w':ac} (h:s.run P w= .ok () w'):((do s;pure Next.skip:Sem Next)).run P w= .ok .skip w':=by
 show(s.bind λ_=> .pure Next.skip).run P w=_;rw[run_bind,h];rfl
def NB (P:aa) (s1 s2:Sem ab):Prop:=∀w v b w',s1.run P w=.ok (.tuple #[v,b]) w'->s2.run P w=.ok v w'
def bP {α:Type} {P:aa} (s:Sem α) {f g:α->Sem ab} (h:∀a,NB P (f a) (g a)):NB P (s.bind f) (s.bind g):=by
 intro w v b w' hr;rw[run_bind]at hr ⊢;cases hs:s.run P w with
 |ok a w1=>rw[hs]at hr;exact h a _ _ _ _ hr
 |halt x w1=>rw[hs]at hr;cases hr
def yEk {P:aa} {x y:String}:NB P (stuck x) (stuck y):=by
 intro w v b w' hr;cases hr
def zZg {P:aa} {v b:ab}:NB P (.pure (.tuple #[v,b])) (.pure v):=by
 intro w v b w' hr;simp only[bc,Result.ok.injEq,Value.tuple.injEq,Array.mk.injEq,List.cons.injEq]at hr ⊢;exact⟨hr.1.1,hr.2⟩
def CB {P:aa} {t:ae} {m k:ab}:NB P (cq t m k bo) (cq t m k bu):=by
 unfold cq;refine bP _ λd=> ?_
 have tail:∀(key elem:ae) (es:Array aq),NB P
  ((Instr.checkKey es.isEmpty 10000 key k).bind λ_=>(Instr.findKey key k es.toList).bind λr=>
    match r with
    |some (_,v)=>(bg (v,bo)).bind λx=>bg (if bo=bo then Value.tuple #[x.1,.bool x.2]else x.1)
    |none=>(zeroValue elem).bind λz=>(bg (z,bu)).bind λx=>bg (if bo=bo then Value.tuple #[x.1,.bool x.2]else x.1))
  ((Instr.checkKey es.isEmpty 10000 key k).bind λ_=>(Instr.findKey key k es.toList).bind λr=>
    match r with
    |some (_,v)=>(bg (v,bo)).bind λx=>bg (if bu=bo then Value.tuple #[x.1,.bool x.2]else x.1)
    |none=>(zeroValue elem).bind λz=>(bg (z,bu)).bind λx=>bg (if bu=bo then Value.tuple #[x.1,.bool x.2]else x.1)):=by
  intro key elem es;refine bP _ λ_=>bP _ λr=> ?_
  cases r with
  |some p=>obtain⟨i,v⟩:=p;exact zZg
  |none=>exact bP _ λz=>zZg
 cases d<;>first|exact yEk|skip
 rename_i key elem;cases m<;>first|exact bP _ (λes=>tail key elem es)|skip
 rename_i r;cases r with
 |none=>exact bP _ (λes=>tail key elem es)
 |some r=>
  refine bP _ λo=> ?_
  cases o<;>exact bP _ (λes=>tail key elem es)
def zLn {P:aa} {t:ae} {m k v b:ab} {w w':ac} (h:(cq t m k bo).run P w= .ok (.tuple #[v,b]) w'):(cq t m k bu).run P w= .ok v w':=
 CB w v b w' h
def z7i {P:aa} {ρ:Env} {o:aj} {w:ac} {K:ab->Prop} (h:eY P o ρ w K):∃v,K v/\(af (ev ρ) o).run P w= .ok (.value v) w:=by
 cases ho:o.op
 case load t x=>
  simp only[eY,ho]at h;split at h
  ·rename_i p hx;obtain⟨a,rfl,h⟩:=pP h;obtain⟨v,hv,h⟩:=vE h;refine⟨v,h,?_⟩;simp only[af,ho,hx];exact yF hv
  ·exact h.elim
 case lookup t m k ok=>
  simp only[eY,ho]at h;split at h
  ·rename_i e he;obtain⟨v,h⟩:=vE h;obtain⟨b,hb,h⟩:=wE h;refine⟨_,h,?_⟩;simp only[af,ho];cases ok
   ·exact yF (zLn hb)
   ·exact yF hb
  ·exact h.elim
 case convert s d x=>
  simp only[eY,ho]at h;obtain⟨v,hv,h⟩:=vE h;refine⟨v,h,?_⟩;simp only[af,ho];exact yF hv
 case binOp op t x y u=>
  simp only[eY,ho]at h;split at h
  ·obtain⟨v,h1,h2,h⟩:=wE h;refine⟨v,h,?_⟩;simp only[af,ho];refine yF ?_;simp only[bind,run_bind,h2];exact h1
  ·obtain⟨v,h1,h2,h⟩:=wE h;refine⟨v,h,?_⟩;simp only[af,ho];refine yF ?_;simp only[bind,run_bind,h2];exact h1
  ·exact h.elim
 case call c=>
  simp only[eY,ho]at h;split at h<;>first|exact h.elim|skip
  all_goals first|(exfalso;rename_i hh;cases hh;done)|skip
  rename_i args argTypes hh;cases hh;obtain⟨v,hv,h⟩:=wE h;refine⟨v,h,?_⟩;simp only[af,ho];exact yF hv
 case entry x=>
  simp only[eY,ho]at h;obtain⟨v,hv,h⟩:=h;refine⟨v,h,?_⟩;simp only[af,ho];exact yF hv
 all_goals(simp only[eY,ho]at h)
def nf (P:aa) (s:Sem Next) (w:ac) (K:ab->ac->Prop):Prop:=
 match s.run P w with
 | .ok (.value v) w'=>K v w'
 | .ok .skip w'=>K ao w'
 | .ok (.enter f args) w'=>Calls P f args w' λe US=>∃v,e=.returned v/\K v US
 |_=>False
def KK (w:ac) (o:Obj) (K:Nat->ac->Prop):Prop:=∀b w',b=w.heap.size->w'=w.alloc o->K b w'
def zero? (P:aa) (t:ae):Option ab:=
 match P.info? t with
 |some i=>i.zero
 |none=>az
def GC (z:Array ab) (n:Nat):Array ab:=((dc n).map λj=>z.toList.getD (j % z.size) default).toArray
def Wv (z:Array ab) (n:Nat):(Array.range n).map (z[·% z.size]!)=GC z n:=by
 apply df;simp only[GC,Array.toList_map,Array.toList_range];refine uv λj _=> ?_
 rw[Array.getElem!_eq_getD,B8,nk,Array.getElem?_toList]
def Le (P:aa) (t:ae) (len:Nat) (parts:Array (Nat×ab)):Option (ae×Array ab):=
 match P.underlying t with
 |some (.slice e)=>
  match P.info? e with
  |some i=>
   if len*i.size>2 ^ 24 then az else
   match(if len*i.size=0 then ay #[]else i.zero.map Value.cells)with
   |some z=>(Instr.fill (λj=>ay (j*i.size,i.size)) (GC z (len*i.size)) parts.toList).map λcs=>(e,cs)
   |none=>az
  |none=>az
 |_=>az
def vT (P:aa) (t:ae):Option (ae×Nat×Nat×Array ab):=
 match P.underlying t with
 |some (.slice e)=>
  match P.info? e with
  |some i=>i.zero.map λz=>(e,i.size,i.bytes,z.cells)
  |none=>az
 |_=>az
def hZ (P:aa) (f:av):Bool:=
 match P.funcs[f]? with
 | some fn => !fn.body.isNone && !(fn.name == "runtime.NumGoroutine")
 |none=>bu
def yHj (P:aa) (f:av) (args:Array ab) (w:ac) (rt:ae) (K:ab->ac->Prop):Prop:=
 Calls P f args w λe w'=>PX P rt λv=>e=.returned v/\K v w'
def Ext (P:aa) (f:av) (args:Array ab) (w:ac) (v:ab) (w':ac):Prop:=(au f args).run P w=.ok (.value v) w'
def fY (P:aa) (o:aj) (ρ:Env) (w:ac) (K:ab->ac->Prop):Prop:=
 match o.op with
 | .alloc e=>
   match zero? P e with
   |some z=>KK w (.cells z.cells e) λb w'=>K (.pointer (ay ⟨b,0,az⟩)) w'
   |none=>False
 | .box e x=>KK w (.cells (ev ρ x).cells e) λb w'=>K (.pointer (ay ⟨b,0,az⟩)) w'
 | .buildSlice t len parts=>
   match Le P t len (parts.map λ(i,x)=>(i,ev ρ x))with
   |some (e,cs)=>KK w (.cells cs e) λb w'=>K (.slice (ay ⟨b,0,az⟩) len len) w'
   |none=>False
 | .makeMap _ az=>KK w (.map #[] 0) λb w'=>K (.map (ay b)) w'
 | .makeSlice t l c=>
   match ev ρ l,ev ρ c with
   | .int _ l,.int _ c=>
     match vT P t with
     |some (e,sz,oB,z)=>(0<=l/\l<=c/\c<=9223372036854775807/\(oB:Int)*c<=2 ^ 48)/\
       KK w (.cells (madeCells z (c.toNat*sz)) e) λb w'=>K (.slice (ay ⟨b,0,az⟩) l.toNat c.toNat) w'
     |none=>False
   |_,_=>False
 | .store t x v=>
   match ev ρ x with
   | .pointer p=>IQ p λa=>∃w',Gz P (storeVar t a (ev ρ v)) w w'/\K ao w'
   |_=>False
 | .mapUpdate t m k x=>∃w',Gz P (Instr.mapUpdate t (ev ρ m) (ev ρ k) (ev ρ x)) w w'/\K ao w'
 | .mapEntry t m k=>
   match z8n P t with
   |some e=>Er P e λv=>CT (.int .i64) λs=>∃w',gH P (Instr.mapEntry t (ev ρ m) (ev ρ k)) w (.tuple #[v,s]) w'/\K (.tuple #[v,s]) w'
   |none=>False
 | .entryStore t m s x=>∃w',Gz P (Instr.entryStore t (ev ρ m) (ev ρ s) (ev ρ x)) w w'/\K ao w'
 | .range t x=>
   match P.underlying t,ev ρ x with
   |some .string,.string s=>KK w (.stringIter s 0) λb w'=>K (.pointer (ay ⟨b,0,az⟩)) w'
   |_,x=>CT .ptr λv=>∃w',gH P (Instr.range t x) w v w'/\K v w'
 | .next it bo=>
   (∃w',gH P (Instr.next (ev ρ it) bo o.type) w (.tuple #[.bool bu]) w'/\K (.tuple #[.bool bu]) w')\/
   CT (.int .i64) λk=>CT (.int .i32) λv=>∃w',gH P (Instr.next (ev ρ it) bo o.type) w (.tuple #[.bool bo,k,v]) w'/\K (.tuple #[.bool bo,k,v]) w'
 | .next it bu=>
   (∃w',gH P (Instr.next (ev ρ it) bu o.type) w (.tuple #[.bool bu]) w'/\K (.tuple #[.bool bu]) w')\/
   ∃(k v:ab) (w':ac),gH P (Instr.next (ev ρ it) bu o.type) w (.tuple #[.bool bo,k,v]) w'/\K (.tuple #[.bool bo,k,v]) w'
 | .convert s d x=>Er P d λv=>∃w',gH P (ax s d (ev ρ x)) w v w'/\K v w'
 | .call c=>
   match c.callee with
   | .value (.func f)=>bif hZ P f then yHj P f (c.args.map (ev ρ)) w o.type K else PX P o.type λv=>∃w',Ext P f (c.args.map (ev ρ)) w v w'/\K v w'
   | .value x=>
     match ev ρ x with
     | .func (.func f) first cap=>hZ P f=bo/\yHj P f (first++c.args.map (ev ρ)++cap) w o.type K
     |_=>False
   | .builtin .append=>Er P o.type λv=>∃w',gH P (ce c.argTypes o.type (c.args.map (ev ρ))) w v w'/\K v w'
   | .builtin .copy=>CT (.int .i64) λv=>∃w',gH P (cg c.argTypes o.type (c.args.map (ev ρ))) w v w'/\K v w'
   | .builtin .delete=>∃w',gH P (Builtin.delete_ c.argTypes o.type (c.args.map (ev ρ))) w (.tuple #[]) w'/\K (.tuple #[]) w'
   | .builtin .clear=>∃w',gH P (Builtin.clear_ c.argTypes o.type (c.args.map (ev ρ))) w (.tuple #[]) w'/\K (.tuple #[]) w'
   |_=>False
 |_=>False
def yE {P:aa} {s:Sem ab} {w w':ac} {v:ab} {K:ab->ac->Prop} (h:s.run P w= .ok v w') (hk:K v w'):nf P (do pure (Next.value (<- s))) w K:=by
 unfold nf;rw[z5l h];exact hk
def wP {P:aa} {s:Sem Unit} {w w':ac} {K:ab->ac->Prop} (h:s.run P w= .ok () w') (hk:K ao w'):nf P (do s;pure Next.skip) w K:=by
 unfold nf;rw[yEv h];exact hk
def zUy {P:aa} {f:av} {args:Array ab} {w:ac} {rt:ae} {K:ab->ac->Prop} (hb:hZ P f=bo) (h:yHj P f args w rt K):nf P (au f args) w K:=by
 unfold hZ at hb;split at hb
 ·rename_i fn HM;simp only[lr,EM,Bool.not_eq_eq_eq_not,Bool.not_true]at hb;unfold nf;have:(au f args).run P w= .ok (.enter f args) w:=by
   simp only[au,bind,pure,run_bind,program,bc,be,HM,hb.1,hb.2,oK,if_false]
  rw[this];exact h.mono λe w' hh=>by
   obtain⟨v,hv,hk⟩:=z9h hh;exact⟨v,hv,hk⟩
 ·cases hb
def me {P:aa} {t:ae} {z:ab} (h:zero? P t=ay z) (w:ac):(zeroValue t).run P w= .ok z w:=by
 unfold zero? at h;split at h
 ·rename_i i hi;have HG:(typeInfo t).run P w= .ok i w:=by
   unfold typeInfo;show((Sem.program bg).bind _).run P w=_;simp only[be,bc,hi];rfl
  unfold zeroValue;simp only[bind,run_bind,HG,h];rfl
 ·cases h
def zNu {P:aa} {t:ae} {v:ab} (w:ac):(newVar t v).run P w= .ok ⟨w.heap.size,0,az⟩ (w.alloc (.cells v.cells t)):=rfl
def zFz {P:aa} {t:ae} {i:TypeInfo} (h:P.info? t=ay i) (w:ac):(typeInfo t).run P w= .ok i w:=by
 unfold typeInfo;show((Sem.program bg).bind _).run P w=_;simp only[be,bc,h];rfl
def m8 {P:aa} {t:ae} {len:Nat} {parts:Array (Nat×ab)} {e:ae} {cs:Array ab} (h:Le P t len parts=ay (e,cs)) (w:ac):
 (Instr.buildSlice t len parts).run P w= .ok (.slice (ay ⟨w.heap.size,0,az⟩) len len) (w.alloc (.cells cs e)):=by
 unfold Le at h;split at h<;>first|(cases h;done)|skip
 rename_i e' ht;split at h<;>first|(cases h;done)|skip
 rename_i i hi;split at h<;>first|(cases h;done)|skip
 rename_i hlen;split at h<;>first|(cases h;done)|skip
 rename_i z hz;simp only[ba,di]at h;obtain⟨Ce,GY,rfl,rfl⟩:=h;by_cases h0:len*i.size=0
 ·simp only[h0,if_true,ct]at hz;subst hz;simp only[Instr.buildSlice,bind,pure,run_bind,be,bc,run_underlying ht,run_sizeOf hi,fb hlen,fh h0,Wv,GY];rfl
 ·simp only[h0,if_false,ba]at hz;obtain⟨z',Pe,rfl⟩:=hz;have Eh:∀w,(zeroValue e').run P w= .ok z' w:=λw=>me (by unfold zero?;rw[hi];exact Pe) w
  simp only[Instr.buildSlice,bind,pure,run_bind,be,bc,run_underlying ht,run_sizeOf hi,fb hlen,fb h0,Eh,Wv,GY];rfl
def kP {P:aa} {t e:ae} {sz oB:Nat} {z:Array ab} (h:vT P t=ay (e,sz,oB,z)):
 ∃i zv,P.underlying t=ay (.slice e)/\P.info? e=ay i/\i.size=sz/\i.bytes=oB/\i.zero=ay zv/\zv.cells=z:=by
 unfold vT at h;split at h<;>first|(cases h;done)|skip
 rename_i e' ht;split at h<;>first|(cases h;done)|skip
 rename_i i hi;simp only[ba,di]at h;obtain⟨zv,U6,rfl,rfl,rfl,rfl⟩:=h;exact⟨i,zv,ht,hi,rfl,rfl,U6,rfl⟩
def wrap_i64 {x:Int} (h0: -9223372036854775808<=x) (h1:x<=9223372036854775807):dh.wrap x=x:=IntWalk.i64_in x ⟨h0,h1⟩
def zMh (P:aa) (n:Nat) (w:ac):(askRoom n).run P w= .ok () w:=by
 unfold askRoom;split<;>rfl
def zOi {P:aa} {t e:ae} {sz oB:Nat} {z:Array ab} {k k':ag} {l c:Int} (h:vT P t=ay (e,sz,oB,z))
 (hb:0<=l/\l<=c/\c<=9223372036854775807/\(oB:Int)*c<=2 ^ 48) (w:ac):
 (Instr.makeSlice t (.int k l) (.int k' c)).run P w= .ok (.slice (ay ⟨w.heap.size,0,az⟩) l.toNat c.toNat) (w.alloc (.cells (madeCells z (c.toNat*sz)) e)):=by
 obtain⟨i,zv,ht,hi,rfl,rfl,hz,rfl⟩:=kP h;obtain⟨h1,h2,h3,h4⟩:=hb;have wl:dh.wrap l=l:=wrap_i64 (by omega) (by omega);have wc:dh.wrap c=c:=wrap_i64 (by omega) (by omega);have Cd:¬(((decide (c<0)||decide ((i.bytes:Int)*c>2 ^ 48))||decide (l<0)||decide (l>c))=bo):=by
  simp only[bv,ud,not_or];omega
 have Eh:∀w,(zeroValue e).run P w= .ok zv w:=λw=>me (by unfold zero?;rw[hi];exact hz) w
 simp only[Instr.makeSlice,asInt,asIntOf,bind,pure,run_bind,be,bc,run_underlying ht,zFz hi,run_sizeOf hi,wl,wc];rw[fb Cd];simp only[run_bind,zMh,run_sizeOf hi];by_cases h0:c.toNat*i.size=0
 ·simp only[h0,if_true,bc,run_bind,madeCells];have e1:(Array.map (λx=>(#[]:Array ab)[x % (#[]:Array ab).size]!) (Array.range 0))= #[]:=by simp
  have e2:(Array.map (λx=>zv.cells[x % zv.cells.size]!) (Array.range 0))= #[]:=by simp
  rw[e1,e2];rfl
 ·simp only[fb h0,run_bind,Eh,bc,madeCells];rfl
def zUf {P:aa} {ρ:Env} {o:aj} {w:ac} {K:ab->ac->Prop} (h:fY P o ρ w K):nf P (af (ev ρ) o) w K:=by
 cases ho:o.op
 case alloc e=>
  simp only[fY,ho]at h;split at h
  ·rename_i z hz;simp only[af,ho];refine yE (v:= .pointer (ay ⟨w.heap.size,0,az⟩)) (w':=w.alloc (.cells z.cells e)) ?_ (h _ _ rfl rfl);simp only[Instr.alloc,bind,pure,run_bind,me hz,bc,zNu]
  ·exact h.elim
 case box e x=>
  simp only[fY,ho]at h;simp only[af,ho];exact yE (v:= .pointer (ay ⟨w.heap.size,0,az⟩)) (w':=w.alloc (.cells (ev ρ x).cells e)) rfl (h _ _ rfl rfl)
 case buildSlice t len parts=>
  simp only[fY,ho]at h;split at h
  ·rename_i e cs GY;simp only[af,ho];exact yE (m8 GY w) (h _ _ rfl rfl)
  ·exact h.elim
 case makeMap t r=>
  cases r with
  |some r=>simp only[fY,ho]at h
  |none=>
   simp only[fY,ho]at h;simp only[af,ho];exact yE (v:= .map (ay w.heap.size)) (w':=w.alloc (.map #[] 0)) rfl (h _ _ rfl rfl)
 case makeSlice t l c=>
  simp only[fY,ho]at h;split at h<;>first|exact h.elim|skip
  rename_i k l' k' c' hl hc;split at h<;>first|exact h.elim|skip
  rename_i e sz oB z hs;simp only[af,ho,hl,hc];exact yE (zOi hs h.1 w) (h.2 _ _ rfl rfl)
 case store t x v=>
  simp only[fY,ho]at h;split at h<;>first|exact h.elim|skip
  rename_i p hx;obtain⟨a,rfl,w',hw,hk⟩:=pP h;simp only[af,ho,hx];exact wP (w':=w') hw hk
 case mapUpdate t m k x=>
  simp only[fY,ho]at h;obtain⟨w',hw,hk⟩:=h;simp only[af,ho];exact wP hw hk
 case mapEntry t m k=>
  simp only[fY,ho]at h;split at h<;>first|exact h.elim|skip
  obtain⟨v,h⟩:=vE h;obtain⟨s,w',hw,hk⟩:=wE h;simp only[af,ho];exact yE hw hk
 case entryStore t m s x=>
  simp only[fY,ho]at h;obtain⟨w',hw,hk⟩:=h;simp only[af,ho];exact wP hw hk
 case range t x=>
  simp only[fY,ho]at h;split at h
  ·rename_i s ht hx;simp only[af,ho];refine yE (v:= .pointer (ay ⟨w.heap.size,0,az⟩)) (w':=w.alloc (.stringIter s 0)) ?_ (h _ _ rfl rfl);rw[hx];simp only[Instr.range,bind,pure,run_bind,be,run_underlying ht];rfl
  ·obtain⟨v,w',hw,hk⟩:=wE h;simp only[af,ho];exact yE hw hk
 case next it isString=>
  simp only[af,ho];cases isString
  ·simp only[fY,ho]at h;rcases h with⟨w',hw,hk⟩|⟨k,v,w',hw,hk⟩
   ·exact yE hw hk
   ·exact yE hw hk
  ·simp only[fY,ho]at h;rcases h with⟨w',hw,hk⟩|h
   ·exact yE hw hk
   ·obtain⟨k,h⟩:=wE h;obtain⟨v,w',hw,hk⟩:=wE h;exact yE hw hk
 case convert s d x=>
  simp only[fY,ho]at h;obtain⟨v,w',hw,hk⟩:=vE h;simp only[af,ho];exact yE hw hk
 case call c=>
  have tm:af (ev ρ) o=(ar (ev ρ) c o.type).bind λd=>invoke d.target d.args:=by
   simp only[af,ho];rfl
  simp only[fY,ho]at h;split at h
  ·rename_i f hc;have jk:(af (ev ρ) o)=au f (c.args.map (ev ρ)):=by
    rw[tm];unfold ar;rw[hc];simp only[ev,Deferred.ofValue,pure,be,invoke,Array.append_empty,Array.empty_append]
   rw[jk];revert h;cases hb:hZ P f<;>intro h
   ·replace h:PX P o.type λv=>∃w',Ext P f (c.args.map (ev ρ)) w v w'/\K v w':=h
    obtain⟨v,w',hw,hk⟩:=z9h h;exact(by unfold nf;rw[show(au f (c.args.map (ev ρ))).run P w=_ from hw];exact hk)
   ·exact zUy hb h
  ·rename_i x hc;split at h<;>first|exact h.elim|skip
   rename_i f first cap hx
   have jk:(af (ev ρ) o)=au f (first++c.args.map (ev ρ)++cap):=by
    rw[tm];unfold ar;rw[hc];simp only[hx,Deferred.ofValue,pure,be,invoke]
   rw[jk];exact zUy h.1 h.2
  all_goals first|exact h.elim|skip
  ·rename_i hc;have jk:af (ev ρ) o=builtin .append c.argTypes o.type (c.args.map λ| .const _=>bo|_=>bu) (c.args.map (ev ρ)):=by
    rw[tm];unfold ar;rw[hc];rfl
   rw[jk];obtain⟨v,w',hw,hk⟩:=vE h;exact yE hw hk
  ·rename_i hc;have jk:af (ev ρ) o=builtin .copy c.argTypes o.type (c.args.map λ| .const _=>bo|_=>bu) (c.args.map (ev ρ)):=by
    rw[tm];unfold ar;rw[hc];rfl
   rw[jk];obtain⟨v,w',hw,hk⟩:=wE h;exact yE hw hk
  ·rename_i hc;have jk:af (ev ρ) o=builtin .delete c.argTypes o.type (c.args.map λ| .const _=>bo|_=>bu) (c.args.map (ev ρ)):=by
    rw[tm];unfold ar;rw[hc];rfl
   rw[jk];obtain⟨w',hw,hk⟩:=h;exact yE hw hk
  ·rename_i hc;have jk:af (ev ρ) o=builtin .clear c.argTypes o.type (c.args.map λ| .const _=>bo|_=>bu) (c.args.map (ev ρ)):=by
    rw[tm];unfold ar;rw[hc];rfl
   rw[jk];obtain⟨w',hw,hk⟩:=h;exact yE hw hk
 all_goals(simp only[fY,ho]at h)
end Cv
namespace Cv
open Go
def NV:ap->Bool
 | .const (.pointer az)=>bo
 |_=>bu
def Su (P:aa) (op:Op):Nat:=
 match op with
 | .load _ _=>1
 | .lookup _ _ _ _=>1
 | .convert s d _=>
   match P.underlying s,P.underlying d with
   |some .string,ay (.slice _)=>2
   |some (.slice _),ay .string=>1
   |_,_=>0
 | .binOp op t x y _=>
   match op,P.underlying t with
   | .eql,ay (.pointer _)=>bif NV y then 0 else 1
   | .neq,ay (.pointer _)=>bif NV y then 0 else 1
   |_,_=>0
 | .call c=>
   match c.callee with
   | .builtin .len=>
     match(c.argTypes[0]?).bind P.underlying with
     |some (.map _ _)=>1
     |_=>0
   | .builtin .cap=>0
   | .builtin .min=>0
   | .builtin .max=>0
   |_=>2
 | .alloc _=>2
 | .box _ _=>2
 | .buildSlice _ _ _=>2
 | .makeMap _ _=>2
 | .makeSlice _ _ _=>2
 | .store _ _ _=>2
 | .mapUpdate _ _ _ _=>2
 | .mapEntry _ _ _=>2
 | .entryStore _ _ _ _=>2
 | .range _ _=>2
 | .entry _=>1
 | .next _ _=>2
 |_=>0
def opV (P:aa) (o:aj) (ρ:Env) (w:ac) (K:ab->ac->Prop):Prop:=
 match Su P o.op with
 |0=>cR P o ρ λv=>K v w
 |1=>eY P o ρ w λv=>K v w
 |_=>fY P o ρ w K
def wA {P:aa} {s:Sem Next} {w w':ac} {v:ab} {K:ab->ac->Prop} (h:s.run P w= .ok (.value v) w') (hk:K v w'):nf P s w K:=by
 unfold nf;rw[h];exact hk
def yEu {P:aa} {o:aj} {ρ:Env} {w:ac} {K:ab->ac->Prop} (h:opV P o ρ w K):nf P (af (ev ρ) o) w K:=by
 unfold opV at h;split at h
 ·obtain⟨v,hk,hf⟩:=gX h;exact wA (hf w) hk
 ·obtain⟨v,hk,hf⟩:=z7i h;exact wA hf hk
 ·exact zUf h
def Ud (ops:List aj) (j:Nat):Option Nat:=
 match ops[j]? with
 |some o=>o.dst
 |none=>az
def gd (c want:Bool) (Y N:Prop):Prop:=
 match c,want with
 |true,bo=>Y
 |false,bu=>Y
 |true,bu=>N
 |false,bo=>N
def NL (ops:List aj) (g:Option (Nat×Bool)) (ρ:Env) (Y N:Env->Prop):Prop:=
 match g with
 |none=>Y ρ
 |some (j,want)=>
  match Ud ops j with
  |none=>N ρ
  |some d=>
   match ρ d with
   | .bool c=>gd c want (Y (put ρ (ay d) (.bool want))) (N (put ρ (ay d) (.bool !want)))
   |_=>N ρ
def z1q {ρ:Env} {d:Nat} {v:ab} (h:ρ d=v):put ρ (ay d) v=ρ:=by
 funext i;simp only[put];cases hb:cw i d
 ·rfl
 ·have:=jb hb;subst this;exact h.symm
@[reducible] def yM (a:Act):Env:=λi=>a.tmps.getD i ao
def wL (a:Act):ev (yM a)=a.eval:=by
 funext x;cases x<;>rfl
def mf {a:Act} {dst:Option Nat} {v:ab} (h:∀d,dst=ay d->d<a.tmps.size):yM (a.put dst v)=put (yM a) dst v:=by
 cases dst with
 |none=>rfl
 |some d=>
  funext i;have:=h d rfl;simp only[yM,Act.put,put];cases hb:cw i d
  ·have ji:i≠d:=λe=>by subst e;simp at hb
   simp[B8,UP (Ne.symm ji)]
  ·have e:=jb hb;subst e;simp[B8,UQ this]
def zHf (ops:List aj) (tmps:Array ab) (j:Nat):yielded ops.toArray tmps j=match Ud ops j with
 |none=>az
 |some d=>match tmps[d]? with|some (.bool b)=>ay b|_=>az:=by
 unfold yielded Ud;simp only[AO];cases ops[j]? with
 |none=>rfl
 |some o=>
  obtain⟨dst,op,ty,pos,after,g⟩:=o;cases dst with
  |none=>rfl
  |some d=>
   simp only[Option.bind_some];cases tmps[d]? with
   |none=>rfl
   |some v=>cases v<;>rfl
def sK {ops:List aj} {o:aj} {a:Act} {Y N:Env->Prop} (h:NL ops o.guard (yM a) Y N):
 if co o (yielded ops.toArray a.tmps)then Y (yM a)else N (yM a):=by
 unfold NL at h;unfold co;split at h
 ·rename_i hg;rw[hg];exact h
 ·rename_i j want hg;rw[hg];have hy:=zHf ops a.tmps j;split at h
  ·rename_i hd;rw[hd]at hy;simp only[hy];simpa using h
  ·rename_i d hd;rw[hd]at hy;simp only[hy];have hv:yM a d=(a.tmps[d]?).getD ao:=by simp[yM,B8]
   rw[hv]at h;cases ht:a.tmps[d]? with
   |none=>
    rw[ht]at h;simpa[ao]using h
   |some v=>
    rw[ht]at h hv;simp only[zm]at h hv;cases v with
    |bool c=>
     simp only[]at h ⊢;have hs:∀b,c=b->put (yM a) (ay d) (.bool b)=yM a:=λb hb=>z1q (by rw[hv,hb])
     cases c<;>cases want<;>simp only[gd,Bool.not_true,I4]at h<;>rw[hs _ rfl]at h<;>simpa using h
    |_=>simpa using h
def Oz (P:aa) (ops:List aj):List aj->Env->ac->(Env->ac->Prop)->Prop
 |[],ρ,w,K=>K ρ w
 |o::rest,ρ,w,K=>
  NL ops o.guard ρ (λρ=>opV P o ρ w λv w'=>Oz P ops rest (put ρ o.dst v) w' K) (λρ=>Oz P ops rest (put ρ o.dst ao) w K)
def IJ (n:Nat) (A:Nat->Bool) (ops:List aj):Prop:=∀o∈ops,∀d,o.dst=ay d->d<n/\A d=bo
structure Good (n:Nat) (A:Nat->Bool) (e0:Env) (a:Act):Prop where
 size:a.tmps.size=n
 defers:a.defers=[]
 same:∀s,A s=bu->yM a s=e0 s
def z1p (a:Act) (d:Option Nat) (v:ab):(a.put d v).tmps.size=a.tmps.size/\(a.put d v).defers=a.defers:=by
 cases d<;>simp[Act.put]
def Good.mf {n:Nat} {A:Nat->Bool} {e0:Env} {a:Act} (h:Good n A e0 a) {dst:Option Nat} (hd:∀d,dst=ay d->d<n/\A d=bo) (v:ab):
 yM (a.put dst v)=put (yM a) dst v:=Cv.mf λd oL=>by rw[h.size];exact(hd d oL).1
def Good.put {n:Nat} {A:Nat->Bool} {e0:Env} {a:Act} (h:Good n A e0 a) {dst:Option Nat} (hd:∀d,dst=ay d->d<n/\A d=bo) (v:ab):Good n A e0 (a.put dst v):=by
 refine⟨(z1p _ _ _).1.trans h.size,(z1p _ _ _).2.trans h.defers,λs hs=> ?_⟩;rw[h.mf hd];cases dst with
 |none=>exact h.same s hs
 |some d=>
  simp only[Cv.put];cases hb:cw s d
  ·exact h.same s hs
  ·have e:=jb hb;subst e;have:=(hd s rfl).2;rw[hs]at this;cases this
def Zc {P:aa} {o:aj} {a:Act} {w:ac} {K:Act->ac->Prop} {Q:Exit->Act->ac->Prop}
 (h:nf P (af a.eval o) w λv w'=>K (a.put o.dst v) w'):o.wp P a w K Q:=by
 unfold nf at h;unfold Oper.wp;split at h
 ·rename_i v w' hr;rw[hr];exact h
 ·rename_i w' hr;rw[hr];exact h
 ·rename_i f args w' hr;rw[hr];exact h.mono λe US ⟨v,he,hk⟩=>by subst he;exact hk
 ·exact h.elim
def zOp {P:aa} {ops:List aj} {n:Nat} {A:Nat->Bool} {e0:Env} {Q:Exit->Act->ac->Prop} {K:Env->ac->Prop}
 (hQ:∀a w,Good n A e0 a->K (yM a) w->Q .normal a w):
 ∀(l:List aj) (a:Act) (w:ac),IJ n A l->Good n A e0 a->Oz P ops l (yM a) w K->wpList P ops.toArray Q l a w
 |[],a,w,_,hg,h=>hQ a w hg h
 |o::l,a,w,hf,pk,h=>by
  have xv:=hf o jm;have hf':IJ n A l:=λo' oG=>hf o' (kg _ oG)
  have hg:=sK h;have nx:∀{v:ab} {w:ac},Oz P ops l (put (yM a) o.dst v) w K->wpList P ops.toArray Q l (a.put o.dst v) w:=λ{v w} hh=>
   zOp hQ l _ _ hf' (pk.put xv v) (by rw[pk.mf xv];exact hh)
  unfold wpList;split
  ·rename_i hw;rw[fh hw]at hg;left;refine Zc ?_;have:=yEu hg;rw[wL]at this;unfold nf at this ⊢;split at this
   ·exact nx this
   ·exact nx this
   ·exact this.mono λe US ⟨v,he,hk⟩=>⟨v,he,nx hk⟩
   ·exact this
  ·rename_i hw;rw[fb hw]at hg;exact nx hg
end Cv
namespace Cv
open Go
def yNx (acc:List Nat) (o:aj):Nat:=
 o.after.toList.foldl (λs e=>bif cn .any e then s|||2 ^ e.on|||acc.getD e.on 0 else s) 0
def uX:List aj->List Nat->List Nat
 |[],acc=>acc
 |o::rest,acc=>uX rest (acc++[yNx acc o])
def AV (bf:List Nat) (i r:Nat):Bool:=(bf.getD i 0).testBit r
def eK (ops:List aj) (L:Nat->Prop):Prop:=∀i o,ops[i]?=ay o->L i->∀e∈o.after,cn .any e=bo->L e.on
def zTg {ops:List aj} {acc:List Nat} {L:Nat->Prop} (Cs:∀k,L k->∀r,(acc.getD k 0).testBit r=bo->L r):
 ∀(l:List Edge) (s:Nat),(∀r,s.testBit r=bo->L r)->(∀e∈l,cn .any e=bo->L e.on)->
  ∀r,(l.foldl (λs e=>bif cn .any e then s|||2 ^ e.on|||acc.getD e.on 0 else s) s).testBit r=bo->L r
 |[],s,hs,_,r,h=>hs r h
 |e::l,s,hs,hl,r,h=>by
  refine zTg (ops:=ops) Cs l _ ?_ (λe' ri=>hl e' (kg _ ri)) r h;intro r hr;dsimp only at hr;cases hb:cn .any e
  ·rw[hb]at hr;exact hs r hr
  ·have Vf:=hl e (by simp) hb;rw[hb]at hr;simp only[cond_true,Nat.testBit_or,Nat.testBit_two_pow,bv,ud]at hr;rcases hr with(hr|hr)|hr
   ·exact hs r hr
   ·exact hr▸Vf
   ·exact Cs _ Vf r hr
def Ac {ops:List aj} {L:Nat->Prop} (hc:eK ops L):∀(l:List aj) (acc:List Nat),(∀j,l[j]? =ops[acc.length+j]?)->
 (∀k o,k<acc.length->ops[k]? =ay o->(∀e∈o.after,cn .any e=bo->L e.on)->∀r,(acc.getD k 0).testBit r=bo->L r)->
 ∀k o,ops[k]? =ay o->(∀e∈o.after,cn .any e=bo->L e.on)->∀r,((uX l acc).getD k 0).testBit r=bo->L r
 |[],acc,hl,Cs,k,o,ho,hd,r,hr=>by
  by_cases hk:k<acc.length
  ·exact Cs k o hk ho hd r hr
  ·exfalso;have:=hl (k-acc.length);rw[show acc.length+(k-acc.length)=k by omega,ho]at this;simp at this
 |o::l,acc,hl,Cs,k,o',oG,hd,r,hr=>by
  refine Ac hc l (acc++[yNx acc o]) ?_ ?_ k o' oG hd r hr
  ·intro j;have:=hl (j+1);simp only[iv,iJ,ua];rw[show acc.length+(0+1)+j=acc.length+(j+1)by omega];simpa using this
  ·intro k2 o2 rn Jn zq r2 xf;have RJ:∀k,L k->∀r,(acc.getD k 0).testBit r=bo->L r:=by
    intro k3 hL r3 h3;by_cases HL:k3<acc.length
    ·cases EX:ops[k3]? with
     |none=>
      exfalso;have:=hl 0;simp only[EJ]at this;rw[List.getElem?_eq_none_iff]at EX;have h4:acc.length<ops.length:=by
       rcases ur acc.length ops.length with h|h
       ·exact h
       ·rw[ue h]at this;simp at this
      omega
     |some o3=>exact Cs k3 o3 HL EX (hc k3 o3 EX hL) r3 h3
    ·simp[nk,ue (Nat.not_lt.1 HL)]at h3
   by_cases hk:k2<acc.length
   ·rw[nk,Ec hk,<- nk]at xf;exact Cs k2 o2 hk Jn zq r2 xf
   ·have rh:k2=acc.length:=by simp at rn;omega
    subst rh;rw[nk,B7 (lk _)]at xf;simp only[I0,CK,zm]at xf;have h0:=hl 0;simp only[CK,EJ]at h0;rw[Jn]at h0;cases h0;exact zTg (ops:=ops) RJ _ 0 (by simp) (λe he hb=>zq e (by simpa using he) hb) r2 xf
def z4x {ops:List aj} {L:Nat->Prop} (hc:eK ops L) {i:Nat} {o:aj} (ho:ops[i]? =ay o) (hd:∀e∈o.after,cn .any e=bo->L e.on)
 {r:Nat} (h:AV (uX ops []) i r=bo):L r:=
 Ac hc ops [] (by simp) (by simp) i o ho hd r h
@[reducible] def Mon:=Nat×(ac->Prop)
def jH (bf:List Nat) (i:Nat) (M:List Mon):List Mon:=M.filter λm=> !AV bf i m.1
def EC (M:List Mon) (w:ac):Prop:=∀m∈M,m.2 w
def D6 (P:aa) (ops:Array aj) (i:Nat) (K:Act->ac->Prop) (a:Act) (w:ac):Prop:=
 match ops[i]? with
 |none=>K a w
 |some o=>if co o (yielded ops a.tmps)then nf P (af a.eval o) w (λv w'=>K (a.put o.dst v) w')else K (a.put o.dst ao) w
def nf.mono {P:aa} {s:Sem Next} {w:ac} {K K':ab->ac->Prop} (h:nf P s w K) (hk:∀v w',K v w'->K' v w'):nf P s w K':=by
 unfold nf at*;split at h
 ·exact hk _ _ h
 ·exact hk _ _ h
 ·exact h.mono λe US ⟨v,he,h⟩=>⟨v,he,hk _ _ h⟩
 ·exact h
def T5 {P:aa} {ops:Array aj} {i:Nat} {K K':Act->ac->Prop} {a:Act} {w:ac} (h:D6 P ops i K a w) (hk:∀a w,K a w->K' a w):D6 P ops i K' a w:=by
 unfold D6 at*;split
 ·rename_i ho;simp only[ho]at h;exact hk _ _ h
 ·rename_i o ho;simp only[ho]at h;split
  ·rename_i hw;rw[fh hw]at h;exact h.mono λv w'=>hk _ _
  ·rename_i hw;rw[fb hw]at h;exact hk _ _ h
def CF (P:aa) (ops:Array aj) (bf:List Nat) (Q:Act->ac->Prop):Nat->List Mon->Array Bool->Act->ac->Prop
 |0,_,fk,a,w=>cm .any ops fk=[]/\Q a w
 |fuel+1,M,fk,a,w=>
  (cm .any ops fk=[]->Q a w)/\
  ∀i∈cm .any ops fk,D6 P ops i (λa' w'=>EC (jH bf i M) w'/\CF P ops bf Q fuel (jH bf i M) (fk.setIfInBounds i bo) a' w') a w
def zUp {bf:List Nat} {i:Nat} {M M':List Mon} (h:∀m∈M',m∈M):∀m∈jH bf i M',m∈jH bf i M:=by
 intro m hm;simp only[jH,uu]at hm ⊢;exact⟨h m hm.1,hm.2⟩
def z1z {P:aa} {ops:Array aj} {bf:List Nat} {Q:Act->ac->Prop}:∀(fuel:Nat) {M M':List Mon} (fk:Array Bool) (a:Act) (w:ac),
 (∀m∈M',m∈M)->CF P ops bf Q fuel M fk a w->CF P ops bf Q fuel M' fk a w
 |0,_,_,_,_,_,_,h=>h
 |fuel+1,M,M',fk,a,w,hs,h=>⟨h.1,λi hi=>T5 (h.2 i hi) λa' w' hh=>
   ⟨λm hm=>hh.1 m (zUp hs m hm),z1z fuel _ _ _ (zUp hs) hh.2⟩⟩
def gI {P:aa} {ops:Array aj} {bf:List Nat} {Q:Act->ac->Prop} {Q':Exit->Act->ac->Prop} (hQ:∀a w,Q a w->Q' .normal a w):
 ∀(fuel:Nat) {M:List Mon} (fk:Array Bool) (a:Act) (w:ac),CF P ops bf Q fuel M fk a w->wpAny P .any ops Q' fuel fk a w
 |0,_,_,_,_,h=>⟨h.1,hQ _ _ h.2⟩
 |fuel+1,M,fk,a,w,h=>⟨λh0=>hQ _ _ (h.1 h0),λi hi=>by
   have:=h.2 i hi;unfold D6 at this;unfold wpOp;split
   ·rename_i ho;simp only[ho]at this;exact gI hQ fuel _ _ _ this.2
   ·rename_i o ho;simp only[ho]at this;split
    ·rename_i hw;rw[fh hw]at this;exact .inl (Zc (this.mono λv w' hh=>gI hQ fuel _ _ _ hh.2))
    ·rename_i hw;rw[fb hw]at this;exact gI hQ fuel _ _ _ this.2⟩
def sX (P:aa) (ops:Array aj) (o:aj) (v:ab) (a:Act) (w:ac):Prop:=
 (co o (yielded ops a.tmps)=bo/\(af a.eval o).run P w=.ok (.value v) w)\/(co o (yielded ops a.tmps)=bu/\v=ao)
def zTe {P:aa} {ops:Array aj} {i:Nat} {o:aj} {v:ab} {a:Act} {w:ac} {K:Act->ac->Prop} (hi:ops[i]? =ay o) (h:sX P ops o v a w) (hk:K (a.put o.dst v) w):D6 P ops i K a w:=by
 unfold D6;simp only[hi];rcases h with⟨hw,hr⟩|⟨hw,rfl⟩
 ·rw[fh hw];exact wA hr hk
 ·rw[fb (by rw[hw];simp)];exact hk
def yFh {fk:Array Bool} {i:Nat} (h:fk.getD i bo=bu):i<fk.size:=by
 rcases ur i fk.size with h'|h'
 ·exact h'
 ·simp[B8,GI h']at h
def qK (fk:Array Bool) (i:Nat):Prop:=fk.getD i bu=bo
def zGb {fk:Array Bool} {i j:Nat} (h:qK fk j):qK (fk.setIfInBounds i bo) j:=by
 unfold qK at*;by_cases Jp:i=j
 ·subst Jp;have:i<fk.size:=by
   rcases ur i fk.size with h'|h'
   ·exact h'
   ·simp[B8,GI h']at h
  simp[B8,UQ this]
 ·simpa[B8,UP Jp]using h
def zJm {fk:Array Bool} {i j:Nat} (h:qK (fk.setIfInBounds i bo) j):j=i\/qK fk j:=by
 unfold qK at*;by_cases Jp:i=j
 ·exact .inl Jp.symm
 ·right;simpa[B8,UP Jp]using h
def zOv {fk:Array Bool} {i:Nat} (h:fk.getD i bo=bu):¬qK fk i:=by
 unfold qK;have:=yFh h;simp only[B8,OZ this]at h ⊢;simp at h ⊢;exact h
def uL {ops:List aj} {fk:Array Bool} (hc:eK ops (qK fk)) {i:Nat} (hi:i∈cm .any ops.toArray fk):eK ops (qK (fk.setIfInBounds i bo)):=by
 intro j o ho hj e he hb;rcases zJm hj with rfl|hj
 ·obtain⟨_,o',oG,vj⟩:=mem_ready.1 hi;simp only[AO]at oG;rw[ho]at oG;cases oG;exact zGb (vj e he hb)
 ·exact zGb (hc j o ho hj e he hb)
def tR (ops:List aj) (bf:List Nat):Bool:=
 Region.noSelect ops.toArray && (dc ops.length).all λi=>(dc i).all λj=>
  match ops[i]?,ops[j]? with
  |some oi,ay oj=>AV bf i j||(oi.apart ops.toArray oj && oj.apart ops.toArray oi)
  |_,_=>bo
def z3y {ops:List aj} {bf:List Nat} (h:tR ops bf=bo) {i j:Nat} {oi oj:aj} (hi:ops[i]? =ay oi) (hj:ops[j]? =ay oj) (ji:i≠j)
 (h1:AV bf i j=bu) (h2:AV bf j i=bu):oi.apart ops.toArray oj=bo:=by
 simp only[tR,lr,DB,B5]at h;have lt:∀{k:Nat} {o:aj},ops[k]? =ay o->k<ops.length:=λ{k o} hk=>by
  rcases ur k ops.length with h'|h'
  ·exact h'
  ·rw[ue h']at hk;cases hk
 rcases Nat.lt_or_gt_of_ne ji with gv|gv
 ·have:=h.2 j (lt hj) i gv;simp only[hi,hj,h2,KL,lr]at this;exact this.2
 ·have:=h.2 i (lt hi) j gv;simp only[hi,hj,h1,KL,lr]at this;exact this.1
def yHl {P:aa} {ops:Array aj} {o:aj} {v u:ab} {a:Act} {w:ac} {d:Option Tmp} (hs:∀cs b,o.op≠.select cs b) (hd:∀t,d=ay t->t∉o.looksAt ops):
 sX P ops o v (a.put d u) w↔sX P ops o v a w:=by
 unfold sX;rw[execOp_put o hs a d u hd,wanted_put o a d u hd]
def yKu {P:aa} {ops:Array aj} {j:Nat} {oi oj:aj} {v:ab} (hj:ops[j]? =ay oj) (Jr:oi.apart ops oj=bo) (hsj:∀cs b,oj.op≠.select cs b)
 {K:Act->ac->Prop} {a:Act} {w:ac} (h:D6 P ops j K (a.put oi.dst v) w):
 D6 P ops j (λa' w'=>(∃u,a'=a.put oj.dst u)/\K (a'.put oi.dst v) w') a w:=by
 obtain⟨h1,h2,h3⟩:=Oper.apart_spec Jr;unfold D6 at*;simp only[hj]at*;rw[wanted_put oj a oi.dst v h1]at h;split
 ·rename_i hw;rw[fh hw]at h;rw[execOp_put oj hsj a oi.dst v h1]at h;refine h.mono λu w' hk=>⟨⟨u,rfl⟩,?_⟩
  rw[<- Act.put_comm a v u h2];exact hk
 ·rename_i hw;rw[fb hw]at h;exact⟨⟨_,rfl⟩,by rw[<- Act.put_comm a v ao h2];exact h⟩
def g8 {P:aa} {ops:List aj} {Q:Act->ac->Prop} (oS:tR ops (uX ops [])=bo) {r:Nat} {o:aj} {v:ab} (hr:ops[r]? =ay o):
 ∀(fuel:Nat) (M:List Mon) (fk:Array Bool) (a:Act) (w:ac),eK ops (qK fk)->r∈cm .any ops.toArray fk->
  sX P ops.toArray o v a w->EC M w->
  CF P ops.toArray (uX ops []) Q fuel ((r,λw=>sX P ops.toArray o v a w)::M) (fk.setIfInBounds r bo) (a.put o.dst v) w->
  CF P ops.toArray (uX ops []) Q (fuel+1) M fk a w:=by
 have hns:∀(i:Nat) (o:aj),ops[i]? =ay o->∀cs b,o.op≠.select cs b:=by
  intro i o hi cs b;simp only[tR,lr]at oS;exact Region.noSelect_spec oS.1 i o cs b (by simpa using hi)
 intro fuel
 induction fuel with
 |zero=>
  intro M fk a w hc K2 hs hM H;refine⟨λh=>(by rw[h]at K2;cases K2),λi hi=> ?_⟩;by_cases Jo:i=r
  ·subst Jo;refine zTe (by simpa using hr) hs ⟨λm hm=>hM m (by simp only[jH,uu]at hm;exact hm.1),?_⟩;exact H
  ·have:=ready_mono hi Jo;rw[H.1]at this;cases this
 |succ fuel ih=>
  intro M fk a w hc K2 hs hM H;refine⟨λh=>(by rw[h]at K2;cases K2),λi hi=> ?_⟩;by_cases Jo:i=r
  ·subst Jo;refine zTe (by simpa using hr) hs ⟨λm hm=>hM m (by simp only[jH,uu]at hm;exact hm.1),?_⟩;refine z1z _ _ _ _ ?_ H;intro m hm;simp only[jH,uu]at hm;exact kg _ hm.1
  ·have h1:=H.2 i (ready_mono hi Jo);obtain⟨aaQ,oi,Pp,vj⟩:=mem_ready.1 hi;obtain⟨jk,o',oG,RE⟩:=mem_ready.1 K2;simp only[AO]at Pp oG;rw[hr]at oG;cases oG;have hL:∀(k:Nat) (ok:aj),ops[k]? =ay ok->(∀e∈ok.after,cn .any e=bo->fk.getD e.on bu=bo)->∀q,AV (uX ops []) k q=bo->qK fk q:=
    λk ok hk hd q hq=>z4x hc hk hd hq
   have nri:AV (uX ops []) i r=bu:=by
    cases hb:AV (uX ops []) i r with
    |false=>rfl
    |true=>exact absurd (hL i oi Pp vj r hb) (zOv jk)
   have nir:AV (uX ops []) r i=bu:=by
    cases hb:AV (uX ops []) r i with
    |false=>rfl
    |true=>exact absurd (hL r o hr RE i hb) (zOv aaQ)
   have Jr:=z3y oS hr Pp (Ne.symm Jo) nir nri;have h2:=yKu (by simpa using Pp) Jr (hns i oi Pp) h1;have aa0:=(Oper.apart_spec Jr).2.2;have RM:jH (uX ops []) i ((r,λw=>sX P ops.toArray o v a w)::M)=(r,λw=>sX P ops.toArray o v a w)::jH (uX ops []) i M:=by
    simp[jH,nri]
   refine T5 h2 λa' w' hh=> ?_
   obtain⟨⟨u,rfl⟩,hA,hB⟩:=hh;rw[RM]at hA hB;have iM:∀w,sX P ops.toArray o v (a.put oi.dst u) w↔sX P ops.toArray o v a w:=λw=>yHl (hns r o hr) aa0
   refine⟨λm hm=>hA m (kg _ hm),?_⟩;have aaV:(λw=>sX P ops.toArray o v a w)=λw=>sX P ops.toArray o v (a.put oi.dst u) w:=by
    funext w;exact propext (iM w).symm
   rw[aaV]at hA hB;refine ih _ _ _ _ (uL hc hi) (ready_mono K2 (Ne.symm Jo)) (hA _ jm) (λm hm=>hA m (kg _ hm)) ?_;rw[Array.setIfInBounds_comm _ _ Jo];exact hB
end Cv
namespace Cv
open Go
def eW (P:aa) (o:aj) (ρ:Env) (v:ab) (w:ac):Prop:=
 match o.op with
 | .load t x=>
   match ev ρ x with
   | .pointer p=>IQ p λa=>nX P t a w v
   |_=>False
 | .lookup t m k ok=>dS P (cq t (ev ρ m) (ev ρ k) ok) w v
 | .convert s d x=>dS P (ax s d (ev ρ x)) w v
 | .binOp op t x y _=>dS P (do ak op t x y (ev ρ x) (ev ρ y);binOp op t (ev ρ x) (ev ρ y)) w v
 | .call {callee:= .builtin .len,args,argTypes}=>dS P (cf argTypes o.type (args.map (ev ρ))) w v
 | .entry x=>dS P (Instr.entry (ev ρ x)) w v
 |_=>False
def yFc {P:aa} {o:aj} {ρ:Env} {v:ab} {w:ac} (h:eW P o ρ v w):(af (ev ρ) o).run P w= .ok (.value v) w:=by
 unfold eW at h;split at h
 ·rename_i t x ho;split at h
  ·rename_i p hx;obtain⟨a,rfl,h⟩:=pP h;simp only[af,ho,hx];exact yF h
  ·exact h.elim
 ·rename_i t m k ok ho;simp only[af,ho];exact yF h
 ·rename_i s d x ho;simp only[af,ho];exact yF h
 ·rename_i op t x y u ho;simp only[af,ho];exact yF h
 ·rename_i args argTypes ho;simp only[af,ho];exact yF h
 ·rename_i x ho;simp only[af,ho];exact yF h
 ·exact h.elim
def z7l {P:aa} {ρ:Env} {o:aj} {w:ac} {K:ab->Prop} (h:eY P o ρ w K):∃v,K v/\eW P o ρ v w:=by
 cases ho:o.op
 case load t x=>
  simp only[eY,ho]at h;split at h
  ·rename_i p hx;obtain⟨a,rfl,h⟩:=pP h;obtain⟨v,hv,h⟩:=vE h;refine⟨v,h,?_⟩;simp only[eW,ho,hx];exact hv
  ·exact h.elim
 case lookup t m k ok=>
  simp only[eY,ho]at h;split at h
  ·rename_i e he;obtain⟨v,h⟩:=vE h;obtain⟨b,hb,h⟩:=wE h;refine⟨_,h,?_⟩;simp only[eW,ho];cases ok
   ·exact zLn hb
   ·exact hb
  ·exact h.elim
 case convert s d x=>
  simp only[eY,ho]at h;obtain⟨v,hv,h⟩:=vE h;refine⟨v,h,?_⟩;simp only[eW,ho];exact hv
 case binOp op t x y u=>
  simp only[eY,ho]at h;split at h
  ·obtain⟨v,h1,h2,h⟩:=wE h;refine⟨v,h,?_⟩;simp only[eW,ho,dS,bind,run_bind,h2];exact h1
  ·obtain⟨v,h1,h2,h⟩:=wE h;refine⟨v,h,?_⟩;simp only[eW,ho,dS,bind,run_bind,h2];exact h1
  ·exact h.elim
 case call c=>
  simp only[eY,ho]at h;split at h<;>first|exact h.elim|skip
  all_goals first|(exfalso;rename_i hh;cases hh;done)|skip
  rename_i args argTypes hh;cases hh;obtain⟨v,hv,h⟩:=wE h;refine⟨v,h,?_⟩;simp only[eW,ho];exact hv
 case entry x=>
  simp only[eY,ho]at h;obtain⟨v,hv,h⟩:=h;refine⟨v,h,?_⟩;simp only[eW,ho];exact hv
 all_goals(simp only[eY,ho]at h)
def ZL:List Mon->ac->Prop->Prop
 |[],_,X=>X
 |m::ms,w,X=>m.2 w/\ZL ms w X
def zOh:∀{M:List Mon} {w:ac} {X:Prop},ZL M w X->EC M w/\X
 |[],_,_,h=>⟨λm hm=>(by cases hm),h⟩
 |m::ms,w,X,h=>by
  obtain⟨h1,h2⟩:=h;obtain⟨h3,h4⟩:=zOh h2;refine⟨λm' hm=> ?_,h4⟩;rcases mn.1 hm with rfl|hm
  ·exact h1
  ·exact h3 _ hm
def UA:List Nat->(Nat->Prop)->Prop
 |[],_=>True
 |[e],f=>f e
 |e::es,f=>f e/\UA es f
def WB:∀{l:List Nat} {f:Nat->Prop},UA l f->∀i∈l,f i
 |[],_,_,i,hi=>by cases hi
 |[e],f,h,i,hi=>by rcases vm.1 hi with rfl;exact h
 |e::e'::es,f,h,i,hi=>by
  rcases mn.1 hi with rfl|hi
  ·exact h.1
  ·exact WB h.2 i hi
def yPm (P:aa) (ops:List aj) (i:Nat):Bool:=
 match ops[i]? with
 |some o=>match Su P o.op with
  |2=>bu
  |_=>bo
 |none=>bo
def GB (P:aa) (ops:List aj) (bf:List Nat):Nat->Array Bool->List Mon->Env->ac->(Env->ac->Prop)->Prop
 |0,fk,_,ρ,w,K=>
  match cm .any ops.toArray fk with
  |[]=>K ρ w
  |_=>False
 |fuel+1,fk,M,ρ,w,K=>
  match cm .any ops.toArray fk with
  |[]=>K ρ w
  |r::rs=>
   match(r::rs).find? (yPm P ops)with
   |some i=>
    match ops[i]? with
    |none=>False
    |some o=>NL ops o.guard ρ
      (λρ'=>match Su P o.op with
        |0=>cR P o ρ' λv=>GB P ops bf fuel (fk.setIfInBounds i bo) M (put ρ' o.dst v) w K
        |_=>eY P o ρ' w λv=>GB P ops bf fuel (fk.setIfInBounds i bo) ((i,eW P o ρ' v)::M) (put ρ' o.dst v) w K)
      (λρ'=>GB P ops bf fuel (fk.setIfInBounds i bo) M (put ρ' o.dst ao) w K)
   |none=>UA (r::rs) λi=>
    match ops[i]? with
    |none=>False
    |some o=>NL ops o.guard ρ
      (λρ'=>fY P o ρ' w λv w'=>ZL (jH bf i M) w' (GB P ops bf fuel (fk.setIfInBounds i bo) (jH bf i M) (put ρ' o.dst v) w' K))
      (λρ'=>GB P ops bf fuel (fk.setIfInBounds i bo) (jH bf i M) (put ρ' o.dst ao) w K)
def aX {n:Nat} {A:Nat->Bool} {l:List aj} (h:IJ n A l) {i:Nat} {o:aj} (ho:l[i]? =ay o):∀d,o.dst=ay d->d<n/\A d=bo:=
 h o (lq ho)
def mC {P:aa} {ops:Array aj} {bf:List Nat} {Q:Act->ac->Prop} {i:Nat} {f:ac->Prop} (hf:∀w,f w):
 ∀(fuel:Nat) {M:List Mon} (fk:Array Bool) (a:Act) (w:ac),CF P ops bf Q fuel M fk a w->CF P ops bf Q fuel ((i,f)::M) fk a w
 |0,_,_,_,_,h=>h
 |fuel+1,M,fk,a,w,h=>⟨h.1,λj hj=>T5 (h.2 j hj) λa' w' hh=>by
   have hk:jH bf j ((i,f)::M)=if AV bf j i then jH bf j M else(i,f)::jH bf j M:=by
    simp only[jH,List.filter_cons];cases AV bf j i<;>simp
   rw[hk];cases AV bf j i
   ·refine⟨λm hm=> ?_,mC hf fuel _ _ _ hh.2⟩;simp only[oK,if_false,mn]at hm;rcases hm with rfl|hm
    ·exact hf w'
    ·exact hh.1 m hm
   ·exact hh⟩
def z3l {P:aa} {ops:Array aj} {bf:List Nat} {Q:Act->ac->Prop} {i:Nat} {f g:ac->Prop} (hfg:∀w,f w->g w):
 ∀(fuel:Nat) {M:List Mon} (fk:Array Bool) (a:Act) (w:ac),CF P ops bf Q fuel ((i,f)::M) fk a w->CF P ops bf Q fuel ((i,g)::M) fk a w
 |0,_,_,_,_,h=>h
 |fuel+1,M,fk,a,w,h=>⟨h.1,λj hj=>T5 (h.2 j hj) λa' w' hh=>by
   have hk:∀f:ac->Prop,jH bf j ((i,f)::M)=if AV bf j i then jH bf j M else(i,f)::jH bf j M:=by
    intro f;simp only[jH,List.filter_cons];cases AV bf j i<;>simp
   rw[hk]at hh ⊢;cases hb:AV bf j i
   ·rw[hb]at hh;simp only[oK,if_false]at hh ⊢;refine⟨λm hm=> ?_,z3l hfg fuel _ _ _ hh.2⟩;rcases mn.1 hm with rfl|hm
    ·exact hfg w' (hh.1 _ jm)
    ·exact hh.1 m (kg _ hm)
   ·rw[hb]at hh;exact hh⟩
def z6y {P:aa} {ops:List aj} {n:Nat} {A:Nat->Bool} {e0:Env} {K:Env->ac->Prop} {Q:Act->ac->Prop} (oS:tR ops (uX ops [])=bo) (hf:IJ n A ops)
 (hQ:∀a w,Good n A e0 a->K (yM a) w->Q a w):
 ∀(fuel:Nat) (fk:Array Bool) (M:List Mon) (a:Act) (w:ac),eK ops (qK fk)->EC M w->Good n A e0 a->
  GB P ops (uX ops []) fuel fk M (yM a) w K->CF P ops.toArray (uX ops []) Q fuel M fk a w:=by
 intro fuel
 induction fuel with
 |zero=>
  intro fk M a w hc hM pk h;unfold GB at h;split at h
  ·rename_i hr;exact⟨hr,hQ a w pk h⟩
  ·exact h.elim
 |succ fuel ih=>
  intro fk M a w hc hM pk h;unfold GB at h;split at h
  ·rename_i hr;exact⟨λ_=>hQ a w pk h,λi hi=>by rw[hr]at hi;cases hi⟩
  ·rename_i r rs hr;have ji:cm .any ops.toArray fk≠[]:=by rw[hr];simp
   split at h
   ·rename_i i Fu;have hi:i∈cm .any ops.toArray fk:=by rw[hr];exact List.mem_of_find?_eq_some Fu
    split at h<;>first|exact h.elim|skip
    rename_i o ho;have zc:∀v,yM (a.put o.dst v)=put (yM a) o.dst v:=λv=>pk.mf (aX hf ho) v
    have hg:=sK h;have nx:∀{M:List Mon} {v:ab},EC M w->GB P ops (uX ops []) fuel (fk.setIfInBounds i bo) M (put (yM a) o.dst v) w K->
     CF P ops.toArray (uX ops []) Q fuel M (fk.setIfInBounds i bo) (a.put o.dst v) w:=λ{M v} hM hh=>
     ih _ _ _ _ (uL hc hi) hM (pk.put (aX hf ho) _) (by rw[zc];exact hh)
    by_cases hw:co o (yielded ops.toArray a.tmps)=bo
    ·rw[fh hw]at hg;split at hg
     ·obtain⟨v,hk,uj⟩:=gX hg;rw[wL]at uj;have hs:∀w,sX P ops.toArray o v a w:=λw=> .inl ⟨hw,uj w⟩
      exact g8 oS ho fuel M fk a w hc hi (hs w) hM (mC hs fuel _ _ _ (nx hM hk))
     ·obtain⟨v,hk,ln⟩:=z7l hg;have hw':∀w,eW P o (yM a) v w->sX P ops.toArray o v a w:=λw ln=> .inl ⟨hw,by rw[<- wL];exact yFc ln⟩
      refine g8 oS ho fuel M fk a w hc hi (hw' w ln) hM (z3l hw' fuel _ _ _ (nx ?_ hk));intro m hm;rcases mn.1 hm with rfl|hm
      ·exact ln
      ·exact hM m hm
    ·rw[fb hw]at hg;have hs:∀w,sX P ops.toArray o ao a w:=λw=> .inr ⟨by simpa using hw,rfl⟩
     exact g8 oS ho fuel M fk a w hc hi (hs w) hM (mC hs fuel _ _ _ (nx hM hg))
   ·refine⟨λh0=>absurd h0 ji,λi hi=> ?_⟩;have h1:=WB h i (by rw[<- hr];exact hi);split at h1<;>first|exact h1.elim|skip
    rename_i o ho;have zc:∀v,yM (a.put o.dst v)=put (yM a) o.dst v:=λv=>pk.mf (aX hf ho) v
    have hg:=sK h1;unfold D6;simp only[AO,ho];by_cases hw:co o (yielded ops.toArray a.tmps)=bo
    ·rw[fh hw]at hg ⊢;have Bt:=zUf hg;rw[wL]at Bt;refine Bt.mono λv w' hh=> ?_
     obtain⟨CS,hh⟩:=zOh hh;exact⟨CS,ih _ _ _ _ (uL hc hi) CS (pk.put (aX hf ho) _) (by rw[zc];exact hh)⟩
    ·rw[fb hw]at hg ⊢;have CS:EC (jH (uX ops []) i M) w:=λm hm=>hM m (by simp only[jH,uu]at hm;exact hm.1)
     exact⟨CS,ih _ _ _ _ (uL hc hi) CS (pk.put (aX hf ho) _) (by rw[zc];exact hg)⟩
end Cv
namespace Cv
open Go
structure OF where
 ι:Type
 PZ:ι->List (Nat×ab)
 fix:List Nat
def IZ:List (Nat×ab)->Env->Prop
 |[],_=>True
 |[p],ρ=>ρ p.1=p.2
 |p::l,ρ=>ρ p.1=p.2/\IZ l ρ
def D1 {p:Nat×ab} {l:List (Nat×ab)} {ρ:Env}:IZ (p::l) ρ↔ρ p.1=p.2/\IZ l ρ:=by
 cases l<;>simp[IZ]
def UB:List (Nat×ab)->Env->Env
 |[],ρ=>ρ
 |p::l,ρ=>put (UB l ρ) (ay p.1) p.2
def zVn:∀{l:List (Nat×ab)} {ρ:Env},IZ l ρ->UB l ρ=ρ
 |[],_,_=>rfl
 |p::l,ρ,h=>by
  have h:=D1.1 h;simp only[UB];rw[zVn h.2];exact z1q h.1
def pH (s:Nat):List Nat->Bool
 |[]=>bu
 |x::l=>bif cw s x then bo else pH s l
def rz {s:Nat}:∀{l:List Nat},pH s l=bo↔s∈l
 |[]=>by simp[pH]
 |x::l=>by
  simp only[pH];cases hb:cw s x
  ·have ji:s≠x:=λe=>by subst e;simp at hb
   simp[rz,ji]
  ·have:=jb hb;simp[this]
def yJz (fix:List Nat) (ρ j:Env):Env:=λs=>bif pH s fix then ρ s else j s
def z5c {fix:List Nat} {ρ j:Env} (h:∀s∈fix,j s=ρ s):yJz fix ρ j=j:=by
 funext s;simp only[yJz];cases hb:pH s fix
 ·rfl
 ·exact(h s (rz.1 hb)).symm
def ui:Code->List Nat
 | .region _ ops _=>ops.toList.filterMap (·.dst)
 | .seq a b=>ui a++ui b
 | .cond _ a b=>ui a++ui b
 | .block _ a=>ui a
 | .loop a=>ui a
 |_=>[]
def nL:Code->Nat
 | .seq a b=>nL a+nL b
 | .cond _ a b=>nL a+nL b
 | .block _ a=>nL a
 | .loop a=>nL a+1
 |_=>0
def yTr (next:Env->ac->Prop) (Q:Exit->Env->ac->Prop):Exit->Env->ac->Prop
 | .normal,ρ,w=>next ρ w
 |e,ρ,w=>Q e ρ w
def yKz (id:Nat) (Q:Exit->Env->ac->Prop):Exit->Env->ac->Prop
 | .exit ET,ρ,w=>bif cw ET id then Q .normal ρ w else Q (.exit ET) ρ w
 |e,ρ,w=>Q e ρ w
def dq (t:Bool) (A B:Prop):Prop:=
 match t with
 |true=>A
 |false=>B
def dq.mk {t:Bool} {A B:Prop} (h1:t=bo->A) (h2:t=bu->B):dq t A B:=by
 cases t
 ·exact h2 rfl
 ·exact h1 rfl
def Ue (w:ac) (K:ac->Prop):Prop:=∀w',w'=w.drew->K w'
def Et (P:aa):List OF->Code->(Exit->Env->ac->Prop)->Env->ac->Prop
 |_,.skip,Q,ρ,w=>Q .normal ρ w
 |an,.seq a b,Q,ρ,w=>Et P (an.take (nL a)) a (yTr (λρ w=>Et P (an.drop (nL a)) b Q ρ w) Q) ρ w
 |an,.cond c a b,Q,ρ,w=>
  match ev ρ c with
  | .bool t=>dq t (Et P (an.take (nL a)) a Q ρ w) (Et P (an.drop (nL a)) b Q ρ w)
  |_=>False
 |an,.block id a,Q,ρ,w=>Et P an a (yKz id Q) ρ w
 |an,.loop a,Q,ρ,w=>
  match an with
  |[]=>False
  |x::rest=>∃(I:x.ι->ac->Prop) (μ:x.ι->ac->Nat),(∃i0,IZ (x.PZ i0) ρ/\I i0 w)/\
    ∀(j:Env) (i:x.ι) (w1:ac),I i w1->Et P rest a (yTr (λρ' w'=>∃i',IZ (x.PZ i') ρ'/\I i' w'/\μ i' w'<μ i w1) Q) (UB (x.PZ i) (yJz x.fix ρ j)) w1
 |_,.exit id,Q,ρ,w=>Q (.exit id) ρ w
 |_,.ret,Q,ρ,w=>Q .ret ρ w
 |_,.region _ ops d,Q,ρ,w=>bif d then Ue w λw=>GB P ops.toList (uX ops.toList []) ops.toList.length (de ops.toList.length bu) [] ρ w (Q .normal)
    else Oz P ops.toList ops.toList ρ w (Q .normal)
 |_,_,_,_,_=>False
def xb (n:Nat):Code->Bool
 | .region _ ops d=>(ops.toList.all λo=>match o.dst with|none=>bo|some d=>cx d n) && (bif d then tR ops.toList (uX ops.toList [])else bo)
 | .seq a b=>xb n a && xb n b
 | .cond _ a b=>xb n a && xb n b
 | .block _ a=>xb n a
 | .loop a=>xb n a
 |_=>bo
def okF:List OF->Code->Bool
 |an,.seq a b=>okF (an.take (nL a)) a && okF (an.drop (nL a)) b
 |an,.cond _ a b=>okF (an.take (nL a)) a && okF (an.drop (nL a)) b
 |an,.block _ a=>okF an a
 |an,.loop a=>match an with
  |[]=>bu
  |x::rest=>(x.fix.all λs=> !pH s (ui a)) && okF rest a
 |_,_=>bo
def z0r {n:Nat} {A:Nat->Bool} {ops:List aj} (h:(ops.all λo=>match o.dst with|none=>bo|some d=>cx d n)=bo) (hA:∀s∈ops.filterMap (·.dst),A s=bo):IJ n A ops:=by
 intro o ho d hd;have:=DB.1 h o ho;rw[hd]at this;exact⟨by simpa[yf]using this,hA d (M1.2 ⟨o,ho,hd⟩)⟩
def UJ (n:Nat) (A:Nat->Bool) (e0:Env) (Q:Exit->Env->ac->Prop):Exit->Act->ac->Prop:=λe a w=>Good n A e0 a/\Q e (yM a) w
def yEs {P:aa} (hm:P.follows .mixedOrders=bo) {n:Nat}:∀(c:Code) (an:List OF) (Q:Exit->Env->ac->Prop) (A:Nat->Bool) (e0:Env) (a:Act) (w:ac),
 xb n c=bo->okF an c=bo->(∀s∈ui c,A s=bo)->Good n A e0 a->Et P an c Q (yM a) w->c.wp P (UJ n A e0 Q) a w:=by
 intro c
 induction c with
 |skip=>intro an Q A e0 a w _ _ _ hg h;exact wp_skip ⟨hg,h⟩
 |region id ops d=>
  intro an Q A e0 a w hc _ hA hg h;simp only[xb,lr]at hc;have xv:=z0r (A:=A) hc.1 hA;cases d
  ·refine wp_region_list ?_;exact zOp (Q:=UJ n A e0 Q) (K:=Q .normal) (λa w hg h=>⟨hg,h⟩) ops.toList a w xv hg h
  ·refine wp_region_any hm ?_;have h':=h _ rfl;have oS:tR ops.toList (uX ops.toList [])=bo:=hc.2;refine gI (Q:=λa w=>UJ n A e0 Q .normal a w) (λ_ _ h=>h) ops.size _ _ _ (M:=[]) (bf:=uX ops.toList []) ?_;have AJ:eK ops.toList (qK (de ops.toList.length bu)):=by
    intro i o ho hi;exfalso;unfold qK at hi;simp[B8]at hi;rw[UN]at hi;split at hi<;>simp at hi
   have:=z6y (P:=P) (K:=Q .normal) (Q:=λa w=>UJ n A e0 Q .normal a w) oS xv (λa w hg h=>⟨hg,h⟩) ops.toList.length _ [] a _ AJ (λm hm=>by cases hm) hg h';simpa using this
 |seq x y Eg Ef=>
  intro an Q A e0 a w hc hf hA hg h;simp only[xb,okF,lr,ui,pz]at hc hf hA;refine wp_seq (aw (Eg _ _ A e0 a w hc.1 hf.1 (λs hs=>hA s (.inl hs)) hg h) ?_);rintro e a' w' ⟨qd,h'⟩;cases e<;>first|exact Ef _ _ A e0 a' w' hc.2 hf.2 (λs hs=>hA s (.inr hs)) qd h'|exact⟨qd,h'⟩
 |cond c x y Eg Ef=>
  intro an Q A e0 a w hc hf hA hg h;simp only[xb,okF,lr,ui,pz]at hc hf hA;simp only[Et]at h;rw[wL]at h;split at h
  ·rename_i t ht;refine wp_cond_split ht (λe=> ?_) (λe=> ?_)
   ·subst e;exact Eg _ _ A e0 a w hc.1 hf.1 (λs hs=>hA s (.inl hs)) hg h
   ·subst e;exact Ef _ _ A e0 a w hc.2 hf.2 (λs hs=>hA s (.inr hs)) hg h
  ·exact h.elim
 |block id x ih=>
  intro an Q A e0 a w hc hf hA hg h;refine wp_block (aw (ih an _ A e0 a w hc hf hA hg h) ?_);rintro e a' w' ⟨qd,h'⟩;cases e<;>first|exact⟨qd,h'⟩|skip
  rename_i ET;simp only[Exit.inBlock];simp only[yKz]at h';split
  ·rename_i heq;subst heq;rw[Nat.beq_refl]at h';exact⟨qd,h'⟩
  ·rename_i ji;have hb:cw ET id=bu:=by
    cases hb:cw ET id with
    |false=>rfl
    |true=>exact absurd (jb hb) ji
   rw[hb]at h';exact⟨qd,h'⟩
 |loop x ih=>
  intro an Q A e0 a w hc hf hA hg h;cases an with
  |nil=>exact h.elim
  |cons an rest=>
   simp only[okF,lr]at hf;obtain⟨I,μ,⟨i0,U',hi0⟩,tx⟩:=h;refine wp_loop_ghost (λm a' w'=>Good n A e0 a'/\(∀s∈an.fix,yM a' s=yM a s)/\∃i,IZ (an.PZ i) (yM a')/\I i w'/\μ i w'=m) (μ i0 w) ⟨hg,λ_ _=>rfl,i0,U',hi0,rfl⟩ ?_;rintro m a' w' ⟨qd,DU,i,aaE,hI,rfl⟩;have h1:=tx (yM a') i w' hI;rw[z5c DU,zVn aaE]at h1;have PC:Good n (λs=>A s && pH s (ui x)) (yM a') a':=⟨qd.size,qd.defers,λ_ _=>rfl⟩
   refine aw (ih rest _ (λs=>A s && pH s (ui x)) (yM a') a' w' hc hf.2 (λs hs=>by rw[hA s hs,rz.2 hs];rfl) PC h1) ?_;rintro e a2 w2 ⟨yz,h2⟩;have Jq:Good n A e0 a2:=⟨yz.size,yz.defers,λs hs=>by rw[yz.same s (by simp[hs]),qd.same s hs]⟩
   cases e<;>first|exact⟨Jq,h2⟩|skip
   obtain⟨i',iM,hI',gv⟩:=h2;refine⟨_,gv,Jq,λs hs=> ?_,i',iM,hI',rfl⟩;have:=DB.1 hf.1 s hs;rw[yz.same s (by simp at this;simp[this]),DU s hs]
 |exit id=>intro an Q A e0 a w _ _ _ hg h;exact wp_exit ⟨hg,h⟩
 |ret=>intro an Q A e0 a w _ _ _ hg h;exact wp_ret ⟨hg,h⟩
 |rangeFunc f ps x y Eg Ef=>intro an Q A e0 a w _ _ _ hg h;exact h.elim
 |scope x ih=>intro an Q A e0 a w _ _ _ hg h;exact h.elim
 |label l=>intro an Q A e0 a w _ _ _ hg h;exact h.elim
 |goto l=>intro an Q A e0 a w _ _ _ hg h;exact h.elim
 |refuse s=>intro an Q A e0 a w _ _ _ hg h;exact h.elim
end Cv
namespace Cv
open Go
def bs (l:List Nat):ByteArray:=⟨(l.map Nat.toUInt8).toArray⟩
def KJ (P:aa):List ResultVar->Env->ac->(List ab->Prop)->Prop
 |[],_,_,K=>K []
 | .tmp t::rs,ρ,w,K=>KJ P rs ρ w λvs=>K (ρ t::vs)
 | .cell a t::rs,ρ,w,K=>
   match ρ a with
   | .pointer p=>IQ p λad=>Er P t λv=>nX P t ad w v/\KJ P rs ρ w λvs=>K (v::vs)
   |_=>False
def Hl:List ab->ab
 |[v]=>v
 |vs=> .tuple vs.toArray
def Sk (P:aa) (fn:Func) (R:Ending->ac->Prop):Exit->Env->ac->Prop
 | .normal,ρ,w=>KJ P fn.results.toList ρ w λvs=>R (.returned (Hl vs)) w
 | .ret,ρ,w=>KJ P fn.results.toList ρ w λvs=>R (.returned (Hl vs)) w
 |_,_,_=>False
def hJ (args:List ab):Env:=λi=>args.getD i ao
def Hb (tmps:Array ab):ResultVar->Sem ab
 | .tmp t=>pure (tmps.getD t ao)
 | .cell a t=>(asAddr (tmps.getD a ao)).bind λad=>loadVar t ad
def W4 {P:aa} {tmps:Array ab} {w:ac}:∀{rs:List ResultVar} {K:List ab->Prop},KJ P rs (λi=>tmps.getD i ao) w K->
 ∃vs,(rs.mapM (Hb tmps)).run P w= .ok vs w/\K vs
 |[],K,h=>⟨[],rfl,h⟩
 | .tmp t::rs,K,h=>by
   obtain⟨vs,h1,h3⟩:=W4 (rs:=rs) h;refine⟨_::vs,?_,h3⟩;simp only[dd,Hb,bind,pure,run_bind,be,bc]at h1 ⊢;rw[h1]
 | .cell a t::rs,K,h=>by
   simp only[KJ]at h;split at h
   ·rename_i p hp;obtain⟨ad,rfl,h⟩:=pP h;obtain⟨v,hv,h⟩:=vE h;obtain⟨vs,h1,h3⟩:=W4 (rs:=rs) h;refine⟨v::vs,?_,h3⟩;simp only[dd,Hb,bind,pure,run_bind,be,bc,hp,asAddr]at h1 ⊢;rw[hv];simp only[h1]
   ·exact h.elim
def zLm {P:aa} {tmps:Array ab} {w:ac} {vs:List ab} {rs:List ResultVar} (h:(rs.mapM (Hb tmps)).run P w= .ok vs w) (F:ResultVar->Sem ab) (hF:∀r,F r=Hb tmps r):
 ((rs.mapM F).bind λvs=>bg (if h:vs.toArray.size=1 then vs.toArray[0]else .tuple vs.toArray)).run P w= .ok (Hl vs) w:=by
 obtain rfl:F=Hb tmps:=funext hF;rw[run_bind,h];simp only[bc];cases vs with
 |nil=>rfl
 |cons v vs=>
  cases vs with
  |nil=>rfl
  |cons u us=>simp[Hl]
def zLr {P:aa} {fn:Func} {tmps:Array ab} {w:ac} {K:ab->Prop} (h:KJ P fn.results.toList (λi=>tmps.getD i ao) w λvs=>K (Hl vs)):
 ∃v,(results fn tmps).run P w= .ok v w/\K v:=by
 obtain⟨vs,h1,h3⟩:=W4 h;refine⟨Hl vs,?_,h3⟩;unfold results;rw[Array.mapM_eq_mapM_toList,map_eq_pure_bind,bind_assoc];exact zLm h1 _ (λr=>by cases r<;>rfl)
def uq {P:aa} {f:av} {fn:Func} {c:Code} {args:List ab} {w:ac} {R:Ending->ac->Prop} (hm:P.follows .mixedOrders=bo)
 (hf:P.funcs[f]? =ay fn) (hb:fn.body=ay c) (an:List OF) (oS:xb fn.ntmps c=bo) (K5:okF an c=bo) (aaA:cy args.length fn.ntmps=bo)
 (h:Et P an c (Sk P fn R) (hJ args) w):Calls P f args.toArray w R:=by
 have oZ:=BL aaA;refine calls_of_wp hf hb ?_;have hg:Good fn.ntmps (λ_=>bo) (hJ args) {tmps:=args.toArray++de (fn.ntmps-args.toArray.size) ao,defers:=[]}:=
  ⟨by simp;omega,rfl,λs hs=>by cases hs⟩
 have Ly:yM {tmps:=args.toArray++de (fn.ntmps-args.toArray.size) ao,defers:=[]}=hJ args:=by
  funext i;simp only[yM,hJ,B8,nk,Array.getElem?_append];split
  ·simp
  ·rename_i gv;simp at gv;rw[ue gv,UN];split<;>rfl
 refine aw (yEs hm c an _ (λ_=>bo) (hJ args) _ w oS K5 (λ_ _=>rfl) hg (Ly▸h)) ?_;rintro e a' w' ⟨qd,h'⟩;cases e<;>first|exact h'.elim|skip
 ·obtain⟨v,hv,hk⟩:=zLr (K:=λv=>R (.returned v) w') h';exact⟨qd.defers,v,hv,hk⟩
 ·obtain⟨v,hv,hk⟩:=zLr (K:=λv=>R (.returned v) w') h';exact⟨qd.defers,v,hv,hk⟩
def zLz {P:aa} {f:av} {fn:Func} {c:Code} {args:List ab} {w:ac} {R:Ending->ac->Prop} {V:Prop} (hm:P.follows .mixedOrders=bo)
 (hf:P.funcs[f]? =ay fn) (hb:fn.body=ay c) (an:List OF) (oS:xb fn.ntmps c=bo) (K5:okF an c=bo) (oZ:cy args.length fn.ntmps=bo)
 (e:V=Et P an c (Sk P fn R) (hJ args) w) (h:V):Calls P f args.toArray w R:=
 uq hm hf hb an oS K5 oZ (e▸h)
end Cv
namespace Cv
open Go Go.RowKit
@[reducible] def PH:=Nat->Option Obj
@[reducible] def HP:=PH->Prop
def pe:PH:=λ_=>az
def one (b:Nat) (o:Obj):PH:=λx=>if x=b then ay o else az
def Dj (g h:PH):Prop:=∀b,g b=az\/h b=az
def Sub (h:PH) (w:ac):Prop:=∀b o,h b=ay o->w.heap[b]?=ay o
def un (g h:PH):PH:=λb=>match g b with|some o=>ay o|none=>h b
def Dj.symm {g h:PH} (d:Dj g h):Dj h g:=λb=>(d b).symm
def Dj.pe (h:PH):Dj pe h:=λ_=> .inl rfl
def z8x {g g' h:PH} (d:Dj g h) (d':Dj g' h):Dj (un g g') h:=λb=>by
 rcases d b with e|e
 ·rcases d' b with e'|e'
  ·left;simp[un,e,e']
  ·exact .inr e'
 ·exact .inr e
def zOg {g g' h:PH} (d:Dj (un g g') h) (dg:Dj g g'):Dj g h/\Dj g' h:=by
 refine⟨λb=> ?_,λb=> ?_⟩
 ·rcases d b with e|e
  ·left;simp only[un]at e;cases hg:g b with
   |none=>rfl
   |some o=>rw[hg]at e;cases e
  ·exact .inr e
 ·rcases d b with e|e
  ·left;simp only[un]at e;cases hg:g b with
   |none=>rw[hg]at e;exact e
   |some o=>rw[hg]at e;cases e
  ·exact .inr e
def yGv {g h:PH} {w:ac} (a:Sub g w) (b:Sub h w):Sub (un g h) w:=λx o e=>by
 simp only[un]at e;cases hg:g x with
 |some o'=>rw[hg]at e;cases e;exact a x _ hg
 |none=>rw[hg]at e;exact b x o e
def yFx {g h:PH} {w:ac} (s:Sub (un g h) w) (d:Dj g h):Sub g w/\Sub h w:=by
 refine⟨λx o e=>s x o (by simp[un,e]),λx o e=>s x o ?_⟩;rcases d x with e'|e'
 ·simp[un,e',e]
 ·rw[e]at e';cases e'
def Sub.pe (w:ac):Sub Cv.pe w:=λ_ _ e=>by cases e
def Sub.lt {h:PH} {w:ac} (s:Sub h w) {b:Nat} (hb:h b≠az):b<w.heap.size:=by
 cases e:h b with
 |none=>exact absurd e hb
 |some o=>
  have:=s b o e;rcases ur b w.heap.size with h'|h'
  ·exact h'
  ·rw[GI h']at this;cases this
structure Ko where
 os:Os
 tape:Nat->Question->Nat
 output:Array (Nat×ByteArray)
def ko (w:ac):Ko:=⟨w.os,w.tape,w.output⟩
def Kon (k:Ko) (w:ac):Prop:=w.os=k.os/\w.tape=k.tape/\w.output=k.output
inductive Hs (w:ac):List HP->List PH->Prop
 |nil:Hs w [] []
 |cons {A:HP} {h:PH} {L:List HP} {hs:List PH}:A h->Sub h w->(∀g∈hs,Dj h g)->Hs w L hs->Hs w (A::L) (h::hs)
def Hp (k:Ko) (w:ac) (L:List HP):Prop:=Kon k w/\∃hs,Hs w L hs
def Sat (w:ac) (A:HP):Prop:=∃h,A h/\Sub h w
def Hs.perm {w:ac} {L L':List HP} (p:L.Perm L'):∀{hs:List PH},Hs w L hs->∃iM,Hs w L' iM/\hs.Perm iM:=by
 induction p with
 |nil=>intro hs h;cases h;exact⟨[],.nil,.nil⟩
 |cons A _ ih=>
  intro hs h;cases h with
  |cons ha iY hd hr=>
   obtain⟨iM,h1,h2⟩:=ih hr;exact⟨_,.cons ha iY (λg hg=>hd g (h2.mem_iff.2 hg)) h1,.cons _ h2⟩
 |swap A B L=>
  intro hs h;cases h with
  |cons hb hbs BQ hr=>
   cases hr with
   |cons ha has had hr=>
    refine⟨_,.cons ha has ?_ (.cons hb hbs (λg hg=>BQ g (kg _ hg)) hr),.swap _ _ _⟩;intro g hg;rcases mn.1 hg with rfl|hg
    ·exact(BQ _ jm).symm
    ·exact had g hg
 |trans _ _ U4 U3=>
  intro hs h;obtain⟨uh,h1,p1⟩:=U4 h;obtain⟨zp,h2,p2⟩:=U3 h1;exact⟨zp,h2,p1.trans p2⟩
def Hp.perm {k:Ko} {w:ac} {L L':List HP} (H:Hp k w L) (p:L.Perm L'):Hp k w L':=
 ⟨H.1,let⟨_,h⟩:=H.2;let⟨iM,h',_⟩:=h.perm p;⟨iM,h'⟩⟩
def Hp.drop {k:Ko} {w:ac} {A:HP} {L:List HP} (H:Hp k w (A::L)):Hp k w L:=by
 obtain⟨hk,hs,hh⟩:=H;cases hh with
 |cons _ _ _ hr=>exact⟨hk,_,hr⟩
def Hp.sat {k:Ko} {w:ac} {A:HP} {L:List HP} (H:Hp k w (A::L)):Sat w A:=by
 obtain⟨hk,hs,hh⟩:=H;cases hh with
 |cons ha iY _ _=>exact⟨_,ha,iY⟩
def Hp.imp {k:Ko} {w:ac} {A B:HP} {L:List HP} (H:Hp k w (A::L)) (h:∀x,A x->B x):Hp k w (B::L):=by
 obtain⟨hk,hs,hh⟩:=H;cases hh with
 |cons ha iY hd hr=>exact⟨hk,_,.cons (h _ ha) iY hd hr⟩
def pt (b:Nat) (o:Obj):HP:=λh=>h=one b o
def hPu (p:Prop):HP:=λh=>p/\h=pe
def PO (A B:HP):HP:=λh=>∃g g',A g/\B g'/\Dj g g'/\h=un g g'
def hS:List HP->HP
 |[]=>λh=>h=pe
 |[A]=>A
 |A::L=>PO A (hS L)
def h9 {k:Ko} {w:ac} {p:Prop} {L:List HP}:Hp k w (hPu p::L)↔p/\Hp k w L:=by
 constructor
 ·rintro⟨hk,hs,hh⟩;cases hh with
  |cons ha iY hd hr=>exact⟨ha.1,hk,_,hr⟩
 ·rintro⟨hp,hk,hs,hh⟩;exact⟨hk,_,.cons ⟨hp,rfl⟩ (Sub.pe w) (λg _=>Dj.pe g) hh⟩
def uo {k:Ko} {w:ac} {A B:HP} {L:List HP}:Hp k w (PO A B::L)↔Hp k w (A::B::L):=by
 constructor
 ·rintro⟨hk,hs,hh⟩;cases hh with
  |cons ha iY hd hr=>
   obtain⟨g,g',h1,h2,h3,rfl⟩:=ha;obtain⟨s1,s2⟩:=yFx iY h3;refine⟨hk,_,.cons h1 s1 ?_ (.cons h2 s2 (λx hx=>(zOg (hd x hx) h3).2) hr)⟩;intro x hx;rcases mn.1 hx with rfl|hx
   ·exact h3
   ·exact(zOg (hd x hx) h3).1
 ·rintro⟨hk,hs,hh⟩;cases hh with
  |cons h1 s1 d1 hr=>
   cases hr with
   |cons h2 s2 d2 hr=>
    exact⟨hk,_,.cons ⟨_,_,h1,h2,d1 _ jm,rfl⟩ (yGv s1 s2) (λx hx=>z8x (d1 x (kg _ hx)) (d2 x hx)) hr⟩
def yJi {k:Ko} {w:ac} {L:List HP}:Hp k w (hS []::L)↔Hp k w L:=by
 have e:hS []=hPu True:=by funext h;simp[hS,hPu]
 rw[e,h9];exact⟨λh=>h.2,λh=>⟨trivial,h⟩⟩
def yHi {k:Ko} {w:ac} {A B:HP} {l L:List HP}:Hp k w (hS (A::B::l)::L)↔Hp k w (A::hS (B::l)::L):=uo
def Hp.swap {k:Ko} {w:ac} {A B:HP} {L:List HP} (H:Hp k w (A::B::L)):Hp k w (B::A::L):=H.perm (.swap _ _ _)
def Hp.cons {k:Ko} {w:ac} {A:HP} {L L':List HP} (H:Hp k w (A::L)) (p:L.Perm L'):Hp k w (A::L'):=H.perm (.cons _ p)
def qp {k:Ko} {w:ac}:∀{l L:List HP},Hp k w (hS l::L)↔Hp k w (l++L)
 |[],L=>yJi
 |[A],L=>Iff.rfl
 |A::B::l,L=>by
  rw[yHi];constructor
  ·intro h;have h1:=(qp (l:=B::l) (L:=A::L)).1 h.swap;refine h1.perm ?_;exact mo
  ·intro h;have h1:Hp k w ((B::l)++(A::L)):=h.perm (mo (l₁:=B::l)).symm;exact((qp (l:=B::l) (L:=A::L)).2 h1).swap
def Hs.move {w w':ac} (h:∀(x:PH),Sub x w->Sub x w'):∀{L:List HP} {hs:List PH},Hs w L hs->Hs w' L hs
 |_,_,.nil=> .nil
 |_,_,.cons ha iY hd hr=> .cons ha (h _ iY) hd (hr.move h)
def XY {w w':ac} (h:Below w.heap.size w w') {x:PH} (s:Sub x w):Sub x w':=λb o e=>by
 rw[h.block b (s.lt (by rw[e];simp))];exact s b o e
def zTx {k:Ko} {B:Nat} {w w':ac} (h:Below B w w') (hk:Kon k w):Kon k w':=⟨h.os.trans hk.1,h.tape.trans hk.2.1,h.output.trans hk.2.2⟩
def Hp.below {k:Ko} {w w':ac} {L:List HP} (H:Hp k w L) (h:Below w.heap.size w w'):Hp k w' L:=
 ⟨zTx h H.1,let⟨hs,hh⟩:=H.2;⟨hs,hh.move λ_ s=>XY h s⟩⟩
def Sat.below {w w':ac} {A:HP} (H:Sat w A) (h:Below w.heap.size w w'):Sat w' A:=let⟨x,a,s⟩:=H;⟨x,a,XY h s⟩
def Hp.drew {k:Ko} {w:ac} {L:List HP} (H:Hp k w L):Hp k w.drew L:=H.below ((Below.refl _ _).drew)
def Hp.new {k:Ko} {w:ac} {L:List HP} (H:Hp k w L) (o:Obj):Hp k (w.alloc o) (pt w.heap.size o::L):=by
 have hb:Below w.heap.size w (w.alloc o):=(Below.refl _ _).alloc (lk _) o;obtain⟨hk,hs,hh⟩:=H;refine⟨zTx hb hk,_,.cons rfl ?_ ?_ (hh.move λ_ s=>XY hb s)⟩
 ·intro b o' e;simp only[one]at e;split at e
  ·rename_i An;subst An;cases e;exact heap_alloc_new w o
  ·cases e
 ·intro g hg;have iY:∀{L:List HP} {hs:List PH},Hs w L hs->∀g∈hs,Sub g w:=by
   intro L hs hh
   induction hh with
   |nil=>intro g hg;cases hg
   |cons _ hs _ _ ih=>
    intro g hg;rcases mn.1 hg with rfl|hg
    ·exact hs
    ·exact ih g hg
  intro b;by_cases An:b=w.heap.size
  ·right;cases hgb:g b with
   |none=>rfl
   |some o'=>
    have:=(iY hh g hg).lt (b:=b) (by rw[hgb];simp);omega
  ·left;simp[one,An]
def World.iX (w:ac) (b:Nat) (o:Obj):ac:={w with heap:=w.heap.setIfInBounds b o}
def Hp.get {k:Ko} {w:ac} {b:Nat} {o:Obj} {L:List HP} (H:Hp k w (pt b o::L)):w.heap[b]? =ay o:=by
 obtain⟨h,rfl,s⟩:=H.sat;exact s b o (by simp[one])
def Hp.yt {k:Ko} {w:ac} {b:Nat} {o:Obj} {L:List HP} (H:Hp k w (pt b o::L)) (o':Obj):Hp k (World.iX w b o') (pt b o'::L):=by
 have kf:=H.get;obtain⟨hk,hs,hh⟩:=H;cases hh with
 |cons ha iY hd hr=>
  cases ha;have gv:b<w.heap.size:=iY.lt (b:=b) (by simp[one]);rename_i hs;have s0:Sub (one b o') (World.iX w b o'):=by
   intro x o2 e;simp only[one]at e;split at e
   ·rename_i hx;subst hx;cases e;simp[World.iX,UQ gv]
   ·cases e
  have d0:∀g∈hs,Dj (one b o') g:=by
   intro g hg x;rcases hd g hg x with e|e
   ·left;simp only[one]at e ⊢;split at e<;>simp_all
   ·exact .inr e
  have key:∀{L:List HP} {hs:List PH},Hs w L hs->(∀g∈hs,Dj (one b o) g)->Hs (World.iX w b o') L hs:=by
   intro L hs hh
   induction hh with
   |nil=>intro _;exact .nil
   |cons ha iM oL _ ih=>
    intro GX;refine .cons ha ?_ oL (ih λg hg=>GX g (kg _ hg));intro x o2 e;have ji:x≠b:=by
     intro hx;subst hx;rcases GX _ jm x with e'|e'
     ·simp[one]at e'
     ·rw[e]at e';cases e'
    simp only[World.iX];rw[UP (Ne.symm ji)];exact iM x o2 e
  exact⟨hk,_,.cons rfl s0 d0 (key hr hd)⟩
def base (w0:ac):HP:=λh=>h=λb=>w0.heap[b]?
def Hp.start (w:ac):Hp (Cv.ko w) w [base w]:=⟨⟨rfl,rfl,rfl⟩,_,.cons rfl (λ_ _ e=>e) (λg hg=>by cases hg) .nil⟩
end Cv
namespace Cv
open Go Go.RowKit
def uD (b o n:Nat):(⟨b,o,az⟩:am).add n=⟨b,o+n,az⟩:=by
 unfold Addr.add;split
 ·rename_i h;subst h;rfl
 ·rfl
def B1 (P:aa) (t:ae):Bool:=
 match P.underlying t with
 |some (.struct _)=>bu
 |some (.array _ _)=>bu
 |some _=>bo
 |none=>bu
def D' (P:aa) (t:ae):Option Nat:=
 match P.underlying t with
 |some (.struct _)=>(P.info? t).map λ(x:TypeInfo)=>x.size
 |some (.array _ _)=>(P.info? t).map λ(x:TypeInfo)=>x.size
 |_=>az
def mP {P:aa} {t:ae} (h:B1 P t=bo) (w:ac):(isAgg t).run P w= .ok bu w:=by
 unfold B1 at h;cases hd:P.underlying t with
 |none=>rw[hd]at h;cases h
 |some d=>
  rw[hd]at h;unfold isAgg;simp only[bind,run_bind,run_underlying hd];cases d<;>first|rfl|(simp at h)
def c8 {P:aa} {t:ae} {n:Nat} (h:D' P t=ay n) (w:ac):(isAgg t).run P w= .ok bo w/\(Go.sizeOf t).run P w= .ok n w:=by
 unfold D' at h;cases hd:P.underlying t with
 |none=>rw[hd]at h;cases h
 |some d=>
  rw[hd]at h;cases d<;>simp only[reduceCtorEq]at h
  all_goals
   cases hi:P.info? t with
   |none=>rw[hi]at h;cases h
   |some i=>
    rw[hi]at h;simp only[we,ct]at h;subst h;refine⟨?_,run_sizeOf hi w⟩;unfold isAgg;simp only[bind,run_bind,run_underlying hd];rfl
def z2e {P:aa} {w:ac} {a:am} {v:ab} (h:w.cell? a=ay v):(load a).run P w= .ok v w:=by
 simp only[load,bc,h]
def TE {w:ac} {b o:Nat} {l:List ab} {T:ae} {fr:Nat×Nat} (hb:w.heap[b]? =ay (.cells l.toArray T fr)):w.cell? ⟨b,o,az⟩=l[o]? :=by
 simp[World.cell?,hb]
def vC {P:aa} {t:ae} {w:ac} {b o:Nat} {l:List ab} {T:ae} {fr:Nat×Nat} {v:ab} (hs:B1 P t=bo)
 (hb:w.heap[b]? =ay (.cells l.toArray T fr)) (hc:l[o]? =ay v):nX P t ⟨b,o,az⟩ w v:=by
 unfold nX loadVar;simp only[bind,run_bind,mP hs,oK,if_false];exact z2e ((TE hb).trans hc)
def nQ {P:aa} {w:ac} {b o:Nat} {l:List ab} {T:ae} {fr:Nat×Nat} (hb:w.heap[b]? =ay (.cells l.toArray T fr)):
 ∀(n i:Nat) (acc:Array ab),o+i+n<=l.length->(loadCellsFrom ⟨b,o,az⟩ i n acc).run P w= .ok (acc++((l.drop (o+i)).take n).toArray) w
 |0,i,acc,_=>by simp[loadCellsFrom,pure,bc]
 |n+1,i,acc,h=>by
  have gv:o+i<l.length:=by omega
  have hc:w.cell? ⟨b,o+i,az⟩=ay l[o+i]:=by rw[TE hb];exact vd gv
  unfold loadCellsFrom;simp only[bind,run_bind,uD,z2e hc];rw[nQ hb n (i+1) _ (by omega)];congr 1;rw[DC gv,vo];simp[CH]
def gN {P:aa} {w:ac} {b o n:Nat} {l:List ab} {T:ae} {fr:Nat×Nat} (hb:w.heap[b]? =ay (.cells l.toArray T fr)) (h:o+n<=l.length):
 (loadCells ⟨b,o,az⟩ n).run P w= .ok ((l.drop o).take n).toArray w:=by
 unfold loadCells;rw[nQ hb n 0 #[] (by omega)];simp
def TC {P:aa} {t:ae} {w:ac} {b o n:Nat} {l vs:List ab} {T:ae} {fr:Nat×Nat} (hs:D' P t=ay n)
 (hb:w.heap[b]? =ay (.cells l.toArray T fr)) (hc:(l.drop o).take n=vs) (hl:vs.length=n):nX P t ⟨b,o,az⟩ w (.agg vs.toArray):=by
 unfold nX loadVar;have hlen:o+n<=l.length\/n=0:=by
  subst hc;simp only[om,pd]at hl;omega
 simp only[bind,run_bind,(c8 hs w).1,if_true,(c8 hs w).2];rcases hlen with hlen|h0
 ·rw[gN hb hlen,hc];rfl
 ·subst h0;have:vs=[]:=yh hl;subst this;rfl
def _root_.Go.Value.og:ab->Bool
 | .agg _=>bu
 | .tuple _=>bu
 |_=>bo
def kj (l:List ab) (o:Nat) (vs:List ab):List ab:=l.take o++vs++l.drop (o+vs.length)
def yFu (w:ac) (b:Nat) (x y:Obj):World.iX (World.iX w b x) b y=World.iX w b y:=by
 simp[World.iX,Array.setIfInBounds_setIfInBounds]
def z7w {P:aa} {w:ac} {b o:Nat} {l:List ab} {T:ae} {v:ab} (hb:w.heap[b]? =ay (.cells l.toArray T (0,0))) (ho:o<l.length) (hv:v.og=bo):
 (store ⟨b,o,az⟩ v).run P w= .ok () (World.iX w b (.cells (l.set o v).toArray T (0,0))):=by
 have hc:w.cell? ⟨b,o,az⟩=ay l[o]:=by rw[TE hb];exact vd ho
 have hf:w.frozen? ⟨b,o,az⟩=bu:=by simp[World.frozen?,hb]
 have qh:w.setCell ⟨b,o,az⟩ v=World.iX w b (.cells (l.set o v).toArray T (0,0)):=by
  unfold World.setCell World.iX;congr 1;apply OQ;intro i;rw[Array.getElem?_modify,O7];have gv:b<w.heap.size:=by
   rcases ur b w.heap.size with h|h
   ·exact h
   ·rw[GI h]at hb;cases hb
  by_cases hi:b=i
  ·subst hi;have nh:w.heap[b]= .cells l.toArray T (0,0):=by rw[OZ gv]at hb;exact cu hb
   simp[gv,nh]
  ·simp[hi]
 unfold store;cases v<;>first|(cases hv;done)|(simp only[bc,hc,hf,oK,if_false,qh])
def SF {l:List ab} {p:Nat} {v:ab} {vs:List ab} (h:p<l.length):kj (l.set p v) (p+1) vs=kj l p (v::vs):=by
 have h1:(l.set p v).take (p+1)=l.take p++[v]:=by
  rw[M8,fh h];rw[List.take_append,om];simp[GD (Nat.le_of_lt h),List.take_take]
 have h2:(l.set p v).drop (p+1+vs.length)=l.drop (p+(v::vs).length):=by
  rw[List.drop_set_of_lt (by omega)];congr 1;simp only[iJ];omega
 simp only[kj,h1,h2,jh,List.singleton_append]
def wI {P:aa} {b:Nat} {T:ae}:∀(vs:List ab) (i o:Nat) (l:List ab) (w:ac),w.heap[b]? =ay (.cells l.toArray T (0,0))->o+i+vs.length<=l.length->
 (∀v∈vs,v.og=bo)->(storeCells ⟨b,o,az⟩ vs i).run P w= .ok () (World.iX w b (.cells (kj l (o+i) vs).toArray T (0,0)))
 |[],i,o,l,w,hb,h,_=>by
  have gv:b<w.heap.size:=by
   rcases ur b w.heap.size with h|h
   ·exact h
   ·rw[GI h]at hb;cases hb
  have:World.iX w b (.cells (kj l (o+i) []).toArray T (0,0))=w:=by
   have e:kj l (o+i) []=l:=by simp[kj]
   rw[e];unfold World.iX;have:w.heap.setIfInBounds b (.cells l.toArray T (0,0))=w.heap:=by
    apply OQ;intro j;rw[O7];split
    ·rename_i hj;subst hj;rw[hb]
    ·rfl
   rw[this]
  unfold storeCells;rw[this];rfl
 |v::vs,i,o,l,w,hb,h,hv=>by
  have gv:b<w.heap.size:=by
   rcases ur b w.heap.size with h|h
   ·exact h
   ·rw[GI h]at hb;cases hb
  simp only[iJ]at h;unfold storeCells;simp only[bind,run_bind,uD,z7w hb (show o+i<l.length by omega) (hv v jm)];have An:(World.iX w b (.cells (l.set (o+i) v).toArray T (0,0))).heap[b]? =ay (.cells (l.set (o+i) v).toArray T (0,0)):=by
   simp[World.iX,UQ gv]
  rw[wI vs (i+1) o (l.set (o+i) v) _ An (by rw[qv];omega) (λu hu=>hv u (kg _ hu)),yFu];rw[show o+(i+1)=o+i+1 by omega,SF (show o+i<l.length by omega)]
end Cv
namespace Cv
open Go Go.RowKit
def oq (e sz:Nat) (a:Option am) (n k:Nat) (xs:List ab):HP:=λh=>
 (a=az/\n=0/\k=0/\xs=[]/\h=pe)\/
 ∃b r,a=ay ⟨b,0,az⟩/\h=one b (.cells (xs++r).toArray e)/\xs.length=n*sz/\(xs++r).length=k*sz/\n<=k
def EO (sz:Nat) (a:Option am) (n k:Nat) (xs:List ab):HP:=λh=>
 (n=0/\xs=[]/\h=pe)\/
 ∃(b o:Nat) (l:List ab) (T:ae) (fr:Nat×Nat),a=ay ⟨b,o,az⟩/\h=one b (.cells l.toArray T fr)/\(l.drop o).take (n*sz)=xs/\xs.length=n*sz/\n<=k
def mG {e sz:Nat} {a:Option am} {n k:Nat} {xs:List ab} {h:PH} (H:oq e sz a n k xs h):EO sz a n k xs h:=by
 rcases H with⟨rfl,rfl,rfl,rfl,rfl⟩|⟨b,r,rfl,rfl,h1,h2,h3⟩
 ·exact .inl ⟨rfl,rfl,rfl⟩
 ·right;exact⟨b,0,_,e,_,rfl,rfl,by rw[DA,<- h1];simp,h1,h3⟩
def Hp.Ib {k:Ko} {w:ac} {e sz:Nat} {a:Option am} {n c:Nat} {xs:List ab} {L:List HP} (H:Hp k w (oq e sz a n c xs::L)):Sat w (EO sz a n c xs):=by
 obtain⟨h,hh,s⟩:=H.sat;exact⟨h,mG hh,s⟩
def Hp.oC {k:Ko} {w:ac} {e sz:Nat} {a:Option am} {n c:Nat} {xs:List ab} {L:List HP} (H:Hp k w (oq e sz a n c xs::L)):
 (a=az/\n=0/\c=0/\xs=[]/\Hp k w L)\/
 ∃b r,a=ay ⟨b,0,az⟩/\xs.length=n*sz/\(xs++r).length=c*sz/\n<=c/\Hp k w (pt b (.cells (xs++r).toArray e)::L):=by
 obtain⟨hk,hs,hh⟩:=H;cases hh with
 |cons ha iY hd hr=>
  rcases ha with⟨h1,h2,h3,h4,h5⟩|⟨b,r,h1,h2,h3,h4,h5⟩
  ·exact .inl ⟨h1,h2,h3,h4,hk,_,hr⟩
  ·subst h2;exact .inr ⟨b,r,h1,h3,h4,h5,hk,_,.cons rfl iY hd hr⟩
def Hp.As {k:Ko} {w:ac} {e sz b n c:Nat} {xs r:List ab} {L:List HP} (H:Hp k w (pt b (.cells (xs++r).toArray e)::L)) (h1:xs.length=n*sz) (h2:(xs++r).length=c*sz) (h3:n<=c):
 Hp k w (oq e sz (ay ⟨b,0,az⟩) n c xs::L):=H.imp λx hx=> .inr ⟨b,r,rfl,hx,h1,h2,h3⟩
def z8q (e sz:Nat):oq e sz az 0 0 [] pe:= .inl ⟨rfl,rfl,rfl,rfl,rfl⟩
def Hp.nil {k:Ko} {w:ac} {L:List HP} (e sz:Nat) (H:Hp k w L):Hp k w (oq e sz az 0 0 []::L):=
 ((@h9 k w True L).2 ⟨trivial,H⟩).imp λx hx=>by rw[hx.2];exact z8q e sz
def Hp.lit {k:Ko} {w:ac} {b e sz n:Nat} {l:List ab} {L:List HP} (H:Hp k w (pt b (.cells l.toArray e)::L)) (hl:l.length=n*sz):Hp k w (oq e sz (ay ⟨b,0,az⟩) n n l::L):=
 H.imp λx hx=> .inr ⟨b,[],rfl,by rw[hx,oU],hl,by simpa using hl,lk _⟩
def SY {e sz:Nat} {a:Option am} {n k:Nat} {xs:List ab} {h:PH} (H:oq e sz a n k xs h):xs.length=n*sz/\n<=k:=by
 rcases H with⟨rfl,rfl,rfl,rfl,rfl⟩|⟨b,r,rfl,rfl,h1,h2,h3⟩
 ·simp
 ·exact⟨h1,h3⟩
def Hp.len {k:Ko} {w:ac} {e sz:Nat} {a:Option am} {n c:Nat} {xs:List ab} {L:List HP} (H:Hp k w (oq e sz a n c xs::L)):xs.length=n*sz/\n<=c:=by
 obtain⟨h,hh,s⟩:=H.sat;exact SY hh
def yAy {w:ac} {sz:Nat} {a:Option am} {n k:Nat} {xs:List ab} (H:Sat w (EO sz a n k xs)):xs.length=n*sz:=by
 obtain⟨h,hh,s⟩:=H;rcases hh with⟨rfl,rfl,_⟩|⟨b,o,l,T,fr,rfl,rfl,h1,h2,_⟩
 ·simp
 ·exact h2
def Kt {w:ac} {sz:Nat} {a:Option am} {n k:Nat} {xs:List ab} (H:Sat w (EO sz a n k xs)) (hn:0<n):
 ∃(b o:Nat) (l:List ab) (T:ae) (fr:Nat×Nat),a=ay ⟨b,o,az⟩/\w.heap[b]? =ay (.cells l.toArray T fr)/\(l.drop o).take (n*sz)=xs:=by
 obtain⟨h,hh,s⟩:=H;rcases hh with⟨rfl,rfl,_⟩|⟨b,o,l,T,fr,rfl,rfl,h1,h2,_⟩
 ·omega
 ·exact⟨b,o,l,T,fr,rfl,s b _ (by simp[one]),h1⟩
def zVm (m:Nat) (hm:256<=m):∀(r c:Nat),c<=2*m->Builtin.growBy m r c<=2*m
 |0,c,h=>h
 |r+1,c,h=>by
  unfold Builtin.growBy;split
  ·exact h
  ·exact zVm m hm r _ (by omega)
def zOk {need cap:Nat} (h:cap<need):Builtin.nextslicecap need cap<=2*need:=by
 unfold Builtin.nextslicecap;split
 ·omega
 ·split
  ·omega
  ·exact zVm need (by omega) 4 cap (by omega)
def Src (sz:Nat) (w:ac) (x:ab) (m:Nat) (ys:List ab):Prop:=
 (∃a k,x=.slice a m k/\Sat w (EO sz a m k ys))\/(∃s:ByteArray,x=.string s/\sz=1/\m=s.size/\ys=s.data.toList.map λb=> .int .u8 b.toNat)
def Oe {P:aa} {sz:Nat} {w:ac} {x:ab} {m:Nat} {ys:List ab} (h:Src sz w x m ys):
 (Builtin.lenOf x).run P w= .ok m w/\(bz sz m x).run P w= .ok ys.toArray w/\ys.length=m*sz:=by
 rcases h with⟨a,k,rfl,H⟩|⟨s,rfl,rfl,rfl,rfl⟩
 ·refine⟨rfl,?_,yAy H⟩;have hl:=yAy H;obtain⟨h,hh,s⟩:=H;rcases hh with⟨rfl,rfl,_⟩|⟨b,o,l,T,fr,rfl,rfl,h1,h2,_⟩
  ·cases a with
   |none=>rfl
   |some a=>simp[bz,loadCells,loadCellsFrom,pure,bc]
  ·have hb:=s b _ (show one b _ b=_ by simp[one];rfl);unfold bz;by_cases h0:m*sz=0
   ·rw[h0]at h1 hl ⊢;have:ys=[]:=yh hl;subst this;rfl
   ·have:o+m*sz<=l.length:=by
     rw[<- h1,om,pd]at h2;omega
    rw[gN hb this,h1]
 ·refine⟨rfl,?_,by simp⟩;simp only[bz];have:s.extract 0 s.size=s:=by simp
  rw[this];simp only[pure,bc];congr 1;apply df;simp
def KF (P:aa) (t:ae):Bool:=
 match P.underlying t with
 |some (.slice _)=>bo
 |some .string=>bo
 |_=>bu
def W8 {P:aa} {t:ae} (h:KF P t=bo):(∃e,P.underlying t=ay (.slice e))\/P.underlying t=ay .string:=by
 unfold KF at h;cases hd:P.underlying t with
 |none=>rw[hd]at h;cases h
 |some d=>
  rw[hd]at h;cases d<;>first|exact .inl ⟨_,rfl⟩|exact .inr rfl|(cases h)
def Hp.append {P:aa} {k:Ko} {w:ac} {L:List HP} {t1 t2 rt e sz oB:Nat} {z:Array ab} (hi:vT P t1=ay (e,sz,oB,z)) (h2:KF P t2=bo) {a:Option am} {n c:Nat} {xs:List ab}
 (H:Hp k w (oq e sz a n c xs::L)) {x:ab} {m:Nat} {ys:List ab} (hx:Src sz w x m ys) (hv:∀v∈ys,v.og=bo) (hz:z.size=sz) (Em:0<oB) (hb:(n+m)*oB<=140737488355328):
 ∃a' c' w',gH P (ce #[t1,t2] rt #[.slice a n c,x]) w (.slice a' (n+m) c') w'/\Hp k w' (oq e sz a' (n+m) c' (xs++ys)::L):=by
 obtain⟨i,zv,q1,q2,rfl,rfl,q5,rfl⟩:=kP hi;obtain⟨r1,r2,Bo⟩:=Oe (P:=P) hx;obtain⟨JV,hnc⟩:=H.len;have hnm:n+m<=140737488355328:=xi (Nat.le_mul_of_pos_right _ Em) hb;have Av:(n+m)*i.size=n*i.size+m*i.size:=zi _ _ _;by_cases ta:n+m<=c
 ·--zG the capacity
  rcases H.oC with⟨rfl,rfl,rfl,rfl,H0⟩|⟨b,r,rfl,h3,h4,h5,H0⟩
  ·have hm:m=0:=by omega
   subst hm;have GM:ys=[]:=yh (by simpa using Bo);subst GM;refine⟨az,0,w,?_,by simpa using H⟩;unfold gH ce;rcases W8 h2 with⟨e2,hd⟩|hd<;>
   simp only[AO,CK,A1,bind,pure,run_bind,be,bc,run_underlying q1,run_sizeOf q2,run_underlying hd,oK,if_false,r1,r2,EJ,lk,if_true,I4]
  ·have Fm:n*i.size+ys.length<=(xs++r).length:=by
    rw[h4,Bo,<- Av];exact wz _ ta
   have ln:=wI (P:=P) ys 0 (n*i.size) (xs++r) w H0.get (by omega) hv;simp only[EJ]at ln;have Cn:kj (xs++r) (n*i.size) ys=(xs++ys)++r.drop ys.length:=by
    simp only[kj];rw[<- h3,KM,KQ];simp
   rw[Cn]at ln;refine⟨ay ⟨b,0,az⟩,c,_,?_,(H0.yt _).As (r:=r.drop ys.length) (by rw[iv,h3,Bo,Av]) ?_ ta⟩
   ·unfold gH ce;rcases W8 h2 with⟨e2,hd⟩|hd<;>
    simp only[AO,CK,A1,bind,pure,run_bind,be,bc,run_underlying q1,run_sizeOf q2,run_underlying hd,oK,if_false,r1,r2,ta,if_true,uD,oa,ln,I4]
   ·rw[<- h4];simp only[iv,pd]at Fm ⊢;omega
 ·have Cd:¬(((n+m:Nat):Int)>dh.max/\(False\/i.bytes=0)):=by
   rintro⟨_,h|h⟩
   ·exact h
   ·omega
  have BP:¬(Builtin.nextslicecap (n+m) c*i.bytes>2 ^ 48):=by
   have:=zOk (need:=n+m) (cap:=c) (by omega);have:=wz i.bytes this;have e:2*(n+m)*i.bytes=2*((n+m)*i.bytes):=by rw[Nat.mul_assoc]
   omega
  have hold:(bz i.size n (.slice a n c)).run P w= .ok xs.toArray w:=(Oe (P:=P) (.inl ⟨a,c,rfl,H.Ib⟩)).2.1;have Eh:∀w,(zeroValue e).run P w= .ok zv w:=λw=>me (by unfold zero?;rw[q2];exact q5) w
  have HG:∀w,(typeInfo e).run P w= .ok i w:=λw=>zFz q2 w
  generalize Il:(Question.appendCap (n+m) c e).cut (w.tape w.drawn (.appendCap (n+m) c e))=nc;have K4:n+m<=nc:=by
   rw[<- Il];simp only[Question.cut];omega
  have r2':(bz i.size m x).run P w.drew= .ok ys.toArray w.drew:=by
   have Jg:Src i.size w.drew x m ys:=by
    rcases hx with⟨a,kk,rfl,H⟩|h
    ·exact .inl ⟨a,kk,rfl,H.below ((Below.refl _ _).drew)⟩
    ·exact .inr h
   exact(Oe (P:=P) Jg).2.1
  have RI:(bz i.size n (.slice a n c)).run P w.drew= .ok xs.toArray w.drew:=(Oe (P:=P) (.inl ⟨a,c,rfl,H.Ib.below ((Below.refl _ _).drew)⟩)).2.1;have hch:(choose (.appendCap (n+m) c e)).run P w= .ok nc w.drew:=by
   simp only[choose,bc,Question.forced,oK,if_false,Il];rfl
  have Ii:=(H.drop.drew).new (.cells (xs++(ys++(cd zv.cells (nc-(n+m))).toList)).toArray e);have hlen:(ys++(cd zv.cells (nc-(n+m))).toList).length=m*i.size+(nc-(n+m))*i.size:=by
   rw[iv,Bo,Ja,size_zeroCells,hz]
  have Fh:xs.toArray++ys.toArray++cd zv.cells (nc-(n+m))=(xs++(ys++(cd zv.cells (nc-(n+m))).toList)).toArray:=by
   apply df;simp
  refine⟨ay ⟨w.drew.heap.size,0,az⟩,nc,w.drew.alloc (.cells (xs++(ys++(cd zv.cells (nc-(n+m))).toList)).toArray e),?_,?_⟩
  ·unfold gH ce;rcases W8 h2 with⟨e2,hd⟩|hd<;>
   simp only[AO,CK,A1,bind,pure,run_bind,be,bc,run_underlying q1,run_sizeOf q2,run_underlying hd,oK,if_false,r1,ta,HG,Cd,BP,hch,zMh,RI,r2',Eh,I4,if_true,Fh,newRow,newObj]
   all_goals rfl
  ·have:=Hp.As (c:=nc) (n:=n+m) (sz:=i.size) (xs:=xs++ys) (r:=(cd zv.cells (nc-(n+m))).toList) (by rw[jh];exact Ii) (by rw[iv,JV,Bo,Av]) ?_ K4
   ·exact this
   ·rw[jh,iv,hlen,JV,<- zi,<- zi];congr 1;omega
end Cv
namespace Sx
@[reducible] def dj.{u} {α:Sort u} (x:α):Prop:=x=x
open Go Go.RowKit Cv
inductive D where
 |v (x:ab)
 |ro (sz:Nat) (ez:List (List D))
inductive V where
 |top
 |d (x:D)
 |nm (n off:Nat)
 |el (n sz i f:Nat)
 |re (sz:Nat) (ez:List (List D)) (i f:Nat)
 |na (n off i:Nat)
 |own (n:Nat)
 |mp (n:Nat)
 |sub (n i:Nat)
 |agg (l:List V)
 |ja (l:List V)
 |fn (f:Nat) (first cap:List V)
 |zo (t:Nat) (x:V)
inductive fi:Type 1 where
 |gone
 |Au
 |cells (vs:List V) (t:ae)
 |own (t sz:Nat) (ez:List (List D))
 |jc (sz:Nat) (ez:List (List D))
 |GJ (t:ae) (ez:List (List D))
 |vec (ds:List D) (t:ae)
 |map (es:List (ab×List D))
 |Cl (es:List (ab×List D)) (kv:ab) (b:Int)
 |iter (s:ByteArray) (pos:Nat)
 |qw (T:Type) (m:Nat) (iC:T->Nat->fi) (x:T)
 |jz (t:Nat) (T:Type) (m:Nat) (iC:T->Nat->fi) (l:List T) (hole:Option Nat)
 |vf (q:Bool) (t sz:Nat) (ez:List (List D)) (i f:Nat) (b:Bool) (m:Option Nat)
@[reducible] def Hd:=ab×List ab
structure Ev where
 F:PH
 gf:List Hd
def xg (F G:PH):Prop:=∀b o,F b=ay o->G b=ay o
def Ev.le (E E':Ev):Prop:=xg E.F E'.F/\E.gf<+:E'.gf
def xg.refl (F:PH):xg F F:=λ_ _ h=>h
def xg.trans {F G H:PH} (a:xg F G) (b:xg G H):xg F H:=λx o h=>b x o (a x o h)
def Ev.le.refl (E:Ev):E.le E:=⟨xg.refl _,I6 _⟩
def Ev.le.trans {E E' E2:Ev} (a:E.le E') (b:E'.le E2):E.le E2:=⟨a.1.trans b.1,a.2.trans b.2⟩
def SV {α:Type} {l l':List α} (h:l<+:l') {n:Nat} {x:α} (e:l[n]? =ay x):l'[n]? =ay x:=by
 obtain⟨t,rfl⟩:=h;rw[Ec]
 ·exact e
 ·exact(jv.1 e).1
def Ev.le.get {E E':Ev} (a:E.le E') {n:Nat} {x:Hd} (e:E.gf[n]? =ay x):E'.gf[n]? =ay x:=SV a.2 e
mutual
def DR (F:PH):D->ab->Prop
 | .v x,y=>y=x/\x.og=bo
 | .ro sz ez,y=>∃a c,y= .slice a ez.length c/\ez.length<=c/\(∀el∈ez,el.length=sz)/\
    (ez=[]\/∃(b o:Nat) (l:List ab) (T:ae) (fr:Nat×Nat),a=ay ⟨b,o,az⟩/\F b=ay (.cells l.toArray T fr)/\A' F ez (l.drop o))
def iF (F:PH):List D->List ab->Prop
 |[],l=>l=[]
 |d::ds,l=>∃x xs,l=x::xs/\DR F d x/\iF F ds xs
def A' (F:PH):List (List D)->List ab->Prop
 |[],_=>True
 |el::ez,l=>∃l1 l2,l=l1++l2/\iF F el l1/\A' F ez l2
end
mutual
theorem DR.mono {F G:PH} (h:xg F G):∀{d:D} {y:ab},DR F d y->DR G d y
 | .v x,y,e=>by simpa only[DR]using e
 | .ro sz ez,y,e=>by
   simp only[DR]at e ⊢;obtain⟨a,c,h1,h2,h3,h4⟩:=e;refine⟨a,c,h1,h2,h3,?_⟩;rcases h4 with h4|⟨b,o,l,T,fr,q1,q2,q3⟩
   ·exact .inl h4
   ·exact .inr ⟨b,o,l,T,fr,q1,h _ _ q2,A'.mono h q3⟩
theorem iF.mono {F G:PH} (h:xg F G):∀{ds:List D} {l:List ab},iF F ds l->iF G ds l
 |[],l,e=>by simpa only[iF]using e
 |d::ds,l,e=>by
  simp only[iF]at e ⊢;obtain⟨x,xs,h1,h2,h3⟩:=e;exact⟨x,xs,h1,DR.mono h h2,iF.mono h h3⟩
theorem A'.mono {F G:PH} (h:xg F G):∀{ez:List (List D)} {l:List ab},A' F ez l->A' G ez l
 |[],l,e=>by simp only[A']
 |el::ez,l,e=>by
  simp only[A']at e ⊢;obtain⟨x,xs,h1,h2,h3⟩:=e;exact⟨x,xs,h1,iF.mono h h2,A'.mono h h3⟩
end
mutual
def VR (E:Ev):V->ab->Prop
 | .top,_=>True
 | .d d,y=>DR E.F d y
 | .nm n o,y=>∃(b oo:Nat) (l:List ab),E.gf[n]? =ay (.pointer (ay ⟨b,oo,az⟩),l)/\y= .pointer (ay ⟨b,oo+o,az⟩)
 | .el n sz i f,y=>∃(b oo m c:Nat) (l:List ab),E.gf[n]? =ay (.slice (ay ⟨b,oo,az⟩) m c,l)/\y= .pointer (ay ⟨b,oo+i*sz+f,az⟩)
 | .re sz ez i f,y=>i<ez.length/\(∀el∈ez,el.length=sz)/\∃(b o:Nat) (l:List ab) (T:ae) (fr:Nat×Nat),y= .pointer (ay ⟨b,o+i*sz+f,az⟩)/\E.F b=ay (.cells l.toArray T fr)/\A' E.F ez (l.drop o)
 | .na n o i,y=>∃(b oo:Nat) (l:List ab),E.gf[n]? =ay (.pointer (ay ⟨b,oo,az⟩),l)/\y= .pointer (ay ⟨b,oo+(o+i),az⟩)
 | .own n,y=>∃l,E.gf[n]? =ay (y,l)/\∃a m c,y= .slice a m c
 | .mp n,y=>∃b l,E.gf[n]? =ay (y,l)/\y= .map (ay b)
 | .sub n i,y=>∃hd l b oo,E.gf[n]? =ay (hd,l)/\l[i]? =ay y/\y= .pointer (ay ⟨b,oo,az⟩)
 | .agg l,y=>∃ys,y= .agg ys.toArray/\gw E l ys
 | .ja l,y=>∃ys,y= .tuple ys.toArray/\gw E l ys
 | .fn f a b,y=>∃as bs,y= .func (.func f) as.toArray bs.toArray/\gw E a as/\gw E b bs
 | .zo t x,y=>∃z,y= .iface t z/\VR E x z
def gw (E:Ev):List V->List ab->Prop
 |[],l=>l=[]
 |v::vs,l=>∃x xs,l=x::xs/\VR E v x/\gw E vs xs
end
mutual
theorem VR.mono {E E':Ev} (h:E.le E'):∀{v:V} {y:ab},VR E v y->VR E' v y
 | .top,y,e=>by simp only[VR]
 | .d d,y,e=>by simp only[VR]at e ⊢;exact e.mono h.1
 | .nm n o,y,e=>by
   simp only[VR]at e ⊢;obtain⟨b,oo,l,h1,h2⟩:=e;exact⟨b,oo,l,h.get h1,h2⟩
 | .el n sz i f,y,e=>by
   simp only[VR]at e ⊢;obtain⟨b,oo,m,c,l,h1,h2⟩:=e;exact⟨b,oo,m,c,l,h.get h1,h2⟩
 | .re sz ez i f,y,e=>by
   simp only[VR]at e ⊢;obtain⟨h0,h1,b,o,l,T,fr,h2,h3,h4⟩:=e;exact⟨h0,h1,b,o,l,T,fr,h2,h.1 _ _ h3,h4.mono h.1⟩
 | .na n o i,y,e=>by
   simp only[VR]at e ⊢;obtain⟨b,oo,l,h1,h2⟩:=e;exact⟨b,oo,l,h.get h1,h2⟩
 | .own n,y,e=>by
   simp only[VR]at e ⊢;obtain⟨l,h1,h2⟩:=e;exact⟨l,h.get h1,h2⟩
 | .mp n,y,e=>by
   simp only[VR]at e ⊢;obtain⟨b,l,h1,h2⟩:=e;exact⟨b,l,h.get h1,h2⟩
 | .sub n i,y,e=>by
   simp only[VR]at e ⊢;obtain⟨hd,l,b,oo,h1,h2⟩:=e;exact⟨hd,l,b,oo,h.get h1,h2⟩
 | .agg l,y,e=>by
   simp only[VR]at e ⊢;obtain⟨ys,h1,h2⟩:=e;exact⟨ys,h1,gw.mono h h2⟩
 | .ja l,y,e=>by
   simp only[VR]at e ⊢;obtain⟨ys,h1,h2⟩:=e;exact⟨ys,h1,gw.mono h h2⟩
 | .fn f a b,y,e=>by
   simp only[VR]at e ⊢;obtain⟨as,bs,h1,h2,h3⟩:=e;exact⟨as,bs,h1,gw.mono h h2,gw.mono h h3⟩
 | .zo t x,y,e=>by
   simp only[VR]at e ⊢;obtain⟨z,h1,h2⟩:=e;exact⟨z,h1,VR.mono h h2⟩
theorem gw.mono {E E':Ev} (h:E.le E'):∀{vs:List V} {l:List ab},gw E vs l->gw E' vs l
 |[],l,e=>by simpa only[gw]using e
 |v::vs,l,e=>by
  simp only[gw]at e ⊢;obtain⟨x,xs,h1,h2,h3⟩:=e;exact⟨x,xs,h1,VR.mono h h2,gw.mono h h3⟩
end
def rI:List ab->ab
 |[y]=>y
 |ys=> .agg ys.toArray
def MR (F:PH):List (ab×List D)->List aq->Prop
 |[],l=>l=[]
 |(k,ds)::es,l=>∃(m:aq) (ms:List aq),l=m::ms/\m.key=k/\(∃ys,iF F ds ys/\m.val=rI ys)/\MR F es ms
def MR.mono {F G:PH} (h:xg F G):∀{es:List (ab×List D)} {l:List aq},MR F es l->MR G es l
 |[],l,e=>e
 |(k,ds)::es,l,e=>by
  obtain⟨m,ms,h1,h2,⟨ys,h3,h4⟩,h5⟩:=e;exact⟨m,ms,h1,h2,⟨ys,h3.mono h,h4⟩,h5.mono h⟩
def vW (l:List aq) (ck:Nat):Prop:=(l.map (·.born)).Nodup/\∀e∈l,e.born<ck
def IS (kd:TypeDesc) (x:ab):Prop:=(∃ik k n,kd=.int ik/\x=.int k n)\/(∃s,kd=.string/\x=.string s)
def S1 (l:List aq) (x:ab) (b:Int):Prop:=∃kd,IS kd x/\∃q m,Instr.findNow kd x l 0=ay (ay (q,m.val))/\l[q]?=ay m/\(m.born:Int)=b
def zf (gf:List Hd) (p:Nat) (b:Bool) (ys xs:List ab):Option Nat->Prop
 |some m=>∃y l,gf[m]? =ay (y,l)/\(∃a n c,y= .slice a n c)/\xs=bif b then ys.set p y else ys
 |none=>∃y,(∃a n c,y= .slice a n c)/\xs=bif b then ys.set p y else ys
def fm (F:PH):fi->List Hd->Hd->HP
 | .gone,_,_=>λh=>h=pe
 | .Au,_,hd=>λh=>h=pe/\hd.1= .slice az 0 0/\hd.2=[]
 | .cells vs t,gf,hd=>λh=>∃b l,hd.1= .pointer (ay ⟨b,0,az⟩)/\gw ⟨F,gf⟩ vs l/\h=one b (.cells l.toArray t)
 | .own t sz ez,gf,hd=>λh=>∃a k xs,hd.1= .slice a ez.length k/\iF F ez.flatten xs/\(∀el∈ez,el.length=sz)/\oq t sz a ez.length k xs h
 | .jc sz ez,gf,hd=>λh=>h=pe/\DR F (.ro sz ez) hd.1
 | .GJ t ez,gf,hd=>λh=>∃b k xs r,hd.1= .slice (ay ⟨b,0,az⟩) ez.length k/\iF F ez.flatten xs/\(∀el∈ez,el.length=1)/\ez.length<=k/\h=one b (.cells (xs++r).toArray t ((xs++r).length,(xs++r).length+1))
 | .vec ds t,gf,hd=>λh=>∃b l,hd.1= .pointer (ay ⟨b,0,az⟩)/\iF F ds l/\h=one b (.cells l.toArray t)
 | .map es,gf,hd=>λh=>∃b fy ck,hd.1= .map (ay b)/\MR F es fy/\vW fy ck/\h=one b (.map fy.toArray ck)
 | .Cl es kv x,gf,hd=>λh=>∃b fy ck,hd.1= .map (ay b)/\MR F es fy/\vW fy ck/\S1 fy kv x/\h=one b (.map fy.toArray ck)
 | .iter s pos,gf,hd=>λh=>∃b,hd.1= .pointer (ay ⟨b,0,az⟩)/\h=one b (.stringIter s pos)
 | .qw T m iC x,gf,hd=>λh=>∃jw,jw[0]? =ay hd/\jw.length=m/\hS ((dc m).map λj=>λh=>∃oL,jw[j]? =ay oL/\fm F (iC x j) jw oL h) h
 | .jz t T m iC l hole,gf,hd=>λh=>∃a k,hd.1= .slice a l.length k/\hd.2.length=l.length/\(∀p∈hd.2,∃b oo,p= .pointer (ay ⟨b,oo,az⟩))/\
    hS [oq t 1 a l.length k hd.2,hS ((dc l.length).map λi=>λh=>if hole=ay i then h=pe else ∃x p l0 jw,l[i]? =ay x/\hd.2[i]? =ay p/\jw[0]? =ay (p,l0)/\jw.length=m/\
     hS ((dc m).map λj=>λh=>∃oL,jw[j]? =ay oL/\fm F (iC x j) jw oL h) h)] h
 | .vf q t sz ez i f b m,gf,hd=>λh=>∃a k ys xs,hd.1= .slice a ez.length k/\iF F ez.flatten ys/\(∀el∈ez,el.length=sz)/\zf gf (i*sz+f) b ys xs m/\oq t sz a ez.length k xs h
def Ks {α:Type} {f g:α->HP} (h:∀a x,f a x->g a x):∀{l:List α} {x:PH},hS (l.map f) x->hS (l.map g) x
 |[],x,e=>e
 |[a],x,e=>h a x e
 |a::b::l,x,e=>by
  obtain⟨g1,g2,h1,h2,h3,h4⟩:=e;exact⟨g1,g2,h a _ h1,Ks h (l:=b::l) h2,h3,h4⟩
def zf.mono {gf oE:List Hd} (h:∀(n:Nat) (hd:Hd),gf[n]? =ay hd->oE[n]? =ay hd) {p:Nat} {b:Bool} {ys xs:List ab}:∀{m:Option Nat},zf gf p b ys xs m->zf oE p b ys xs m
 |some m,⟨y,l,h1,h2⟩=>⟨y,l,h _ _ h1,h2⟩
 |none,e=>e
def fm.mono {F G:PH} (hF:xg F G) (o:fi):∀{gf oE:List Hd} (ht:gf<+:oE) {hd:Hd} {h:PH},fm F o gf hd h->fm G o oE hd h:=by
 induction o with
 |gone=>intro _ _ _ _ _ e;exact e
 |Au=>intro _ _ _ _ _ e;exact e
 |cells vs t=>
  intro gf oE ht hd h e;simp only[fm]at e ⊢;obtain⟨b,l,h1,h2,h3⟩:=e;exact⟨b,l,h1,h2.mono ⟨hF,ht⟩,h3⟩
 |own t sz ez=>
  intro gf oE ht hd h e;simp only[fm]at e ⊢;obtain⟨a,k,xs,h1,h2,h3⟩:=e;exact⟨a,k,xs,h1,h2.mono hF,h3⟩
 |jc sz ez=>
  intro gf oE ht hd h e;simp only[fm]at e ⊢;exact⟨e.1,e.2.mono hF⟩
 |GJ t ez=>
  intro gf oE ht hd h e;simp only[fm]at e ⊢;obtain⟨b,k,xs,r,h1,h2,h3⟩:=e;exact⟨b,k,xs,r,h1,h2.mono hF,h3⟩
 |vec ds t=>
  intro gf oE ht hd h e;simp only[fm]at e ⊢;obtain⟨b,l,h1,h2,h3⟩:=e;exact⟨b,l,h1,h2.mono hF,h3⟩
 |map es=>
  intro gf oE ht hd h e;simp only[fm]at e ⊢;obtain⟨b,l,ck,h1,h2,h3⟩:=e;exact⟨b,l,ck,h1,h2.mono hF,h3⟩
 |Cl es kv x=>
  intro gf oE ht hd h e;simp only[fm]at e ⊢;obtain⟨b,l,ck,h1,h2,h3⟩:=e;exact⟨b,l,ck,h1,h2.mono hF,h3⟩
 |iter s pos=>intro _ _ _ _ _ e;simpa only[fm]using e
 |qw T m iC x ih=>
  intro gf oE ht hd h e;simp only[fm]at e ⊢;obtain⟨jw,h1,h2,h3⟩:=e;refine⟨jw,h1,h2,Ks ?_ h3⟩;rintro j y ⟨oL,q1,q2⟩;exact⟨oL,q1,ih x j (I6 _) q2⟩
 |jz t T m iC l hole ih=>
  intro gf oE ht hd h e;simp only[fm]at e ⊢;obtain⟨a,k,h1,h2,h3,h5⟩:=e;refine⟨a,k,h1,h2,h3,?_⟩;obtain⟨g1,g2,q1,q2,q3,q4⟩:=h5;refine⟨g1,g2,q1,Ks ?_ q2,q3,q4⟩;intro i y hy;split
  ·rename_i hi;rw[fh hi]at hy;exact hy
  ·rename_i hi;rw[fb hi]at hy;obtain⟨x,p,l0,jw,r1,r2,r3,r4,r5⟩:=hy;refine⟨x,p,l0,jw,r1,r2,r3,r4,Ks ?_ r5⟩;rintro j y ⟨oL,s1,s2⟩;exact⟨oL,s1,ih x j (I6 _) s2⟩
 |vf q t sz ez i f b m=>
  intro gf oE ht hd h e;simp only[fm]at e ⊢;obtain⟨a,k,ys,xs,h1,h2,h3,h4,h5⟩:=e;exact⟨a,k,ys,xs,h1,h2.mono hF,h3,h4.mono λn hd e=>SV ht e,h5⟩
structure St where
 rows:List (Nat×fi)
 nx:Nat
def lD (n:Nat):List (Nat×fi)->Option fi
 |[]=>az
 |(m,o)::l=>bif cw m n then ay o else lD n l
def vK (n:Nat):List (Nat×fi)->List (Nat×fi)
 |[]=>[]
 |(m,o)::l=>bif cw m n then l else(m,o)::vK n l
def sR (n:Nat) (x:fi):List (Nat×fi)->List (Nat×fi)
 |[]=>[]
 |(m,o)::l=>bif cw m n then(m,x)::l else(m,o)::sR n x l
def St.get (s:St) (n:Nat):Option fi:=lD n s.rows
def St.set (s:St) (n:Nat) (o:fi):St:=⟨sR n o s.rows,s.nx⟩
def St.del (s:St) (n:Nat):St:=⟨vK n s.rows,s.nx⟩
def St.Im (s:St) (n:Nat):fi->St
 | .jc _ _=>s
 |_=>s.del n
def St.new (s:St) (o:fi):St:=⟨(s.nx,o)::s.rows,s.nx+1⟩
def vN {n:Nat} {o:fi}:∀{l:List (Nat×fi)},lD n l=ay o->l.Perm ((n,o)::vK n l)/\∀x,(sR n x l).Perm ((n,x)::vK n l)
 |[],h=>by cases h
 |(m,p)::l,h=>by
  simp only[lD,vK,sR]at h ⊢;cases hb:cw m n
  ·rw[hb]at h;obtain⟨h1,h2⟩:=vN (l:=l) h;exact⟨(h1.cons _).trans (.swap _ _ _),λx=>((h2 x).cons _).trans (.swap _ _ _)⟩
  ·rw[hb]at h;have:=jb hb;subst this;cases h;exact⟨.refl _,λx=> .refl _⟩
def gz (E:Ev) (r:Nat×fi):HP:=λh=>r.2= .gone/\h=pe\/∃hd,E.gf[r.1]? =ay hd/\fm E.F r.2 E.gf hd h
def gz.mono {E E':Ev} (h:E.le E') (r:Nat×fi) {x:PH} (e:gz E r x):gz E' r x:=by
 rcases e with e|⟨hd,h1,h2⟩
 ·exact .inl e
 ·exact .inr ⟨hd,h.get h1,h2.mono h.1 _ h.2⟩
def y6y:List (Nat×(Obj->Prop)):=[]
def DX (F:PH):Prop:=∀g∈y6y,∃o,F g.1=ay o/\g.2 o
def DX.mono {F G:PH} (h:xg F G) (e:DX F):DX G:=λg hg=>let⟨o,h1,h2⟩:=e g hg;⟨o,h _ _ h1,h2⟩
def fz (F:PH):HP:=λh=>h=F/\DX F
structure Rel (k:Ko) (L:List HP) (E:Ev) (s:St) (w:ac):Prop where
 nx:E.gf.length=s.nx
 hp:Hp k w (s.rows.map (gz E)++fz E.F::L)
end Sx
namespace Cv
open Go Go.RowKit
inductive Tr (α:Type) where
 |e
 |n (v:Option α) (l r:Tr α)
def Tr.get {α:Type}:List Bool->Tr α->Option α
 |_,.e=>az
 |[],.n v _ _=>v
 |b::p,.n _ l r=>bif b then Tr.get p l else Tr.get p r
def Tr.set {α:Type} (x:Option α):List Bool->Tr α->Tr α
 |[],.e=> .n x .e .e
 |[],.n _ l r=> .n x l r
 |b::p,.e=>bif b then .n az (Tr.set x p .e) .e else .n az .e (Tr.set x p .e)
 |b::p,.n v l r=>bif b then .n v (Tr.set x p l) r else .n v l (Tr.set x p r)
def y4k:Nat->Nat->List Bool
 |0,n=>List.replicate n bo
 |f+1,n=>bif cw n 0 then[]else cw (n % 2) 1::y4k f (n / 2)
def O9 (n:Nat):List Bool:=y4k 40 n
inductive Cap where
 |k (c:Nat)
 |r (l o0:Nat)
inductive V where
 |int (k:ag) (n:Int)
 |bool (b:Bool)
 |str (l:List Nat)
 |ptr (a:Option (Nat×Nat))
 |sl (a:Option (Nat×Nat)) (n:Nat) (c:Cap)
 |map (r:Option Nat)
 |agg (l:List V)
 |ja (l:List V)
 |fn (f:Nat) (first cap:List V)
 |Rq
inductive fi where
 |cells (xs:List V) (t:ae) (CN:Option Nat)
 |map (es:List (V×V×Nat)) (clock:Nat)
 |iter (s:List Nat) (pos:Nat)
structure St where
 h:Tr fi
 nx:Nat
def St.get (s:St) (b:Nat):Option fi:=Tr.get (O9 b) s.h
def St.set (s:St) (b:Nat) (o:fi):St:=⟨Tr.set (ay o) (O9 b) s.h,s.nx⟩
def St.del (s:St) (b:Nat):St:=⟨Tr.set az (O9 b) s.h,s.nx⟩
def St.new (s:St) (o:fi):St:=⟨Tr.set (ay o) (O9 s.nx) s.h,s.nx+1⟩
@[reducible] def HV:=Nat->Nat×Nat
def cvs (φ:HV) (b o n:Nat):Cap->am
 | .k _=>⟨(φ b).1,o,az⟩
 | .r l o0=>⟨(φ b).1,bif cw n 0 && cw (φ b).2 l then o0 else o,az⟩
def cvc (φ:HV) (b:Nat):Cap->Nat
 | .k c=>c
 | .r l _=>(φ b).2-l
mutual
def cv (φ:HV):V->ab
 | .int k n=> .int k n
 | .bool b=> .bool b
 | .str l=> .string (bs l)
 | .ptr az=> .pointer az
 | .ptr (ay (b,o))=> .pointer (ay ⟨(φ b).1,o,az⟩)
 | .sl az n c=> .slice az n (match c with| .k c=>c| .r _ _=>0)
 | .sl (ay (b,o)) n c=> .slice (ay (cvs φ b o n c)) n (cvc φ b c)
 | .map az=> .map az
 | .map (ay b)=> .map (ay (φ b).1)
 | .agg l=> .agg (G4 φ l).toArray
 | .ja l=> .tuple (G4 φ l).toArray
 | .fn f a b=> .func (.func f) (G4 φ a).toArray (G4 φ b).toArray
 | .Rq=> .nilFunc
def G4 (φ:HV):List V->List ab
 |[]=>[]
 |v::l=>cv φ v::G4 φ l
end
def OE {α:Type}:List (Option α)->Option (List α)
 |[]=>ay []
 |some a::l=>match OE l with
  |some r=>ay (a::r)
  |none=>az
 |none::_=>az
def IT (ρ:Tr V):Option Nat->V->Tr V
 |none,_=>ρ
 |some d,v=>Tr.set (ay v) (O9 d) ρ
def wj:ag->ag->Bool
 | .i8,.i8=>bo| .i16,.i16=>bo| .i32,.i32=>bo| .i64,.i64=>bo
 | .u8,.u8=>bo| .u16,.u16=>bo| .u32,.u32=>bo| .u64,.u64=>bo
 |_,_=>bu
def ieq:Int->Int->Bool
 | .ofNat a,.ofNat b=>cw a b
 | .negSucc a,.negSucc b=>cw a b
 |_,_=>bu
def aeq:Option (Nat×Nat)->Option (Nat×Nat)->Bool
 |none,az=>bo
 |some (a,b),ay (c,d)=>cw a c && cw b d
 |_,_=>bu
def UZ:ag->Nat
 | .i8=>128| .i16=>32768| .i32=>2147483648| .i64=>9223372036854775808
 | .u8=>256| .u16=>65536| .u32=>4294967296| .u64=>18446744073709551616
def wr (k:ag):Int->Int
 | .ofNat n=>bif cx n (UZ k)then .ofNat n else k.wrap (.ofNat n)
 |x=>k.wrap x
def OM:ag->Nat
 | .i8=>256| .i16=>65536| .i32=>4294967296| .i64=>18446744073709551616
 | .u8=>256| .u16=>65536| .u32=>4294967296| .u64=>18446744073709551616
def y9l (k:ag):Int->Int->Int
 | .ofNat a,.ofNat b=>wr k (.ofNat (Nat.land (a % OM k) (b % OM k)))
 |a,b=>B0 k a b
def fOr (k:ag):Int->Int->Int
 | .ofNat a,.ofNat b=>wr k (.ofNat (Nat.lor (a % OM k) (b % OM k)))
 |a,b=>GL k a b
def yWh (k:ag):Int->Int->Int
 | .ofNat a,.ofNat b=>wr k (.ofNat (a*2 ^ (Nat.min b k.bits)))
 |a,b=>IG k a b
def Sq (P:aa) (t:ae):Bool:=
 match P.underlying t with
 |some (.pointer _)=>bo
 |_=>bu
def Hk (P:aa) (t:ae):Bool:=
 match P.underlying t with
 |some (.slice _)=>bo
 |_=>bu
def ZZ (P:aa) (t:ae):Bool:=
 match P.underlying t with
 |some (.map _ _)=>bo
 |_=>bu
def Kr (P:aa) (t:ae):Bool:=
 match P.underlying t with
 |some .string=>bo
 |_=>bu
def y9k (P:aa) (t:ae):Option ag:=
 match P.underlying t with
 |some (.int k)=>ay k
 |_=>az
def W9 (P:aa) (s:ae) (f:Nat):Option Nat:=
 match P.underlying s with
 |some (.struct fs)=>match fs[f]? with
  |some fd=>match P.info? fd.type with
   |some i=>bif cw i.size 0 then az else ay fd.offset
   |none=>az
  |none=>az
 |_=>az
def Yv (P:aa) (s:ae) (f:Nat):Option (ae×Nat):=
 match P.underlying s with
 |some (.struct fs)=>match fs[f]? with
  |some fd=>ay (fd.type,fd.offset)
  |none=>az
 |_=>az
def SN (P:aa) (t:ae):Option (Nat×ae×Nat):=
 match P.underlying t with
 |some (.array n e)=>match P.info? e with
  |some i=>ay (n,e,i.size)
  |none=>az
 |_=>az
def apart (P:aa) (t:ae) (cs:List V) (off:Nat):Option V:=
 match D' P t with
 |some sz=>ay (.agg ((cs.drop off).take sz))
 |none=>bif B1 P t then cs[off]? else az
def Km (i:Int) (n:Nat):Option Nat:=
 match i with
 | .ofNat j=>bif cx j n then ay j else az
 |_=>az
def yOf (P:aa) (t:ae):Option (List (Option (Nat×Nat))):=
 match P.underlying t with
 |some (.struct fs)=>ay (fs.toList.map λfd=>match P.info? fd.type with
   |some i=>ay (fd.offset,i.size)
   |none=>az)
 |_=>az
def V8 (l:List (Option (Nat×Nat))) (i:Nat):Option (Nat×Nat):=
 match l[i]? with
 |some r=>r
 |none=>az
def Gv (P:aa) (t:ae):Option (ae×ae):=
 match P.underlying t with
 |some (.map k e)=>ay (k,e)
 |_=>az
def OJ (P:aa) (t:ae):Bool:=
 match P.underlying t with
 |some (.slice e)=>match P.underlying e with
  |some (.int .u8)=>bo
  |_=>bu
 |_=>bu
def nU (P:aa) (t:ae):Option Nat:=
 match P.info? t with
 |some i=>ay i.size
 |none=>az
end Cv
namespace Cv
open Go Go.RowKit
def cme (φ:HV) (e:V×V×Nat):aq:={key:=cv φ e.1,val:=cv φ e.2.1,born:=e.2.2}
def coT (φ:HV) (b:Nat):fi->Obj->Prop
 | .cells xs t az,O=>O= .cells (G4 φ xs).toArray t
 | .cells xs t (ay sz),O=>∃r,O= .cells (G4 φ xs++r).toArray t/\xs.length+r.length=(φ b).2*sz
 | .map es ck,O=>O= .map (es.map (cme φ)).toArray ck
 | .iter l pos,O=>O= .stringIter (bs l) pos
structure Rel (φ:HV) (s:St) (w:ac):Prop where
 obj:∀b o,s.get b=ay o->∃O,w.heap[(φ b).1]? =ay O/\coT φ b o O
 inj:∀b c,s.get b≠az->s.get c≠az->(φ b).1=(φ c).1->b=c
 lt:∀b,s.get b≠az->b<s.nx
def Gm (s:ByteArray):bs (s.data.toList.map UInt8.toNat)=s:=by
 unfold bs;rw[wb];have:(Nat.toUInt8∘UInt8.toNat)=id:=by
  funext x;simp[Nat.toUInt8]
 rw[this];simp
def Xg {off:Nat}:∀(vs:List ab) (k:Nat) (l:List ab),off+k+vs.length<=l.length->
 List.foldl (λ(cs:Array ab) (p:ab×Nat)=>cs.setIfInBounds (off+p.2) p.1) l.toArray (vs.zipIdx k)=(kj l (off+k) vs).toArray
 |[],k,l,_=>by simp[kj]
 |v::vs,k,l,h=>by
  simp only[iJ]at h;simp only[List.zipIdx_cons,EL,List.setIfInBounds_toArray];rw[Xg vs (k+1) (l.set (off+k) v) (by rw[qv];omega),show off+(k+1)=off+k+1 by omega,SF (by omega)]
end Cv
namespace Cv
open Go Go.RowKit
def zVv {k k':ag} (h:wj k k'=bo):k=k':=by cases k<;>cases k'<;>first|rfl|cases h
def z6c {k:ag} {n:Nat} (h:n<UZ k):k.wrap (.ofNat n)= .ofNat n:=by
 cases k<;>simp only[UZ]at h<;>simp[IntKind.wrap,IntKind.bits,IntKind.signed]<;>omega
def UH (k:ag) (x:Int):wr k x=k.wrap x:=by
 cases x with
 |ofNat n=>
  simp only[wr];cases h:cx n (UZ k)
  ·rfl
  ·exact(z6c (by simpa[yf]using h)).symm
 |negSucc n=>rfl
def yQo (k:ag):OM k=2 ^ k.bits:=by cases k<;>rfl
def zLy (w a:Nat):da w (Int.ofNat a)=BitVec.ofNat w a:=by
 apply BitVec.eq_of_toNat_eq;simp
def yXr (k:ag) (a b:Int):fOr k a b=GL k a b:=by
 unfold fOr;split
 ·rename_i a b;rw[UH,yQo];unfold GL;rw[zLy,zLy];simp only[BitVec.toNat_or,BitVec.toNat_ofNat];rfl
 ·rfl
def yRa (k:ag) (a b:Int):yWh k a b=IG k a b:=by
 unfold yWh;split
 ·rename_i a b;rw[UH];unfold IG;congr 1
 ·rfl
end Cv
namespace Cv
open Go Go.RowKit
def z3a {P:aa} {t:ae} (h:Sq P t=bo):∃e,P.underlying t=ay (.pointer e):=by
 unfold Sq at h;split at h
 ·exact⟨_,by assumption⟩
 ·cases h
def eT {P:aa} {t:ae} (h:Hk P t=bo):∃e,P.underlying t=ay (.slice e):=by
 unfold Hk at h;split at h
 ·exact⟨_,by assumption⟩
 ·cases h
def z1u {P:aa} {t:ae} (h:ZZ P t=bo):∃k e,P.underlying t=ay (.map k e):=by
 unfold ZZ at h;split at h
 ·exact⟨_,_,by assumption⟩
 ·cases h
def nY {P:aa} {t:ae} (h:Kr P t=bo):P.underlying t=ay .string:=by
 unfold Kr at h;split at h
 ·assumption
 ·cases h
end Cv
namespace Cv
open Go Go.RowKit
def yU {α:Type} {b:Bool} {x:Option α} {v:α} (h:(bif b then x else az)=ay v):b=bo/\x=ay v:=by
 cases b
 ·cases h
 ·exact⟨rfl,h⟩
def zRe {i:Int} {n j:Nat} (h:Km i n=ay j):i=(j:Int)/\j<n:=by
 unfold Km at h;split at h
 ·rename_i m;obtain⟨hb,h⟩:=yU h;simp only[ct]at h;subst h;exact⟨rfl,by simpa[yf]using hb⟩
 ·cases h
def zSn {P:aa} {s f off:Nat} (h:W9 P s f=ay off):∃fs fd i,P.underlying s=ay (.struct fs)/\fs[f]? =ay fd/\P.info? fd.type=ay i/\i.size≠0/\fd.offset=off:=by
 unfold W9 at h;split at h<;>first|(cases h;done)|skip
 rename_i fs xl;split at h<;>first|(cases h;done)|skip
 rename_i fd PE;split at h<;>first|(cases h;done)|skip
 rename_i i hi;cases hb:cw i.size 0
 ·rw[hb]at h;simp only[cond_false,ct]at h;exact⟨fs,fd,i,xl,PE,hi,(λe=>by rw[e]at hb;cases hb),h⟩
 ·rw[hb]at h;cases h
def zOo {P:aa} {s f ft off:Nat} (h:Yv P s f=ay (ft,off)):∃fs fd,P.underlying s=ay (.struct fs)/\fs[f]? =ay fd/\fd.type=ft/\fd.offset=off:=by
 unfold Yv at h;split at h<;>first|(cases h;done)|skip
 rename_i fs xl;split at h<;>first|(cases h;done)|skip
 rename_i fd PE;simp only[ct,di]at h;exact⟨fs,fd,xl,PE,h.1,h.2⟩
def zHl {P:aa} {t n e sz:Nat} (h:SN P t=ay (n,e,sz)):∃i,P.underlying t=ay (.array n e)/\P.info? e=ay i/\i.size=sz:=by
 unfold SN at h;split at h<;>first|(cases h;done)|skip
 rename_i n' e' ht;split at h<;>first|(cases h;done)|skip
 rename_i i hi;simp only[ct,di]at h;obtain⟨rfl,rfl,rfl⟩:=h;exact⟨i,ht,hi,rfl⟩
def zTl {α:Type}:∀{l:List (Option α)} {L:List α},OE l=ay L->l=L.map ay
 |[],L,h=>by simp only[OE,ct]at h;subst h;rfl
 |none::l,L,h=>by cases h
 |some a::l,L,h=>by
  simp only[OE]at h;split at h<;>first|(cases h;done)|skip
  rename_i r hr;simp only[ct]at h;subst h;rw[jx,<- zTl hr]
def zQy {P:aa} (w:ac):∀{fs:List Field} {L:List (Nat×Nat)},
 (fs.map λfd=>match P.info? fd.type with|some i=>ay (fd.offset,i.size)|none=>az)=L.map ay->
 ((fs.mapM λf=>(do pure (f.offset,<- Go.sizeOf f.type):Sem (Nat×Nat))):Sem (List (Nat×Nat))).run P w= .ok L w
 |[],L,h=>by
  cases L with
  |nil=>rfl
  |cons a l=>cases h
 |fd::fs,L,h=>by
  cases L with
  |nil=>cases h
  |cons a l=>
   simp only[jx,List.cons.injEq]at h;obtain⟨h1,h2⟩:=h;split at h1<;>first|(cases h1;done)|skip
   rename_i i hi;simp only[ct]at h1;subst h1;have ih:=zQy w h2;simp only[dd,bind,pure,run_bind,be,bc,run_sizeOf hi]at ih ⊢;rw[ih]
def j7 {ρ:Env} {o:aj} {c:Call} {b:Builtin} (ho:o.op= .call c) (hc:c.callee= .builtin b):
 af (ev ρ) o=builtin b c.argTypes o.type (c.args.map λ| .const _=>bo|_=>bu) (c.args.map (ev ρ)):=by
 have tm:af (ev ρ) o=(ar (ev ρ) c o.type).bind λd=>invoke d.target d.args:=by
  simp only[af,ho];rfl
 rw[tm];unfold ar;rw[hc];rfl
end Cv
