/- Texts of ours. No condition. -/
import Derived.Deep.LoopGhost
import Derived.KernelRfl
import Derived.Lib.Strings
import Derived.Orders
import Derived.WalkKit
set_option linter.all false
open Go renaming Program->aa,Value->ab,World->ac,TypeId->ae,execOp->af,IntKind->ag,Oper->aj,eqGuard->ak,Addr->am,undef->ao,Operand->ap,MapEntry->aq,resolve->ar,callFunc->au,FuncId->av,wp_mono->aw,convert->ax
open Option renaming some->ay,none->ba,map_eq_some_iff->bc
open Go.Sem renaming run->be,bind->bg,pure->bo
open Bool renaming true->bu,false->bv
open Go.Builtin renaming firstCells->cd,zeroCells->ce,append_->cf,len_->cg,copy_->ci
open Go.Region renaming ready->cm,binds->cn,wanted->co
open Go.Instr renaming sliceBounds->cp,lookup->cq,typeAssert->cr
open Option.some renaming injEq->cu,inj->cw
open Nat renaming beq->cx,blt->cy,ble->cz
open Int renaming toNat->da
open BitVec renaming ofInt->db
open List renaming range->dc,mapM_cons->dd
open Array renaming replicate->de,ext'->df
open Go.IntKind renaming i64->dh,wrap->dj,signed->dk
open Prod.mk renaming injEq->dl
def dx:=@if_neg
def fk:=@if_pos
def iz:=@List.length_map
def iQ:=@List.length_append
def ju:=@List.getElem?_eq_some_iff
def ji:=@Nat.eq_of_beq_eq_true
def jg:=@List.mem_cons_self
def mi:=@List.getD_eq_getElem?_getD
def jx:=@List.mem_cons_of_mem
def iY:=@List.length_cons
def iT:=@List.map_cons
def mc:=@List.mem_of_getElem?
def jq:=@decide_eq_false
def km:=@List.append_assoc
def jz:=@List.map_append
def ld:=@Bool.and_eq_true
def ml:=@Int.toNat_natCast
def kx:=@decide_eq_true
def nr:=@Bool.false_eq_true
def oV:=@List.take_of_length_le
def ku:=@List.mem_cons
def ni:=@List.perm_middle
def pn:=@List.mem_map_of_mem
def oK:=@List.length_take
def mg:=@Nat.le_refl
def pd:=@List.append_nil
def oe:=@List.mem_map
def qc:=@List.length_drop
def ue:=@List.getElem?_eq_none
def oR:=@List.sum_cons
def oC:=@Nat.zero_add
def qk:=@List.mem_filter
def zm:=@List.eq_nil_of_length_eq_zero
def qq:=@List.mem_append
def sm:=@decide_eq_true_eq
def xl:=@List.getElem?_eq_getElem
def zq:=@List.take_append_of_le_length
def rj:=@List.length_set
def td:=@of_decide_eq_true
def oQ:=@Nat.zero_le
def tv:=@List.take_add_one
def qj:=@Bool.true_and
def tu:=@List.cons_append
def vy:=@List.map_congr_left
def uz:=@List.getElem?_map
def xk:=@List.take_succ_cons
def yh:=@Nat.mul_le_mul_right
def xj:=@List.mem_singleton
def yo:=@List.mem_append_left
def zp:=@List.mem_append_right
def ve:=@List.nodup_cons
def xu:=@List.flatMap_cons
def zk:=@List.flatMap_append
def A5:=@List.getElem?_cons_succ
def vd:=@Bool.false_and
def Ck:=@Array.getD_eq_getD_getElem?
def AB:=@List.mem_iff_getElem?
def yg:=@List.mem_flatMap
def A4:=@List.getElem?_toArray
def A3:=@List.take_append_drop
def CY:=@List.getElem?_append_right
def Bh:=@List.perm_append_comm
def zj:=@Option.getD_some
def ym:=@Option.map_some
def vx:=@Nat.lt_or_ge
def B1:=@Nat.le_of_ble_eq_true
def Al:=@List.length_nil
def zi:=@List.nil_append
def DQ:=@List.drop_eq_getElem_cons
def wu:=@Nat.le_trans
def AA:=@List.nodup_append
def CX:=@List.getElem?_cons_zero
def Cj:=@List.length_singleton
def xi:=@List.map_map
def zh:=@List.mem_range
def A2:=@List.flatten_cons
def Bg:=@List.getElem?_drop
def CW:=@List.length_replicate
def GZ:=@List.drop_append_of_le_length
def Fb:=@List.getElem?_append_left
def yl:=@Int.le_refl
def Ak:=@Nat.succ_mul
def DP:=@Option.toList_some
def CV:=@List.take_length
def GY:=@Array.getElem?_eq_none
def zg:=@Nat.blt_eq
def Aj:=@Nat.add_mul
def Ew:=@List.pairwise_cons
def GX:=@List.length_filter_le
def DO:=@List.all_eq_true
def Ns:=@List.set_eq_take_append_cons_drop
def HD:=@List.drop_eq_nil_of_le
def Fa:=@of_decide_eq_false
def Nr:=@List.findIdx?_eq_some_iff_getElem
def CU:=@List.drop_drop
def DN:=@List.foldl_cons
def Jr:=@List.filter_cons_of_pos
def Jq:=@List.filter_cons_of_neg
def CT:=@Bool.false_or
def HC:=@List.filter_sublist
def GW:=@List.getElem?_set
def DM:=@Nat.add_assoc
def Eu:=@List.drop_zero
def CS:=@List.map_nil
def K2:=@List.eq_of_mem_replicate
def E9:=@Bool.or_eq_true
def HB:=@List.mem_filterMap
def Jp:=@List.mem_of_mem_drop
def Wh:=@Array.getElem?_setIfInBounds_self_of_lt
def HA:=@Bool.not_eq_true'
def Hz:=@List.ext_getElem?
def Jo:=@Array.length_toList
def Jn:=@List.filterMap_cons
def GV:=@Nat.min_eq_left
def Jm:=@List.getElem?_take
def Jl:=@List.set_cons_succ
def Jk:=@List.prefix_append
def Et:=@List.set_set
def Jj:=@List.filter_append
def Pw:=@Array.getElem?_setIfInBounds
def GU:=@List.take_zero
def K1:=@Bool.or_eq_false_iff
def Ji:=@List.size_toArray
def Jh:=@List.foldl_append
def K0:=@List.replicate_succ
def KZ:=@List.getElem?_range
def KY:=@List.filter_eq_self
def E8:=@Nat.add_zero
def E7:=@Int.mul_comm
def GS:=@List.map_take
def Pv:=@List.perm_append_singleton
def Jg:=@List.prefix_refl
def KX:=@List.set_cons_zero
def Nq:=@List.modify_succ_cons
def Hy:=@Bool.and_false
def Pu:=@Array.getElem?_eq_getElem
def Pt:=@List.mem_or_eq_of_mem_set
def Ps:=@List.findIdx?_eq_none_iff
def Pr:=@List.getElem?_zip_eq_some
def Wg:=@Array.getElem?_setIfInBounds_ne
def We:=@List.takeWhile_append_dropWhile
def Np:=@List.getElem?_of_mem
def Jf:=@List.range_succ
def Pq:=@Option.isSome_iff_exists
def KW:=@List.any_eq_false
def Wd:=@Int.mul_le_mul_of_nonneg_left
def Nn:=@List.flatten_append
def Nm:=@List.length_flatMap
def Je:=@Bool.not_false
def KV:=@List.drop_append
def KU:=@List.flatMap_nil
def KT:=@Nat.lt_succ_self
def Pp:=@List.filter_eq_nil_iff
def Hx:=@Nat.sub_self
def Hw:=@Nat.add_comm
def Nl:=@List.map_replicate
def KS:=@Option.map_none
def KR:=@List.find?_cons
def Jd:=@List.map_drop
def Po:=@List.mem_of_mem_take
def Pn:=@Array.toArray_toList
def Wc:=@Array.getElem?_replicate
def Nk:=@List.not_mem_nil
def Nj:=@List.any_eq_true
def Wb:=@List.getElem?_replicate
def Pm:=@Array.ext_getElem?
def Ni:=@Int.emod_nonneg
def Pl:=@Int.emod_lt_of_pos
def Nh:=@List.sum_append
def Ng:=@List.take_left
def Nf:=@Int.mul_nonneg
namespace Cv
open Go
@[reducible] def Env:=Nat->ab
def put (ρ:Env):Option Nat->ab->Env
 |none,_=>ρ
 |some d,v=>λi=>bif cx i d then v else ρ i
def ev (ρ:Env):ap->ab
 | .tmp t=>ρ t
 | .const v=>v
 | .global g=> .pointer (ay ⟨g,0,ba⟩)
 | .func f=> .func (.func f) #[] #[]
def gI {α:Type} (P:aa):Sem α->Option α
 | .pure a=>ay a
 | .program k=>gI P (k P)
 | .mark _ k=>gI P k
 |_=>ba
def vM {α:Type} {P:aa}:∀{s:Sem α} {a:α},gI P s=ay a->∀w,s.run P w= .ok a w:=by
 intro s
 induction s with
 |pure a=>intro b h w;simp only[gI,cu]at h;subst h;rfl
 |program k ih=>intro b h w;simp only[gI]at h;exact ih _ h w
 |mark m k ih=>intro b h w;simp only[gI]at h;exact ih h w
 |_=>intro b h w;simp[gI]at h
def run_bind {α β:Type} (P:aa) (s:Sem α) (f:α->Sem β) (w:ac):(s.bind f).run P w=match s.run P w with| .ok a w'=>(f a).run P w'| .halt h w'=> .halt h w':=by
 induction s generalizing w with
 |pure a=>rfl
 |halt h=>rfl
 |load m a k ih=>simp only[bg,be];split<;>first|exact ih _ _|(split<;>first|exact ih _ _|rfl)
 |store m a v k ih=>
  cases v<;>simp only[bg,be]<;>first|rfl|(split<;>first|(split<;>first|exact ih _|rfl))
 |new o k ih=>exact ih _ _
 |shape r k ih=>exact ih _ _
 |freeze a n k ih=>exact ih _
 |frozen a k ih=>exact ih _ _
 |getObj r k ih=>simp only[bg,be];split<;>first|rfl|exact ih _ _
 |setObj r o k ih=>simp only[bg,be];split<;>first|rfl|exact ih _
 |choose q k ih=>simp only[bg,be];split<;>exact ih _ _
 |sys c k ih=>exact ih _ _
 |program k ih=>exact ih _ _
 |mark m k ih=>exact ih _
inductive Sh where
 |int (k:ag)|bool|str|ptr|sl|map|any
def yPu:ab->Sh
 | .int k _=> .int k
 | .bool _=> .bool
 | .string _=> .str
 | .pointer _=> .ptr
 | .slice _ _ _=> .sl
 | .map _=> .map
 |_=> .any
def C9:Sh->(ab->Prop)->Prop
 | .int k,K=>∃n:Int,K (.int k n)
 | .bool,K=>∃b:Bool,K (.bool b)
 | .str,K=>∃s:ByteArray,K (.string s)
 | .ptr,K=>∃a:Option am,K (.pointer a)
 | .sl,K=>∃(a:Option am) (n c:Nat),K (.slice a n c)
 | .map,K=>∃r:Option Nat,K (.map r)
 | .any,K=>∃v:ab,K v
def wT {s:Sh} {K:ab->Prop} (h:C9 s K):∃v,K v:=by
 cases s<;>simp only[C9]at h<;>first|(obtain⟨n,h⟩:=h;exact⟨_,h⟩)|(obtain⟨a,n,c,h⟩:=h;exact⟨_,h⟩)
def exL:List ab->(List ab->Prop)->Prop
 |[],K=>K []
 |z::zs,K=>C9 (yPu z) λv=>exL zs λvs=>K (v::vs)
def yCo:∀{zs:List ab} {K:List ab->Prop},exL zs K->∃vs,K vs
 |[],_,h=>⟨_,h⟩
 |_::_,_,h=>let⟨_,h1⟩:=wT h;let⟨_,h2⟩:=yCo h1;⟨_,h2⟩
structure Raw where
 i:Nat->Int
 b:Nat->Bool
 s:Nat->ByteArray
 p:Nat->Option am
 a:Nat->Option am
 n:Nat->Nat
 k:Nat->Nat
 m:Nat->Option Nat
 v:Nat->ab
def Raw.cell (r:Raw) (j:Nat):ab->ab
 | .int k _=> .int k (r.i j)
 | .bool _=> .bool (r.b j)
 | .string _=> .string (r.s j)
 | .pointer _=> .pointer (r.p j)
 | .slice _ _ _=> .slice (r.a j) (r.n j) (r.k j)
 | .map _=> .map (r.m j)
 |_=>r.v j
def y6q (r:Raw):List ab->Nat->List ab
 |[],_=>[]
 |z::zs,j=>r.cell j z::y6q r zs (j+1)
def xCa (z:ab) (r:Raw):ab:=
 match z with
 | .agg cs=> .agg (y6q r cs.toList 0).toArray
 |z=>z
def exV:ab->(ab->Prop)->Prop
 | .agg cs,K=>bif cz cs.size 9 then exL cs.toList λvs=>K (.agg vs.toArray)else ∃r:Raw,K (xCa (.agg cs) r)
 |z,K=>C9 (yPu z) K
def vW {z:ab} {K:ab->Prop} (h:exV z K):∃v,K v:=by
 cases z<;>simp only[exV]at h<;>first
  |exact wT h
  |(revert h;cases cz _ 9<;>intro h
    ·obtain⟨r,h⟩:=h;exact⟨_,h⟩
    ·obtain⟨_,h⟩:=yCo h;exact⟨_,h⟩)
def y1m (P:aa) (t:ae):ab:=
 match P.info? t with
 |some i=>i.zero.getD ao
 |none=>ao
def EH (P:aa) (t:ae) (K:ab->Prop):Prop:=exV (y1m P t) K
def y3m (P:aa):List ae->(List ab->Prop)->Prop
 |[],K=>K []
 |t::ts,K=>EH P t λv=>y3m P ts λvs=>K (v::vs)
def z5u {P:aa}:∀{ts:List ae} {K:List ab->Prop},y3m P ts K->∃vs,K vs
 |[],_,h=>⟨_,h⟩
 |_::_,_,h=>let⟨_,h1⟩:=vW h;let⟨_,h2⟩:=z5u h1;⟨_,h2⟩
def Rp (P:aa) (t:ae) (K:ab->Prop):Prop:=
 match P.underlying t with
 |some (.tuple ts)=>y3m P ts.toList λvs=>K (.tuple vs.toArray)
 |_=>EH P t K
def yDm {P:aa} {t:ae} {K:ab->Prop} (h:Rp P t K):∃v,K v:=by
 unfold Rp at h;split at h
 ·obtain⟨_,h⟩:=z5u h;exact⟨_,h⟩
 ·exact vW h
def fF (P:aa) (t:ae):Option Nat:=
 match P.underlying t with
 |some (.slice e)=>(P.info? e).map λ(x:TypeInfo)=>x.size
 |_=>ba
def mD (P:aa) (t:ae):Option (Nat×Nat):=
 match P.underlying t with
 |some (.array n e)=>(P.info? e).map λ(x:TypeInfo)=>(n,x.size)
 |_=>ba
def I4 (p:Option am) (K:am->Prop):Prop:=
 match p with
 |some a=>K a
 |none=>False
def y1g (p:Option am) (n:Nat) (i:Int) (K:am->Prop):Prop:=
 match p with
 |some a=>(0<=i/\i<n)/\K a
 |none=>False
def y3v (s:ByteArray) (i:Int) (K:UInt8->Prop):Prop:=∃b:UInt8,(0<=i/\s[i.toNat]?=ay b)/\K b
def uq (p:Option am) (n c:Nat) (lo hi:Option Int) (sz:Nat) (K:Option am->Nat->Nat->Prop):Prop:=
 match lo,hi with
 |none,ba=>(n<=c)/\K p n c
 |some l,ba=>(0<=l/\l<=n/\n<=c)/\K (if c=l.toNat then p else p.map (·.add (l.toNat*sz))) (n-l.toNat) (c-l.toNat)
 |none,ay h=>(0<=h/\h<=c)/\K p h.toNat c
 |some l,ay h=>(0<=l/\l<=h/\h<=c)/\K (if c=l.toNat then p else p.map (·.add (l.toNat*sz))) (h.toNat-l.toNat) (c-l.toNat)
def y2z (p:Option am) (c:Nat) (l h m:Int) (sz:Nat) (K:Option am->Nat->Nat->Prop):Prop:=
 (0<=l/\l<=h/\h<=m/\m<=c)/\K (if m.toNat=l.toNat then p else p.map (·.add (l.toNat*sz))) (h.toNat-l.toNat) (m.toNat-l.toNat)
def yWz (s:ByteArray) (lo hi:Option Int) (K:ByteArray->Prop):Prop:=
 match lo,hi with
 |none,ba=>K s
 |some l,ba=>(0<=l/\l<=s.size)/\K (s.extract l.toNat s.size)
 |none,ay h=>(0<=h/\h<=s.size)/\K (s.extract 0 h.toNat)
 |some l,ay h=>(0<=l/\l<=h/\h<=s.size)/\K (s.extract l.toNat h.toNat)
def Dd (ρ:Env):Option ap->Option (Option Int)
 |none=>ay ba
 |some x=>match ev ρ x with
  | .int _ n=>ay (ay n)
  |_=>ba
def Ep (l h:Option (Option Int)) (K:Option Int->Option Int->Prop):Prop:=
 match l,h with
 |some l,ay h=>K l h
 |_,_=>False
def cW (P:aa) (t:ae) (x:ab):Option Bool:=
 match P.underlying t,x with
 |some (.pointer _),.pointer p=>ay p.isNone
 |some (.slice _),.slice p _ _=>ay p.isNone
 |some (.map _ _),.map r=>ay r.isNone
 |_,_=>ba
def xCo:ab->Bool
 | .pointer ba=>bu
 | .slice ba _ _=>bu
 | .map ba=>bu
 |_=>bv
def VB:ab->Bool
 | .pointer ba=>bu
 |_=>bv
def KG:ab->Bool
 | .slice ba _ _=>bu
 |_=>bv
def Vy:ab->Bool
 | .map ba=>bu
 |_=>bv
def MG (P:aa) (s:Sem Next) (K:ab->Prop):Prop:=
 match gI P s with
 |some (.value v)=>K v
 |_=>False
def yXe (P:aa) (neg:Bool) (t:ae) (x y:ab) (K:Bool->Prop):Prop:=
 ∃b:Bool,gI P (Op.equal t x y)=ay b/\gI P (ak (if neg then .neq else .eql) t (.tmp 0) (.tmp 0) x y)=ay ()/\
  (match y with| .agg _=>bu|_=>bv)=bu/\K (if neg then !b else b)
def KP (o:Option Bool) (K:Bool->Prop):Prop:=
 match o with
 |some r=>K r
 |none=>False
def rU {o:Option Bool} {K:Bool->Prop} (h:KP o K):∃r,o=ay r/\K r:=by
 cases o with
 |none=>exact h.elim
 |some r=>exact⟨r,rfl,h⟩
def xAd (k k':ag) (b:Int) (A:Prop):Prop:=k=k'/\b≠0/\A
def shN (b:Int) (A:Prop):Prop:=0<=b/\A
def xCj (a b:ByteArray) (A:Prop):Prop:=(((a.size+b.size:Nat):Int)<=dh.max)/\A
def Rq (k k':ag) (A:Prop):Prop:=
 match k,k' with
 | .i8,.i8=>A
 | .i16,.i16=>A
 | .i32,.i32=>A
 | .i64,.i64=>A
 | .u8,.u8=>A
 | .u16,.u16=>A
 | .u32,.u32=>A
 | .u64,.u64=>A
 |_,_=>False
def T5 {k k':ag} {A:Prop} (h:Rq k k' A):k=k'/\A:=by
 cases k<;>cases k'<;>first|exact⟨rfl,h⟩|exact h.elim
def I' (k:ag) (a b:Int):Int:=k.wrap (a*2 ^ (min b.toNat k.bits))
def nA (k:ag) (a b:Int):Int:=a.fdiv (2 ^ (min b.toNat k.bits))
def Cc (k:ag) (a b:Int):Int:=k.wrap ((db k.bits a &&& db k.bits b).toNat:Int)
def G5 (k:ag) (a b:Int):Int:=k.wrap ((db k.bits a|||BitVec.ofInt k.bits b).toNat:Int)
def Ch (k:ag) (a b:Int):Int:=k.wrap ((db k.bits a ^^^ db k.bits b).toNat:Int)
def OI (k:ag) (a b:Int):Int:=k.wrap ((db k.bits a &&& ~~~ db k.bits b).toNat:Int)
def bI (P:aa) (o:aj) (ρ:Env) (K:ab->Prop):Prop:=
 match o.op with
 | .move x=>K (ev ρ x)
 | .assign x=>K (ev ρ x)
 | .pick c a b=>
   match ev ρ c with
   | .bool t=>K (bif t then ev ρ a else ev ρ b)
   |_=>False
 | .nilCheck x=>
   match ev ρ x with
   | .pointer p=>I4 p λa=>K (.pointer (ay a))
   |_=>MG P (af (ev ρ) o) K
 | .indexAddr t x i=>
   match ev ρ x,ev ρ i with
   | .slice p n _,.int _ i=>match fF P t with
     |some sz=>y1g p n i λa=>K (.pointer (ay (a.add (i.toNat*sz))))
     |none=>False
   | .pointer p,.int _ i=>match mD P t with
     |some (len,sz)=>y1g p len i λa=>K (.pointer (ay (a.add (i.toNat*sz))))
     |none=>False
   |_,_=>False
 | .index t x i=>
   match ev ρ x,ev ρ i with
   | .string s,.int _ i=>match P.underlying t with
     |some .string=>y3v s i λb=>K (.int .u8 b.toNat)
     |_=>False
   |x,j=>match i with
    | .const _=>MG P (af (ev ρ) o) K
    |_=>EH P o.type λv=>gI P (Instr.index t x j)=ay v/\K v
 | .panic _=>False
 | .typeAssert x xT asserted ok=>
   match ok with
   |true=>EH P asserted λv=>C9 .bool λb=>gI P (cr (ev ρ x) xT asserted bu)=ay (.tuple #[v,b])/\K (.tuple #[v,b])
   |false=>EH P asserted λv=>gI P (cr (ev ρ x) xT asserted bv)=ay v/\K v
 | .slice t x lo hi mx=>
   match ev ρ x,mx with
   | .slice p _ c,ay m=>match fF P t,Dd ρ lo,Dd ρ hi,ev ρ m with
     |some sz,ay (ay l),ay (ay h),.int _ m=>y2z p c l h m sz λp n c=>K (.slice p n c)
     |_,_,_,_=>False
   | .slice p n c,ba=>match fF P t with
     |some sz=>Ep (Dd ρ lo) (Dd ρ hi) λl h=>uq p n c l h sz λp n c=>K (.slice p n c)
     |none=>False
   | .string s,ba=>match P.underlying t with
     |some .string=>Ep (Dd ρ lo) (Dd ρ hi) λl h=>yWz s l h λs=>K (.string s)
     |_=>False
   | .pointer p,ba=>match mD P t with
     |some (n,sz)=>I4 p λa=>Ep (Dd ρ lo) (Dd ρ hi) λl h=>uq (ay a) n n l h sz λp n c=>K (.slice p n c)
     |none=>False
   |_,_=>False
 | .binOp op t x y _=>
   match op,ev ρ x,ev ρ y with
   | .quo,.int k a,.int k' b=>xAd k k' b (K (.int k (k.wrap (a.tdiv b))))
   | .rem,.int k a,.int k' b=>xAd k k' b (K (.int k (a.tmod b)))
   | .shl,.int k a,.int _ b=>shN b (K (.int k (I' k a b)))
   | .shr,.int k a,.int _ b=>shN b (K (.int k (nA k a b)))
   | .and,.int k a,.int k' b=>Rq k k' (K (.int k (Cc k a b)))
   | .or,.int k a,.int k' b=>Rq k k' (K (.int k (G5 k a b)))
   | .xor,.int k a,.int k' b=>Rq k k' (K (.int k (Ch k a b)))
   | .andNot,.int k a,.int k' b=>Rq k k' (K (.int k (OI k a b)))
   | .add,.string a,.string b=>xCj a b (K (.string (a++b)))
   | .eql,.pointer p,b=>bif VB b then(KP (cW P t (.pointer p)) λr=>K (.bool r))else False
   | .neq,.pointer p,b=>bif VB b then(KP (cW P t (.pointer p)) λr=>K (.bool !r))else False
   | .eql,.slice p n c,b=>bif KG b then(KP (cW P t (.slice p n c)) λr=>K (.bool r))else False
   | .neq,.slice p n c,b=>bif KG b then(KP (cW P t (.slice p n c)) λr=>K (.bool !r))else False
   | .eql,.map r,b=>bif Vy b then(KP (cW P t (.map r)) λr=>K (.bool r))else False
   | .neq,.map r,b=>bif Vy b then(KP (cW P t (.map r)) λr=>K (.bool !r))else False
   | .eql,.agg a,b=>yXe P bv t (.agg a) b λr=>K (.bool r)
   | .neq,.agg a,b=>yXe P bu t (.agg a) b λr=>K (.bool r)
   |_,_,_=>MG P (af (ev ρ) o) K
 |_=>MG P (af (ev ρ) o) K
def EP (P:aa) (s:Sem Next) (v:ab):Prop:=∀w,s.run P w=.ok (.value v) w
def b8 {P:aa} {s:Sem Next} {K:ab->Prop} (h:MG P s K):∃v,K v/\EP P s v:=by
 unfold MG at h;split at h
 ·rename_i v hv;exact⟨v,h,vM hv⟩
 ·exact h.elim
def Addr.add_zero (a:am):a.add 0=a:=by simp[Addr.add]
def lI (p:Option am):p.map (·.add 0)=p:=by cases p<;>simp[Addr.add_zero]
def yF {P:aa} {s:Sem ab} {v:ab} (h:∀w,s.run P w= .ok v w):EP P (do pure (Next.value (<- s))) v:=by
 intro w;show(s.bind λa=> .pure (Next.value a)).run P w=_;rw[run_bind,h w];rfl
def zBb {P:aa} {t:ae} {sz:Nat} (h:fF P t=ay sz):∃e i,P.underlying t=ay (.slice e)/\P.info? e=ay i/\i.size=sz:=by
 unfold fF at h;split at h
 ·rename_i e he;cases hi:P.info? e with
  |none=>simp[hi]at h
  |some i=>simp[hi]at h;exact⟨e,i,he,hi,h⟩
 ·cases h
def zHr {P:aa} {t:ae} {n sz:Nat} (h:mD P t=ay (n,sz)):∃e i,P.underlying t=ay (.array n e)/\P.info? e=ay i/\i.size=sz:=by
 unfold mD at h;split at h
 ·rename_i m e he;cases hi:P.info? e with
  |none=>simp[hi]at h
  |some i=>simp[hi]at h;obtain⟨rfl,h⟩:=h;exact⟨e,i,he,hi,h⟩
 ·cases h
def run_underlying {P:aa} {t:ae} {d:TypeDesc} (h:P.underlying t=ay d) (w:ac):(underlying t).run P w= .ok d w:=by
 show ((Sem.program Sem.pure).bind λp => match p.underlying t with | some d => Sem.pure d | none => stuck "no such type").run P w = _;simp only[bg,be,h]
def run_sizeOf {P:aa} {t:ae} {i:TypeInfo} (h:P.info? t=ay i) (w:ac):(Go.sizeOf t).run P w= .ok i.size w:=by
 have HK:(typeInfo t).run P w= .ok i w:=by
  unfold typeInfo;show((Sem.program bo).bind _).run P w=_;simp only[bg,be,h];rfl
 show((typeInfo t).bind λi=>bo i.size).run P w=_;rw[run_bind,HK];rfl
def wD {P:aa} {t:ae} {sz n c:Nat} {a:am} {k:ag} {i:Int} (h:fF P t=ay sz) (hi:0<=i/\i<n) (w:ac):
 (Instr.indexAt t (.slice (ay a) n c) (.int k i)).run P w= .ok (.pointer (ay (a.add (i.toNat*sz)))) w:=by
 obtain⟨e,ti,h1,h2,rfl⟩:=zBb h;simp only[Instr.indexAt,asIntOf,bind,pure,run_bind,bg,be,run_underlying h1,fk hi,run_sizeOf h2]
def cN {P:aa} {t:ae} {sz n:Nat} {a:am} {k:ag} {i:Int} (h:mD P t=ay (n,sz)) (hi:0<=i/\i<n) (w:ac):
 (Instr.indexAt t (.pointer (ay a)) (.int k i)).run P w= .ok (.pointer (ay (a.add (i.toNat*sz)))) w:=by
 obtain⟨e,ti,h1,h2,rfl⟩:=zHr h;simp only[Instr.indexAt,asIntOf,Instr.sureAddr,bind,pure,run_bind,bg,be,run_underlying h1,fk hi,run_sizeOf h2]
def jO {P:aa} {k:ag} {i:Int} {y:Nat} {code:BoundsCode} (h:0<=i/\i<=y) (w:ac):(Instr.sliceBound (.int k i) y code).run P w= .ok i.toNat w:=by
 simp only[Instr.sliceBound,asIntOf,bind,pure,bg,be,fk h]
def Uu {ρ:Env} {x:Option ap} {r:Option Int} (h:Dd ρ x=ay r):(x=ba/\r=ba)\/∃y k n,x=ay y/\ev ρ y= .int k n/\r=ay n:=by
 unfold Dd at h;split at h
 ·left;exact⟨rfl,by simpa using h.symm⟩
 ·rename_i y;right;split at h
  ·rename_i k n hv;exact⟨y,k,n,rfl,hv,by simpa using h.symm⟩
  ·cases h
def rH {l h:Option (Option Int)} {K:Option Int->Option Int->Prop} (hh:Ep l h K):∃a b,l=ay a/\h=ay b/\K a b:=by
 unfold Ep at hh;split at hh
 ·rename_i a b;exact⟨a,b,rfl,rfl,hh⟩
 ·exact hh.elim
def zFo {P:aa} {ρ:Env} {lo hi:Option ap} {l h:Option Int} (isSlice:Bool) {len cap:Nat} (h1:Dd ρ lo=ay l) (h2:Dd ρ hi=ay h)
 (hlen:h=ba->len<=cap) (hh:∀x,h=ay x->0<=x/\x<=cap) (hl:∀x,l=ay x->0<=x/\x<=((h.map da).getD len:Nat)) (w:ac):
 (cp isSlice len cap (lo.map (ev ρ)) (hi.map (ev ρ)) ba).run P w= .ok ((l.map da).getD 0,(h.map da).getD len,cap) w:=by
 rcases Uu h1 with⟨rfl,rfl⟩|⟨x,k,n,rfl,hx,rfl⟩<;>rcases Uu h2 with⟨rfl,rfl⟩|⟨y,k',m,rfl,hy,rfl⟩
 ·simp only[cp,KS,bind,pure,bg,be,run_bind,Option.getD_none]
 ·have:=hh m rfl;simp only[cp,KS,ym,hy,bind,pure,bg,be,run_bind,Option.getD_none,jO this,zj]
 ·have h3:=hl n rfl;simp only[KS,Option.getD_none]at h3;simp only[cp,KS,ym,hx,bind,pure,bg,be,run_bind,Option.getD_none,jO h3,zj]
 ·have h3:=hl n rfl;have h4:=hh m rfl;simp only[ym,zj]at h3;simp only[cp,ym,hx,hy,bind,pure,bg,be,run_bind,jO h3,jO h4,zj]
def yBm {p:Option am} {n c:Nat} {l h:Option Int} {sz:Nat} {K:Option am->Nat->Nat->Prop} (hk:uq p n c l h sz K):
 (h=ba->n<=c)/\(∀x,h=ay x->0<=x/\x<=c)/\(∀x,l=ay x->0<=x/\x<=((h.map da).getD n:Nat))/\
 K (if c=(l.map da).getD 0 then p else p.map (·.add ((l.map da).getD 0*sz))) ((h.map da).getD n-(l.map da).getD 0) (c-(l.map da).getD 0):=by
 unfold uq at hk;split at hk
 ·refine⟨λ_=>hk.1,by simp,by simp,?_⟩;simpa[lI]using hk.2
 ·refine⟨λ_=>hk.1.2.2,by simp,?_,by simpa using hk.2⟩;intro x hx;cases hx;simp;omega
 ·refine⟨by simp,?_,by simp,by simpa[lI]using hk.2⟩;intro x hx;cases hx;omega
 ·refine⟨by simp,?_,?_,by simpa using hk.2⟩
  ·intro x hx;cases hx;omega
  ·intro x hx;cases hx;simp;omega
def z9i {P:aa} {ρ:Env} {t:ae} {x:ap} {lo hi:Option ap} {o:aj} {K:ab->Prop} (ho:o.op= .slice t x lo hi ba)
 (h:bI P o ρ K):∃v,K v/\EP P (af (ev ρ) o) v:=by
 simp only[bI,ho]at h;split at h
 ·rename_i heq;cases heq
 ·rename_i p n c hx _;split at h
  ·rename_i sz oW;obtain⟨l,u,h1,h2,h3⟩:=rH h;obtain⟨q1,q2,q3,q4⟩:=yBm h3;obtain⟨e,ti,e1,e2,rfl⟩:=zBb oW;refine⟨_,q4,?_⟩;simp only[af,ho];refine yF λw=> ?_
   simp only[Instr.sliceAt,Instr.slice,hx,bind,pure,bg,be,run_bind,run_underlying e1,KS,zFo bu h1 h2 q1 q2 q3,run_sizeOf e2]
  ·exact h.elim
 ·rename_i s hx _;split at h
  ·rename_i ht;obtain⟨l,u,h1,h2,h3⟩:=rH h;have q:(∀x,u=ay x->0<=x/\x<=s.size)/\(∀x,l=ay x->0<=x/\x<=((u.map da).getD s.size:Nat))/\K (.string (s.extract ((l.map da).getD 0) ((u.map da).getD s.size))):=by
    unfold yWz at h3;split at h3
    ·refine⟨by simp,by simp,?_⟩;have:s.extract 0 s.size=s:=by simp
     simpa[this]using h3
    ·refine⟨by simp,?_,by simpa using h3.2⟩;intro x hx;cases hx;simp;omega
    ·refine⟨?_,by simp,by simpa using h3.2⟩;intro x hx;cases hx;omega
    ·refine⟨?_,?_,by simpa using h3.2⟩
     ·intro x hx;cases hx;omega
     ·intro x hx;cases hx;simp;omega
   obtain⟨q2,q3,q4⟩:=q;refine⟨_,q4,?_⟩;simp only[af,ho];refine yF λw=> ?_
   simp only[Instr.sliceAt,Instr.slice,hx,bind,pure,bg,be,run_bind,run_underlying ht,KS,Option.isSome_none,nr,if_false,zFo bv h1 h2 (λ_=>mg _) q2 q3]
  ·exact h.elim
 ·rename_i p hx _;split at h
  ·rename_i n sz oW;unfold I4 at h;split at h
   ·rename_i a;obtain⟨l,u,h1,h2,h3⟩:=rH h;obtain⟨q1,q2,q3,q4⟩:=yBm h3;obtain⟨e,ti,e1,e2,rfl⟩:=zHr oW;refine⟨_,q4,?_⟩;simp only[af,ho];refine yF λw=> ?_
    simp only[Instr.sliceAt,Instr.sureAddr,hx,bind,pure,bg,be,run_bind,run_underlying e1,KS,zFo bv h1 h2 q1 q2 q3,run_sizeOf e2];split<;>simp
   ·exact h.elim
  ·exact h.elim
 ·exact h.elim
def nZ (t:ae) (x y:ab):Op.equal t x y=Op.equalIn (9999+1) t x y:=rfl
def aE {P:aa} {t:ae} {p:Option am} {r:Bool} (h:cW P t (.pointer p)=ay r) (w:ac):(Op.equal t (.pointer p) (.pointer ba)).run P w= .ok r w:=by
 have hu:r=p.isNone/\∃d,P.underlying t=ay d/\(match d with| .pointer _=>True|_=>False):=by
  unfold cW at h;cases hd:P.underlying t with
  |none=>simp[hd]at h
  |some d=>cases d<;>simp[hd]at h;exact⟨h.symm,_,rfl,trivial⟩
 obtain⟨rfl,d,hd,hm⟩:=hu;cases d<;>first|exact hm.elim|skip
 rw[nZ];generalize 9999=d;unfold Op.equalIn;simp only[bind,pure,run_bind,run_underlying hd];cases p<;>rfl
def fV {P:aa} {t:ae} {p:Option am} {n c m k:Nat} {r:Bool} (h:cW P t (.slice p n c)=ay r) (w:ac):(Op.equal t (.slice p n c) (.slice ba m k)).run P w= .ok r w:=by
 have hu:r=p.isNone/\∃d,P.underlying t=ay d/\(match d with| .slice _=>True|_=>False):=by
  unfold cW at h;cases hd:P.underlying t with
  |none=>simp[hd]at h
  |some d=>cases d<;>simp[hd]at h;exact⟨h.symm,_,rfl,trivial⟩
 obtain⟨rfl,d,hd,hm⟩:=hu;cases d<;>first|exact hm.elim|skip
 rw[nZ];generalize 9999=d;unfold Op.equalIn;simp only[bind,pure,run_bind,run_underlying hd];cases p<;>rfl
def aB {P:aa} {t:ae} {p:Option Nat} {r:Bool} (h:cW P t (.map p)=ay r) (w:ac):(Op.equal t (.map p) (.map ba)).run P w= .ok r w:=by
 have hu:r=p.isNone/\∃d,P.underlying t=ay d/\(match d with| .map _ _=>True|_=>False):=by
  unfold cW at h;cases hd:P.underlying t with
  |none=>simp[hd]at h
  |some d=>cases d<;>simp[hd]at h;exact⟨h.symm,_,rfl,trivial⟩
 obtain⟨rfl,d,hd,hm⟩:=hu;cases d<;>first|exact hm.elim|skip
 rw[nZ];generalize 9999=d;unfold Op.equalIn;simp only[bind,pure,run_bind,run_underlying hd];cases p<;>rfl
def sH {p:Option am} {K:am->Prop} (h:I4 p K):∃a,p=ay a/\K a:=by
 cases p with
 |none=>exact h.elim
 |some a=>exact⟨a,rfl,h⟩
def z2p {p:Option am} {n:Nat} {i:Int} {K:am->Prop} (h:y1g p n i K):∃a,p=ay a/\(0<=i/\i<n)/\K a:=by
 cases p with
 |none=>exact h.elim
 |some a=>exact⟨a,rfl,h⟩
def xX {P:aa} {o:aj} {ρ:Env} {neg:Bool} {t:ae} {x y:ap} {u:ae} {r:Bool} (ho:o.op= .binOp (if neg then .neq else .eql) t x y u)
 (hx:match ev ρ x with| .pointer _=>True| .slice _ _ _=>True| .map _=>True| .agg _=>True|_=>False)
 (hy:match ev ρ y with| .pointer _=>True| .slice _ _ _=>True| .map _=>True| .agg _=>True|_=>False)
 (hg:∀w,(ak (if neg then .neq else .eql) t x y (ev ρ x) (ev ρ y)).run P w= .ok () w)
 (he:∀w,(Op.equal t (ev ρ x) (ev ρ y)).run P w= .ok r w):EP P (af (ev ρ) o) (.bool (if neg then !r else r)):=by
 simp only[af,ho];refine yF λw=> ?_
 simp only[bind,run_bind,hg w];generalize ev ρ x=a at*;generalize ev ρ y=b at*;cases neg<;>cases a<;>(first|exact hx.elim|skip)<;>cases b<;>(first|exact hy.elim|skip)<;>simp only[binOp,nr,if_false,if_true,bind,pure,run_bind,he w,be]
def zNh {P:aa} {op:BinOp} {t:ae} {x y x' y':ap} {a b:ab} (ha:a≠.nilIface) (w:ac):
 (ak op t x y a b).run P w=(ak op t x' y' a b).run P w:=by
 cases a<;>first|exact(ha rfl).elim|skip
 all_goals cases op<;>first|rfl|(cases b<;>rfl)
def xD {P:aa} {op:BinOp} {t:ae} {x y:ap} {a b:ab} (ha:match a with| .pointer _=>True| .slice _ _ _=>True| .map _=>True|_=>False) (w:ac):
 (ak op t x y a b).run P w= .ok () w:=by
 cases a<;>first|exact ha.elim|(cases op<;>rfl)
def yAx {y:ab} (h:VB y=bu):y= .pointer ba:=by
 cases y<;>simp[VB]at h
 rename_i a;cases a<;>simp at h ⊢
def yBb {y:ab} (h:KG y=bu):∃n c,y= .slice ba n c:=by
 cases y<;>simp[KG]at h
 rename_i a n c;cases a<;>simp at h ⊢
def yCn {y:ab} (h:Vy y=bu):y= .map ba:=by
 cases y<;>simp[Vy]at h
 rename_i a;cases a<;>simp at h ⊢
def zL {b:Bool} {A:Prop} (h:bif b then A else False):b=bu/\A:=by
 cases b
 ·exact h.elim
 ·exact⟨rfl,h⟩
def yRa {P:aa} {ρ:Env} {op:BinOp} {t u:ae} {x y:ap} {o:aj} {K:ab->Prop} (ho:o.op= .binOp op t x y u)
 (h:bI P o ρ K):∃v,K v/\EP P (af (ev ρ) o) v:=by
 simp only[bI,ho]at h;split at h
 ·rename_i k a k' b hx hy;obtain⟨rfl,hb,h⟩:=h;refine⟨_,h,?_⟩;simp only[af,ho];refine yF λw=> ?_
  simp[hx,hy,ak,binOp,Op.intDiv,hb,bind,pure,bg,be]
 ·rename_i k a k' b hx hy;obtain⟨rfl,hb,h⟩:=h;refine⟨_,h,?_⟩;simp only[af,ho];refine yF λw=> ?_
  simp[hx,hy,ak,binOp,Op.intDiv,hb,bind,pure,bg,be]
 ·rename_i k a k' b hx hy;obtain⟨hb,h⟩:=h;refine⟨_,h,?_⟩;simp only[af,ho];refine yF λw=> ?_
  simp[hx,hy,ak,binOp,Op.shift,Int.not_lt.2 hb,bind,pure,bg,be,I',nA]
 ·rename_i k a k' b hx hy;obtain⟨hb,h⟩:=h;refine⟨_,h,?_⟩;simp only[af,ho];refine yF λw=> ?_
  simp[hx,hy,ak,binOp,Op.shift,Int.not_lt.2 hb,bind,pure,bg,be,I',nA]
 ·rename_i k a k' b hx hy;obtain⟨hk,h'⟩:=T5 h;subst hk;refine⟨_,h',?_⟩;simp only[af,ho];refine yF λw=> ?_
  simp[hx,hy,ak,binOp,Op.intBits,bind,pure,bg,be,Cc,G5,Ch,OI]
 ·rename_i k a k' b hx hy;obtain⟨hk,h'⟩:=T5 h;subst hk;refine⟨_,h',?_⟩;simp only[af,ho];refine yF λw=> ?_
  simp[hx,hy,ak,binOp,Op.intBits,bind,pure,bg,be,Cc,G5,Ch,OI]
 ·rename_i k a k' b hx hy;obtain⟨hk,h'⟩:=T5 h;subst hk;refine⟨_,h',?_⟩;simp only[af,ho];refine yF λw=> ?_
  simp[hx,hy,ak,binOp,Op.intBits,bind,pure,bg,be,Cc,G5,Ch,OI]
 ·rename_i k a k' b hx hy;obtain⟨hk,h'⟩:=T5 h;subst hk;refine⟨_,h',?_⟩;simp only[af,ho];refine yF λw=> ?_
  simp[hx,hy,ak,binOp,Op.intBits,bind,pure,bg,be,Cc,G5,Ch,OI]
 ·rename_i a b hx hy;obtain⟨hb,h⟩:=h;refine⟨_,h,?_⟩;simp only[af,ho];refine yF λw=> ?_
  have Ao:¬(((a.size+b.size:Nat):Int)>dh.max):=Int.not_lt.2 hb;simp only[hx,hy,ak,binOp,Op.stringOp,dx Ao,bind,pure,bg,be];rfl
 ·rename_i p hx;generalize hy:ev ρ y=b at h;obtain⟨hn,h⟩:=zL h;obtain⟨r,hr,h⟩:=rU h;have hb:=yAx hn;refine⟨_,h,?_⟩;exact xX (neg:=bv) ho (by simp[hx]) (by simp[hy,hb]) (λw=>by rw[hx];exact xD trivial w) (λw=>by rw[hx,hy,hb];exact aE hr w)
 ·rename_i p hx;generalize hy:ev ρ y=b at h;obtain⟨hn,h⟩:=zL h;obtain⟨r,hr,h⟩:=rU h;have hb:=yAx hn;refine⟨_,h,?_⟩;exact xX (neg:=bu) ho (by simp[hx]) (by simp[hy,hb]) (λw=>by rw[hx];exact xD trivial w) (λw=>by rw[hx,hy,hb];exact aE hr w)
 ·rename_i p n c hx;generalize hy:ev ρ y=b at h;obtain⟨hn,h⟩:=zL h;obtain⟨r,hr,h⟩:=rU h;obtain⟨m,d,hb⟩:=yBb hn;refine⟨_,h,?_⟩;exact xX (neg:=bv) ho (by simp[hx]) (by simp[hy,hb]) (λw=>by rw[hx];exact xD trivial w) (λw=>by rw[hx,hy,hb];exact fV hr w)
 ·rename_i p n c hx;generalize hy:ev ρ y=b at h;obtain⟨hn,h⟩:=zL h;obtain⟨r,hr,h⟩:=rU h;obtain⟨m,d,hb⟩:=yBb hn;refine⟨_,h,?_⟩;exact xX (neg:=bu) ho (by simp[hx]) (by simp[hy,hb]) (λw=>by rw[hx];exact xD trivial w) (λw=>by rw[hx,hy,hb];exact fV hr w)
 ·rename_i p hx;generalize hy:ev ρ y=b at h;obtain⟨hn,h⟩:=zL h;obtain⟨r,hr,h⟩:=rU h;have hb:=yCn hn;refine⟨_,h,?_⟩;exact xX (neg:=bv) ho (by simp[hx]) (by simp[hy,hb]) (λw=>by rw[hx];exact xD trivial w) (λw=>by rw[hx,hy,hb];exact aB hr w)
 ·rename_i p hx;generalize hy:ev ρ y=b at h;obtain⟨hn,h⟩:=zL h;obtain⟨r,hr,h⟩:=rU h;have hb:=yCn hn;refine⟨_,h,?_⟩;exact xX (neg:=bu) ho (by simp[hx]) (by simp[hy,hb]) (λw=>by rw[hx];exact xD trivial w) (λw=>by rw[hx,hy,hb];exact aB hr w)
 ·rename_i a hx;generalize hy:ev ρ y=b at h;obtain⟨r,h1,h2,h3,h⟩:=h;refine⟨_,h,?_⟩;obtain⟨c,rfl⟩:∃c,b= .agg c:=by cases b<;>first|exact⟨_,rfl⟩|(simp at h3)
  exact xX (neg:=bv) ho (by simp[hx]) (by simp[hy]) (λw=>by rw[hx,hy];exact(zNh (by simp) w).trans (vM h2 w)) (λw=>by rw[hx,hy];exact vM h1 w)
 ·rename_i a hx;generalize hy:ev ρ y=b at h;obtain⟨r,h1,h2,h3,h⟩:=h;refine⟨_,h,?_⟩;obtain⟨c,rfl⟩:∃c,b= .agg c:=by cases b<;>first|exact⟨_,rfl⟩|(simp at h3)
  exact xX (neg:=bu) ho (by simp[hx]) (by simp[hy]) (λw=>by rw[hx,hy];exact(zNh (by simp) w).trans (vM h2 w)) (λw=>by rw[hx,hy];exact vM h1 w)
 ·exact b8 h
def fX {P:aa} {ρ:Env} {o:aj} {K:ab->Prop} (h:bI P o ρ K):∃v,K v/\EP P (af (ev ρ) o) v:=by
 cases ho:o.op
 case move x=>simp only[bI,ho]at h;exact⟨_,h,λw=>by simp only[af,ho];rfl⟩
 case assign x=>simp only[bI,ho]at h;exact⟨_,h,λw=>by simp only[af,ho];rfl⟩
 case pick c a b=>
  simp only[bI,ho]at h;split at h
  ·rename_i t hc;refine⟨_,h,λw=> ?_⟩;simp only[af,ho,hc,asBool,bind,pure,bg,be];cases t<;>rfl
  ·exact h.elim
 case nilCheck x=>
  simp only[bI,ho]at h;split at h
  ·rename_i p hx;obtain⟨a,rfl,h⟩:=sH h;exact⟨_,h,λw=>by simp only[af,ho,hx];rfl⟩
  ·exact b8 h
 case indexAddr t x i=>
  simp only[bI,ho]at h;split at h
  ·rename_i p n c k i hx hi;split at h
   ·rename_i sz oW;obtain⟨a,rfl,hb,h⟩:=z2p h;refine⟨_,h,?_⟩;simp only[af,ho];refine yF λw=> ?_
    rw[hx,hi];exact wD oW hb w
   ·exact h.elim
  ·rename_i p k i hx hi;split at h
   ·rename_i n sz oW;obtain⟨a,rfl,hb,h⟩:=z2p h;refine⟨_,h,?_⟩;simp only[af,ho];refine yF λw=> ?_
    rw[hx,hi];exact cN oW hb w
   ·exact h.elim
  ·exact h.elim
 case index t x i=>
  simp only[bI,ho]at h;split at h
  ·rename_i s k i hx hi;split at h
   ·rename_i ht;obtain⟨b,⟨h0,h1⟩,h⟩:=h;refine⟨_,h,?_⟩;simp only[af,ho];refine yF λw=> ?_
    simp only[Instr.index,hx,hi,asIntOf,bind,pure,bg,be,run_bind,run_underlying ht,fk h0,h1]
   ·exact h.elim
  ·split at h
   ·exact b8 h
   ·obtain⟨v,hv,h⟩:=vW h;refine⟨v,h,?_⟩;simp only[af,ho];exact yF (vM hv)
 case typeAssert x xT asserted ok=>
  cases ok
  ·simp only[bI,ho]at h;obtain⟨v,hv,h⟩:=vW h;refine⟨v,h,?_⟩;simp only[af,ho];exact yF (vM hv)
  ·simp only[bI,ho]at h;obtain⟨v,h⟩:=vW h;obtain⟨b,hv,h⟩:=wT h;refine⟨_,h,?_⟩;simp only[af,ho];exact yF (vM hv)
 case slice t x lo hi mx=>
  cases mx with
  |none=>exact z9i ho h
  |some m=>
   simp only[bI,ho]at h;split at h<;>first|exact h.elim|contradiction|skip
   rename_i p n c m' hx hm;cases hm;split at h<;>first|exact h.elim|skip
   rename_i sz l u k m' oW h1 h2 hm;obtain⟨⟨q1,q2,q3,q4⟩,h⟩:=h;obtain⟨e,ti,e1,e2,rfl⟩:=zBb oW;rcases Uu h1 with⟨_,h1⟩|⟨y,ky,ny,rfl,hy,h1⟩
   ·cases h1
   cases h1;rcases Uu h2 with⟨_,h2⟩|⟨z,kz,nz,rfl,hz,h2⟩
   ·cases h2
   cases h2;refine⟨_,h,?_⟩;simp only[af,ho];refine yF λw=> ?_
   have b1:(0:Int)<=m'/\m'<=(c:Nat):=by omega
   have b2:0<=u/\u<=(m'.toNat:Nat):=by omega
   have b3:0<=l/\l<=(u.toNat:Nat):=by omega
   simp only[Instr.sliceAt,Instr.slice,cp,hx,hm,hy,hz,ym,bind,pure,bg,be,run_bind,run_underlying e1,jO b1,jO b2,jO b3,run_sizeOf e2]
 case binOp op t x y u=>exact yRa ho h
 case panic x=>simp only[bI,ho]at h
 all_goals(simp only[bI,ho]at h;exact b8 h)
def bQ (P:aa) (s:Sem ab) (w:ac) (v:ab):Prop:=s.run P w=.ok v w
def fS (P:aa) (s:Sem ab) (w:ac) (v:ab) (w':ac):Prop:=s.run P w=.ok v w'
def GO (P:aa) (s:Sem Unit) (w:ac) (w':ac):Prop:=s.run P w=.ok () w'
def pZ (P:aa) (t:ae) (a:am) (w:ac) (v:ab):Prop:=(loadVar t a).run P w=.ok v w
def yBi (P:aa) (t:ae):Option ae:=
 match P.underlying t with
 |some (.map _ e)=>ay e
 |_=>ba
def lX (P:aa) (o:aj) (ρ:Env) (w:ac) (K:ab->Prop):Prop:=
 match o.op with
 | .load t x=>
   match ev ρ x with
   | .pointer p=>I4 p λa=>EH P t λv=>pZ P t a w v/\K v
   |_=>False
 | .lookup t m k ok=>
   match yBi P t with
   |some e=>EH P e λv=>C9 .bool λb=>bQ P (cq t (ev ρ m) (ev ρ k) bu) w (.tuple #[v,b])/\K (bif ok then .tuple #[v,b]else v)
   |none=>False
 | .convert s d x=>EH P d λv=>bQ P (ax s d (ev ρ x)) w v/\K v
 | .binOp op t x y _=>
   match op with
   | .eql=>C9 .bool λv=>bQ P (binOp .eql t (ev ρ x) (ev ρ y)) w v/\(ak .eql t x y (ev ρ x) (ev ρ y)).run P w=.ok () w/\K v
   | .neq=>C9 .bool λv=>bQ P (binOp .neq t (ev ρ x) (ev ρ y)) w v/\(ak .neq t x y (ev ρ x) (ev ρ y)).run P w=.ok () w/\K v
   |_=>False
 | .call {callee:= .builtin .len,args,argTypes}=>C9 (.int .i64) λv=>bQ P (cg argTypes o.type (args.map (ev ρ))) w v/\K v
 | .entry x=>∃v,bQ P (Instr.entry (ev ρ x)) w v/\K v
 |_=>False
def yI {P:aa} {s:Sem ab} {v:ab} {w:ac} (h:s.run P w= .ok v w):((do pure (Next.value (<- s)):Sem Next)).run P w= .ok (.value v) w:=by
 show(s.bind λa=> .pure (Next.value a)).run P w=_;rw[run_bind,h];rfl
def z8h {P:aa} {s:Sem ab} {v:ab} {w w':ac} (h:s.run P w= .ok v w'):((do pure (Next.value (<- s)):Sem Next)).run P w= .ok (.value v) w':=by
 show(s.bind λa=> .pure (Next.value a)).run P w=_;rw[run_bind,h];rfl
def yFw {P:aa} {s:Sem Unit} {w w':ac} (h:s.run P w= .ok () w'):((do s;pure Next.skip:Sem Next)).run P w= .ok .skip w':=by
 show(s.bind λ_=> .pure Next.skip).run P w=_;rw[run_bind,h];rfl
def NV (P:aa) (s1 s2:Sem ab):Prop:=∀w v b w',s1.run P w=.ok (.tuple #[v,b]) w'->s2.run P w=.ok v w'
def aJ {α:Type} {P:aa} (s:Sem α) {f g:α->Sem ab} (h:∀a,NV P (f a) (g a)):NV P (s.bind f) (s.bind g):=by
 intro w v b w' hr;rw[run_bind]at hr ⊢;cases hs:s.run P w with
 |ok a w1=>rw[hs]at hr;exact h a _ _ _ _ hr
 |halt x w1=>rw[hs]at hr;cases hr
def yGf {P:aa} {x y:String}:NV P (stuck x) (stuck y):=by
 intro w v b w' hr;cases hr
def z3h {P:aa} {v b:ab}:NV P (.pure (.tuple #[v,b])) (.pure v):=by
 intro w v b w' hr;simp only[be,Result.ok.injEq,Value.tuple.injEq,Array.mk.injEq,List.cons.injEq]at hr ⊢;exact⟨hr.1.1,hr.2⟩
def CL {P:aa} {t:ae} {m k:ab}:NV P (cq t m k bu) (cq t m k bv):=by
 unfold cq;refine aJ _ λd=> ?_
 have tail:∀(key elem:ae) (es:Array aq),NV P
  ((Instr.checkKey es.isEmpty 10000 key k).bind λ_=>(Instr.findKey key k es.toList).bind λr=>
    match r with
    |some (_,v)=>(bo (v,bu)).bind λx=>bo (if bu=bu then Value.tuple #[x.1,.bool x.2]else x.1)
    |none=>(zeroValue elem).bind λz=>(bo (z,bv)).bind λx=>bo (if bu=bu then Value.tuple #[x.1,.bool x.2]else x.1))
  ((Instr.checkKey es.isEmpty 10000 key k).bind λ_=>(Instr.findKey key k es.toList).bind λr=>
    match r with
    |some (_,v)=>(bo (v,bu)).bind λx=>bo (if bv=bu then Value.tuple #[x.1,.bool x.2]else x.1)
    |none=>(zeroValue elem).bind λz=>(bo (z,bv)).bind λx=>bo (if bv=bu then Value.tuple #[x.1,.bool x.2]else x.1)):=by
  intro key elem es;refine aJ _ λ_=>aJ _ λr=> ?_
  cases r with
  |some p=>obtain⟨i,v⟩:=p;exact z3h
  |none=>exact aJ _ λz=>z3h
 cases d<;>first|exact yGf|skip
 rename_i key elem;cases m<;>first|exact aJ _ (λes=>tail key elem es)|skip
 rename_i r;cases r with
 |none=>exact aJ _ (λes=>tail key elem es)
 |some r=>
  refine aJ _ λo=> ?_
  cases o<;>exact aJ _ (λes=>tail key elem es)
def zNl {P:aa} {t:ae} {m k v b:ab} {w w':ac} (h:(cq t m k bu).run P w= .ok (.tuple #[v,b]) w'):(cq t m k bv).run P w= .ok v w':=
 CL w v b w' h
def z9c {P:aa} {ρ:Env} {o:aj} {w:ac} {K:ab->Prop} (h:lX P o ρ w K):∃v,K v/\(af (ev ρ) o).run P w= .ok (.value v) w:=by
 cases ho:o.op
 case load t x=>
  simp only[lX,ho]at h;split at h
  ·rename_i p hx;obtain⟨a,rfl,h⟩:=sH h;obtain⟨v,hv,h⟩:=vW h;refine⟨v,h,?_⟩;simp only[af,ho,hx];exact yI hv
  ·exact h.elim
 case lookup t m k ok=>
  simp only[lX,ho]at h;split at h
  ·rename_i e he;obtain⟨v,h⟩:=vW h;obtain⟨b,hb,h⟩:=wT h;refine⟨_,h,?_⟩;simp only[af,ho];cases ok
   ·exact yI (zNl hb)
   ·exact yI hb
  ·exact h.elim
 case convert s d x=>
  simp only[lX,ho]at h;obtain⟨v,hv,h⟩:=vW h;refine⟨v,h,?_⟩;simp only[af,ho];exact yI hv
 case binOp op t x y u=>
  simp only[lX,ho]at h;split at h
  ·obtain⟨v,h1,h2,h⟩:=wT h;refine⟨v,h,?_⟩;simp only[af,ho];refine yI ?_;simp only[bind,run_bind,h2];exact h1
  ·obtain⟨v,h1,h2,h⟩:=wT h;refine⟨v,h,?_⟩;simp only[af,ho];refine yI ?_;simp only[bind,run_bind,h2];exact h1
  ·exact h.elim
 case call c=>
  simp only[lX,ho]at h;split at h<;>first|exact h.elim|skip
  all_goals first|(exfalso;rename_i hh;cases hh;done)|skip
  rename_i args argTypes hh;cases hh;obtain⟨v,hv,h⟩:=wT h;refine⟨v,h,?_⟩;simp only[af,ho];exact yI hv
 case entry x=>
  simp only[lX,ho]at h;obtain⟨v,hv,h⟩:=h;refine⟨v,h,?_⟩;simp only[af,ho];exact yI hv
 all_goals(simp only[lX,ho]at h)
def ob (P:aa) (s:Sem Next) (w:ac) (K:ab->ac->Prop):Prop:=
 match s.run P w with
 | .ok (.value v) w'=>K v w'
 | .ok .skip w'=>K ao w'
 | .ok (.enter f args) w'=>Calls P f args w' λe Wi=>∃v,e=.returned v/\K v Wi
 |_=>False
def KO (w:ac) (o:Obj) (K:Nat->ac->Prop):Prop:=∀b w',b=w.heap.size->w'=w.alloc o->K b w'
def zero? (P:aa) (t:ae):Option ab:=
 match P.info? t with
 |some i=>i.zero
 |none=>ba
def GR (z:Array ab) (n:Nat):Array ab:=((dc n).map λj=>z.toList.getD (j % z.size) default).toArray
def Xz (z:Array ab) (n:Nat):(Array.range n).map (z[·% z.size]!)=GR z n:=by
 apply df;simp only[GR,Array.toList_map,Array.toList_range];refine vy λj _=> ?_
 rw[Array.getElem!_eq_getD,Ck,mi,Array.getElem?_toList]
def Lq (P:aa) (t:ae) (len:Nat) (parts:Array (Nat×ab)):Option (ae×Array ab):=
 match P.underlying t with
 |some (.slice e)=>
  match P.info? e with
  |some i=>
   if len*i.size>2 ^ 24 then ba else
   match(if len*i.size=0 then ay #[]else i.zero.map Value.cells)with
   |some z=>(Instr.fill (λj=>ay (j*i.size,i.size)) (GR z (len*i.size)) parts.toList).map λcs=>(e,cs)
   |none=>ba
  |none=>ba
 |_=>ba
def gD (P:aa) (t:ae):Option (ae×Nat×Nat×Array ab):=
 match P.underlying t with
 |some (.slice e)=>
  match P.info? e with
  |some i=>i.zero.map λz=>(e,i.size,i.bytes,z.cells)
  |none=>ba
 |_=>ba
def gF (P:aa) (f:av):Bool:=
 match P.funcs[f]? with
 | some fn => !fn.body.isNone && !(fn.name == "runtime.NumGoroutine")
 |none=>bv
def yLy (P:aa) (f:av) (args:Array ab) (w:ac) (rt:ae) (K:ab->ac->Prop):Prop:=
 Calls P f args w λe w'=>Rp P rt λv=>e=.returned v/\K v w'
def Ext (P:aa) (f:av) (args:Array ab) (w:ac) (v:ab) (w':ac):Prop:=(au f args).run P w=.ok (.value v) w'
def cS (P:aa) (o:aj) (ρ:Env) (w:ac) (K:ab->ac->Prop):Prop:=
 match o.op with
 | .alloc e=>
   match zero? P e with
   |some z=>KO w (.cells z.cells e) λb w'=>K (.pointer (ay ⟨b,0,ba⟩)) w'
   |none=>False
 | .box e x=>KO w (.cells (ev ρ x).cells e) λb w'=>K (.pointer (ay ⟨b,0,ba⟩)) w'
 | .buildSlice t len parts=>
   match Lq P t len (parts.map λ(i,x)=>(i,ev ρ x))with
   |some (e,cs)=>KO w (.cells cs e) λb w'=>K (.slice (ay ⟨b,0,ba⟩) len len) w'
   |none=>False
 | .makeMap _ ba=>KO w (.map #[] 0) λb w'=>K (.map (ay b)) w'
 | .makeSlice t l c=>
   match ev ρ l,ev ρ c with
   | .int _ l,.int _ c=>
     match gD P t with
     |some (e,sz,oO,z)=>(0<=l/\l<=c/\c<=9223372036854775807/\(oO:Int)*c<=2 ^ 48)/\
       KO w (.cells (madeCells z (c.toNat*sz)) e) λb w'=>K (.slice (ay ⟨b,0,ba⟩) l.toNat c.toNat) w'
     |none=>False
   |_,_=>False
 | .store t x v=>
   match ev ρ x with
   | .pointer p=>I4 p λa=>∃w',GO P (storeVar t a (ev ρ v)) w w'/\K ao w'
   |_=>False
 | .mapUpdate t m k x=>∃w',GO P (Instr.mapUpdate t (ev ρ m) (ev ρ k) (ev ρ x)) w w'/\K ao w'
 | .mapEntry t m k=>
   match yBi P t with
   |some e=>EH P e λv=>C9 (.int .i64) λs=>∃w',fS P (Instr.mapEntry t (ev ρ m) (ev ρ k)) w (.tuple #[v,s]) w'/\K (.tuple #[v,s]) w'
   |none=>False
 | .entryStore t m s x=>∃w',GO P (Instr.entryStore t (ev ρ m) (ev ρ s) (ev ρ x)) w w'/\K ao w'
 | .range t x=>
   match P.underlying t,ev ρ x with
   |some .string,.string s=>KO w (.stringIter s 0) λb w'=>K (.pointer (ay ⟨b,0,ba⟩)) w'
   |_,x=>C9 .ptr λv=>∃w',fS P (Instr.range t x) w v w'/\K v w'
 | .next it bu=>
   (∃w',fS P (Instr.next (ev ρ it) bu o.type) w (.tuple #[.bool bv]) w'/\K (.tuple #[.bool bv]) w')\/
   C9 (.int .i64) λk=>C9 (.int .i32) λv=>∃w',fS P (Instr.next (ev ρ it) bu o.type) w (.tuple #[.bool bu,k,v]) w'/\K (.tuple #[.bool bu,k,v]) w'
 | .next it bv=>
   (∃w',fS P (Instr.next (ev ρ it) bv o.type) w (.tuple #[.bool bv]) w'/\K (.tuple #[.bool bv]) w')\/
   ∃(k v:ab) (w':ac),fS P (Instr.next (ev ρ it) bv o.type) w (.tuple #[.bool bu,k,v]) w'/\K (.tuple #[.bool bu,k,v]) w'
 | .convert s d x=>EH P d λv=>∃w',fS P (ax s d (ev ρ x)) w v w'/\K v w'
 | .call c=>
   match c.callee with
   | .value (.func f)=>bif gF P f then yLy P f (c.args.map (ev ρ)) w o.type K else Rp P o.type λv=>∃w',Ext P f (c.args.map (ev ρ)) w v w'/\K v w'
   | .value x=>
     match ev ρ x with
     | .func (.func f) first cap=>gF P f=bu/\yLy P f (first++c.args.map (ev ρ)++cap) w o.type K
     |_=>False
   | .builtin .append=>EH P o.type λv=>∃w',fS P (cf c.argTypes o.type (c.args.map (ev ρ))) w v w'/\K v w'
   | .builtin .copy=>C9 (.int .i64) λv=>∃w',fS P (ci c.argTypes o.type (c.args.map (ev ρ))) w v w'/\K v w'
   | .builtin .delete=>∃w',fS P (Builtin.delete_ c.argTypes o.type (c.args.map (ev ρ))) w (.tuple #[]) w'/\K (.tuple #[]) w'
   | .builtin .clear=>∃w',fS P (Builtin.clear_ c.argTypes o.type (c.args.map (ev ρ))) w (.tuple #[]) w'/\K (.tuple #[]) w'
   |_=>False
 |_=>False
def yH {P:aa} {s:Sem ab} {w w':ac} {v:ab} {K:ab->ac->Prop} (h:s.run P w= .ok v w') (hk:K v w'):ob P (do pure (Next.value (<- s))) w K:=by
 unfold ob;rw[z8h h];exact hk
def wX {P:aa} {s:Sem Unit} {w w':ac} {K:ab->ac->Prop} (h:s.run P w= .ok () w') (hk:K ao w'):ob P (do s;pure Next.skip) w K:=by
 unfold ob;rw[yFw h];exact hk
def zYb {P:aa} {f:av} {args:Array ab} {w:ac} {rt:ae} {K:ab->ac->Prop} (hb:gF P f=bu) (h:yLy P f args w rt K):ob P (au f args) w K:=by
 unfold gF at hb;split at hb
 ·rename_i fn HV;simp only[ld,HA,Bool.not_eq_eq_eq_not,Bool.not_true]at hb;unfold ob;have:(au f args).run P w= .ok (.enter f args) w:=by
   simp only[au,bind,pure,run_bind,program,be,bg,HV,hb.1,hb.2,nr,if_false]
  rw[this];exact h.mono λe w' hh=>by
   obtain⟨v,hv,hk⟩:=yDm hh;exact⟨v,hv,hk⟩
 ·cases hb
def mq {P:aa} {t:ae} {z:ab} (h:zero? P t=ay z) (w:ac):(zeroValue t).run P w= .ok z w:=by
 unfold zero? at h;split at h
 ·rename_i i hi;have HK:(typeInfo t).run P w= .ok i w:=by
   unfold typeInfo;show((Sem.program bo).bind _).run P w=_;simp only[bg,be,hi];rfl
  unfold zeroValue;simp only[bind,run_bind,HK,h];rfl
 ·cases h
def zTu {P:aa} {t:ae} {v:ab} (w:ac):(newVar t v).run P w= .ok ⟨w.heap.size,0,ba⟩ (w.alloc (.cells v.cells t)):=rfl
def zHk {P:aa} {t:ae} {i:TypeInfo} (h:P.info? t=ay i) (w:ac):(typeInfo t).run P w= .ok i w:=by
 unfold typeInfo;show((Sem.program bo).bind _).run P w=_;simp only[bg,be,h];rfl
def m4 {P:aa} {t:ae} {len:Nat} {parts:Array (Nat×ab)} {e:ae} {cs:Array ab} (h:Lq P t len parts=ay (e,cs)) (w:ac):
 (Instr.buildSlice t len parts).run P w= .ok (.slice (ay ⟨w.heap.size,0,ba⟩) len len) (w.alloc (.cells cs e)):=by
 unfold Lq at h;split at h<;>first|(cases h;done)|skip
 rename_i e' ht;split at h<;>first|(cases h;done)|skip
 rename_i i hi;split at h<;>first|(cases h;done)|skip
 rename_i hlen;split at h<;>first|(cases h;done)|skip
 rename_i z hz;simp only[bc,dl]at h;obtain⟨Cp,AH,rfl,rfl⟩:=h;by_cases h0:len*i.size=0
 ·simp only[h0,if_true,cu]at hz;subst hz;simp only[Instr.buildSlice,bind,pure,run_bind,bg,be,run_underlying ht,run_sizeOf hi,dx hlen,fk h0,Xz,AH];rfl
 ·simp only[h0,if_false,bc]at hz;obtain⟨z',PF,rfl⟩:=hz;have EA:∀w,(zeroValue e').run P w= .ok z' w:=λw=>mq (by unfold zero?;rw[hi];exact PF) w
  simp only[Instr.buildSlice,bind,pure,run_bind,bg,be,run_underlying ht,run_sizeOf hi,dx hlen,dx h0,EA,Xz,AH];rfl
def jF {P:aa} {t e:ae} {sz oO:Nat} {z:Array ab} (h:gD P t=ay (e,sz,oO,z)):
 ∃i zv,P.underlying t=ay (.slice e)/\P.info? e=ay i/\i.size=sz/\i.bytes=oO/\i.zero=ay zv/\zv.cells=z:=by
 unfold gD at h;split at h<;>first|(cases h;done)|skip
 rename_i e' ht;split at h<;>first|(cases h;done)|skip
 rename_i i hi;simp only[bc,dl]at h;obtain⟨zv,Ww,rfl,rfl,rfl,rfl⟩:=h;exact⟨i,zv,ht,hi,rfl,rfl,Ww,rfl⟩
def wrap_i64 {x:Int} (h0: -9223372036854775808<=x) (h1:x<=9223372036854775807):dh.wrap x=x:=IntWalk.i64_in x ⟨h0,h1⟩
def zNf (P:aa) (n:Nat) (w:ac):(askRoom n).run P w= .ok () w:=by
 unfold askRoom;split<;>rfl
def zPy {P:aa} {t e:ae} {sz oO:Nat} {z:Array ab} {k k':ag} {l c:Int} (h:gD P t=ay (e,sz,oO,z))
 (hb:0<=l/\l<=c/\c<=9223372036854775807/\(oO:Int)*c<=2 ^ 48) (w:ac):
 (Instr.makeSlice t (.int k l) (.int k' c)).run P w= .ok (.slice (ay ⟨w.heap.size,0,ba⟩) l.toNat c.toNat) (w.alloc (.cells (madeCells z (c.toNat*sz)) e)):=by
 obtain⟨i,zv,ht,hi,rfl,rfl,hz,rfl⟩:=jF h;obtain⟨h1,h2,h3,h4⟩:=hb;have wl:dh.wrap l=l:=wrap_i64 (by omega) (by omega);have wc:dh.wrap c=c:=wrap_i64 (by omega) (by omega);have Co:¬(((decide (c<0)||decide ((i.bytes:Int)*c>2 ^ 48))||decide (l<0)||decide (l>c))=bu):=by
  simp only[E9,sm,not_or];omega
 have EA:∀w,(zeroValue e).run P w= .ok zv w:=λw=>mq (by unfold zero?;rw[hi];exact hz) w
 simp only[Instr.makeSlice,asInt,asIntOf,bind,pure,run_bind,bg,be,run_underlying ht,zHk hi,run_sizeOf hi,wl,wc];rw[dx Co];simp only[run_bind,zNf,run_sizeOf hi];by_cases h0:c.toNat*i.size=0
 ·simp only[h0,if_true,be,run_bind,madeCells];have e1:(Array.map (λx=>(#[]:Array ab)[x % (#[]:Array ab).size]!) (Array.range 0))= #[]:=by simp
  have e2:(Array.map (λx=>zv.cells[x % zv.cells.size]!) (Array.range 0))= #[]:=by simp
  rw[e1,e2];rfl
 ·simp only[dx h0,run_bind,EA,be,madeCells];rfl
def zWw {P:aa} {ρ:Env} {o:aj} {w:ac} {K:ab->ac->Prop} (h:cS P o ρ w K):ob P (af (ev ρ) o) w K:=by
 cases ho:o.op
 case alloc e=>
  simp only[cS,ho]at h;split at h
  ·rename_i z hz;simp only[af,ho];refine yH (v:= .pointer (ay ⟨w.heap.size,0,ba⟩)) (w':=w.alloc (.cells z.cells e)) ?_ (h _ _ rfl rfl);simp only[Instr.alloc,bind,pure,run_bind,mq hz,be,zTu]
  ·exact h.elim
 case box e x=>
  simp only[cS,ho]at h;simp only[af,ho];exact yH (v:= .pointer (ay ⟨w.heap.size,0,ba⟩)) (w':=w.alloc (.cells (ev ρ x).cells e)) rfl (h _ _ rfl rfl)
 case buildSlice t len parts=>
  simp only[cS,ho]at h;split at h
  ·rename_i e cs AH;simp only[af,ho];exact yH (m4 AH w) (h _ _ rfl rfl)
  ·exact h.elim
 case makeMap t r=>
  cases r with
  |some r=>simp only[cS,ho]at h
  |none=>
   simp only[cS,ho]at h;simp only[af,ho];exact yH (v:= .map (ay w.heap.size)) (w':=w.alloc (.map #[] 0)) rfl (h _ _ rfl rfl)
 case makeSlice t l c=>
  simp only[cS,ho]at h;split at h<;>first|exact h.elim|skip
  rename_i k l' k' c' hl hc;split at h<;>first|exact h.elim|skip
  rename_i e sz oO z hs;simp only[af,ho,hl,hc];exact yH (zPy hs h.1 w) (h.2 _ _ rfl rfl)
 case store t x v=>
  simp only[cS,ho]at h;split at h<;>first|exact h.elim|skip
  rename_i p hx;obtain⟨a,rfl,w',hw,hk⟩:=sH h;simp only[af,ho,hx];exact wX (w':=w') hw hk
 case mapUpdate t m k x=>
  simp only[cS,ho]at h;obtain⟨w',hw,hk⟩:=h;simp only[af,ho];exact wX hw hk
 case mapEntry t m k=>
  simp only[cS,ho]at h;split at h<;>first|exact h.elim|skip
  obtain⟨v,h⟩:=vW h;obtain⟨s,w',hw,hk⟩:=wT h;simp only[af,ho];exact yH hw hk
 case entryStore t m s x=>
  simp only[cS,ho]at h;obtain⟨w',hw,hk⟩:=h;simp only[af,ho];exact wX hw hk
 case range t x=>
  simp only[cS,ho]at h;split at h
  ·rename_i s ht hx;simp only[af,ho];refine yH (v:= .pointer (ay ⟨w.heap.size,0,ba⟩)) (w':=w.alloc (.stringIter s 0)) ?_ (h _ _ rfl rfl);rw[hx];simp only[Instr.range,bind,pure,run_bind,bg,run_underlying ht];rfl
  ·obtain⟨v,w',hw,hk⟩:=wT h;simp only[af,ho];exact yH hw hk
 case next it isString=>
  simp only[af,ho];cases isString
  ·simp only[cS,ho]at h;rcases h with⟨w',hw,hk⟩|⟨k,v,w',hw,hk⟩
   ·exact yH hw hk
   ·exact yH hw hk
  ·simp only[cS,ho]at h;rcases h with⟨w',hw,hk⟩|h
   ·exact yH hw hk
   ·obtain⟨k,h⟩:=wT h;obtain⟨v,w',hw,hk⟩:=wT h;exact yH hw hk
 case convert s d x=>
  simp only[cS,ho]at h;obtain⟨v,w',hw,hk⟩:=vW h;simp only[af,ho];exact yH hw hk
 case call c=>
  have uk:af (ev ρ) o=(ar (ev ρ) c o.type).bind λd=>invoke d.target d.args:=by
   simp only[af,ho];rfl
  simp only[cS,ho]at h;split at h
  ·rename_i f hc;have jr:(af (ev ρ) o)=au f (c.args.map (ev ρ)):=by
    rw[uk];unfold ar;rw[hc];simp only[ev,Deferred.ofValue,pure,bg,invoke,Array.append_empty,Array.empty_append]
   rw[jr];revert h;cases hb:gF P f<;>intro h
   ·replace h:Rp P o.type λv=>∃w',Ext P f (c.args.map (ev ρ)) w v w'/\K v w':=h
    obtain⟨v,w',hw,hk⟩:=yDm h;exact(by unfold ob;rw[show(au f (c.args.map (ev ρ))).run P w=_ from hw];exact hk)
   ·exact zYb hb h
  ·rename_i x hc;split at h<;>first|exact h.elim|skip
   rename_i f first cap hx
   have jr:(af (ev ρ) o)=au f (first++c.args.map (ev ρ)++cap):=by
    rw[uk];unfold ar;rw[hc];simp only[hx,Deferred.ofValue,pure,bg,invoke]
   rw[jr];exact zYb h.1 h.2
  all_goals first|exact h.elim|skip
  ·rename_i hc;have jr:af (ev ρ) o=builtin .append c.argTypes o.type (c.args.map λ| .const _=>bu|_=>bv) (c.args.map (ev ρ)):=by
    rw[uk];unfold ar;rw[hc];rfl
   rw[jr];obtain⟨v,w',hw,hk⟩:=vW h;exact yH hw hk
  ·rename_i hc;have jr:af (ev ρ) o=builtin .copy c.argTypes o.type (c.args.map λ| .const _=>bu|_=>bv) (c.args.map (ev ρ)):=by
    rw[uk];unfold ar;rw[hc];rfl
   rw[jr];obtain⟨v,w',hw,hk⟩:=wT h;exact yH hw hk
  ·rename_i hc;have jr:af (ev ρ) o=builtin .delete c.argTypes o.type (c.args.map λ| .const _=>bu|_=>bv) (c.args.map (ev ρ)):=by
    rw[uk];unfold ar;rw[hc];rfl
   rw[jr];obtain⟨w',hw,hk⟩:=h;exact yH hw hk
  ·rename_i hc;have jr:af (ev ρ) o=builtin .clear c.argTypes o.type (c.args.map λ| .const _=>bu|_=>bv) (c.args.map (ev ρ)):=by
    rw[uk];unfold ar;rw[hc];rfl
   rw[jr];obtain⟨w',hw,hk⟩:=h;exact yH hw hk
 all_goals(simp only[cS,ho]at h)
end Cv
namespace Cv
open Go
def Oi:ap->Bool
 | .const (.pointer ba)=>bu
 |_=>bv
def Tn (P:aa) (op:Op):Nat:=
 match op with
 | .load _ _=>1
 | .lookup _ _ _ _=>1
 | .convert s d _=>
   match P.underlying s,P.underlying d with
   |some .string,ay (.slice _)=>2
   |some (.slice _),ay .string=>1
   |_,_=>0
 | .binOp op t x y _=>
   match op,P.underlying t with
   | .eql,ay (.pointer _)=>bif Oi y then 0 else 1
   | .neq,ay (.pointer _)=>bif Oi y then 0 else 1
   |_,_=>0
 | .call c=>
   match c.callee with
   | .builtin .len=>
     match(c.argTypes[0]?).bind P.underlying with
     |some (.map _ _)=>1
     |_=>0
   | .builtin .cap=>0
   | .builtin .min=>0
   | .builtin .max=>0
   |_=>2
 | .alloc _=>2
 | .box _ _=>2
 | .buildSlice _ _ _=>2
 | .makeMap _ _=>2
 | .makeSlice _ _ _=>2
 | .store _ _ _=>2
 | .mapUpdate _ _ _ _=>2
 | .mapEntry _ _ _=>2
 | .entryStore _ _ _ _=>2
 | .range _ _=>2
 | .entry _=>1
 | .next _ _=>2
 |_=>0
def opV (P:aa) (o:aj) (ρ:Env) (w:ac) (K:ab->ac->Prop):Prop:=
 match Tn P o.op with
 |0=>bI P o ρ λv=>K v w
 |1=>lX P o ρ w λv=>K v w
 |_=>cS P o ρ w K
def wO {P:aa} {s:Sem Next} {w w':ac} {v:ab} {K:ab->ac->Prop} (h:s.run P w= .ok (.value v) w') (hk:K v w'):ob P s w K:=by
 unfold ob;rw[h];exact hk
def yHp {P:aa} {o:aj} {ρ:Env} {w:ac} {K:ab->ac->Prop} (h:opV P o ρ w K):ob P (af (ev ρ) o) w K:=by
 unfold opV at h;split at h
 ·obtain⟨v,hk,hf⟩:=fX h;exact wO (hf w) hk
 ·obtain⟨v,hk,hf⟩:=z9c h;exact wO hf hk
 ·exact zWw h
def Wa (ops:List aj) (j:Nat):Option Nat:=
 match ops[j]? with
 |some o=>o.dst
 |none=>ba
def gd (c want:Bool) (Y N:Prop):Prop:=
 match c,want with
 |true,bu=>Y
 |false,bv=>Y
 |true,bv=>N
 |false,bu=>N
def Oe (ops:List aj) (g:Option (Nat×Bool)) (ρ:Env) (Y N:Env->Prop):Prop:=
 match g with
 |none=>Y ρ
 |some (j,want)=>
  match Wa ops j with
  |none=>N ρ
  |some d=>
   match ρ d with
   | .bool c=>gd c want (Y (put ρ (ay d) (.bool want))) (N (put ρ (ay d) (.bool !want)))
   |_=>N ρ
def z4w {ρ:Env} {d:Nat} {v:ab} (h:ρ d=v):put ρ (ay d) v=ρ:=by
 funext i;simp only[put];cases hb:cx i d
 ·rfl
 ·have:=ji hb;subst this;exact h.symm
@[reducible] def yP (a:Act):Env:=λi=>a.tmps.getD i ao
def wV (a:Act):ev (yP a)=a.eval:=by
 funext x;cases x<;>rfl
def mz {a:Act} {dst:Option Nat} {v:ab} (h:∀d,dst=ay d->d<a.tmps.size):yP (a.put dst v)=put (yP a) dst v:=by
 cases dst with
 |none=>rfl
 |some d=>
  funext i;have:=h d rfl;simp only[yP,Act.put,put];cases hb:cx i d
  ·have jf:i≠d:=λe=>by subst e;simp at hb
   simp[Ck,Wg (Ne.symm jf)]
  ·have e:=ji hb;subst e;simp[Ck,Wh this]
def zIv (ops:List aj) (tmps:Array ab) (j:Nat):yielded ops.toArray tmps j=match Wa ops j with
 |none=>ba
 |some d=>match tmps[d]? with|some (.bool b)=>ay b|_=>ba:=by
 unfold yielded Wa;simp only[A4];cases ops[j]? with
 |none=>rfl
 |some o=>
  obtain⟨dst,op,ty,pos,after,g⟩:=o;cases dst with
  |none=>rfl
  |some d=>
   simp only[Option.bind_some];cases tmps[d]? with
   |none=>rfl
   |some v=>cases v<;>rfl
def eW {ops:List aj} {o:aj} {a:Act} {Y N:Env->Prop} (h:Oe ops o.guard (yP a) Y N):
 if co o (yielded ops.toArray a.tmps)then Y (yP a)else N (yP a):=by
 unfold Oe at h;unfold co;split at h
 ·rename_i hg;rw[hg];exact h
 ·rename_i j want hg;rw[hg];have hy:=zIv ops a.tmps j;split at h
  ·rename_i hd;rw[hd]at hy;simp only[hy];simpa using h
  ·rename_i d hd;rw[hd]at hy;simp only[hy];have hv:yP a d=(a.tmps[d]?).getD ao:=by simp[yP,Ck]
   rw[hv]at h;cases ht:a.tmps[d]? with
   |none=>
    rw[ht]at h;simpa[ao]using h
   |some v=>
    rw[ht]at h hv;simp only[zj]at h hv;cases v with
    |bool c=>
     simp only[]at h ⊢;have hs:∀b,c=b->put (yP a) (ay d) (.bool b)=yP a:=λb hb=>z4w (by rw[hv,hb])
     cases c<;>cases want<;>simp only[gd,Bool.not_true,Je]at h<;>rw[hs _ rfl]at h<;>simpa using h
    |_=>simpa using h
def O4 (P:aa) (ops:List aj):List aj->Env->ac->(Env->ac->Prop)->Prop
 |[],ρ,w,K=>K ρ w
 |o::rest,ρ,w,K=>
  Oe ops o.guard ρ (λρ=>opV P o ρ w λv w'=>O4 P ops rest (put ρ o.dst v) w' K) (λρ=>O4 P ops rest (put ρ o.dst ao) w K)
def IU (n:Nat) (A:Nat->Bool) (ops:List aj):Prop:=∀o∈ops,∀d,o.dst=ay d->d<n/\A d=bu
structure Good (n:Nat) (A:Nat->Bool) (e0:Env) (a:Act):Prop where
 size:a.tmps.size=n
 defers:a.defers=[]
 same:∀s,A s=bv->yP a s=e0 s
def z3e (a:Act) (d:Option Nat) (v:ab):(a.put d v).tmps.size=a.tmps.size/\(a.put d v).defers=a.defers:=by
 cases d<;>simp[Act.put]
def Good.mz {n:Nat} {A:Nat->Bool} {e0:Env} {a:Act} (h:Good n A e0 a) {dst:Option Nat} (hd:∀d,dst=ay d->d<n/\A d=bu) (v:ab):
 yP (a.put dst v)=put (yP a) dst v:=Cv.mz λd oY=>by rw[h.size];exact(hd d oY).1
def Good.put {n:Nat} {A:Nat->Bool} {e0:Env} {a:Act} (h:Good n A e0 a) {dst:Option Nat} (hd:∀d,dst=ay d->d<n/\A d=bu) (v:ab):Good n A e0 (a.put dst v):=by
 refine⟨(z3e _ _ _).1.trans h.size,(z3e _ _ _).2.trans h.defers,λs hs=> ?_⟩;rw[h.mz hd];cases dst with
 |none=>exact h.same s hs
 |some d=>
  simp only[Cv.put];cases hb:cx s d
  ·exact h.same s hs
  ·have e:=ji hb;subst e;have:=(hd s rfl).2;rw[hs]at this;cases this
def zFm {P:aa} {o:aj} {a:Act} {w:ac} {K:Act->ac->Prop} {Q:Exit->Act->ac->Prop}
 (h:ob P (af a.eval o) w λv w'=>K (a.put o.dst v) w'):o.wp P a w K Q:=by
 unfold ob at h;unfold Oper.wp;split at h
 ·rename_i v w' hr;rw[hr];exact h
 ·rename_i w' hr;rw[hr];exact h
 ·rename_i f args w' hr;rw[hr];exact h.mono λe Wi ⟨v,he,hk⟩=>by subst he;exact hk
 ·exact h.elim
def zQg {P:aa} {ops:List aj} {n:Nat} {A:Nat->Bool} {e0:Env} {Q:Exit->Act->ac->Prop} {K:Env->ac->Prop}
 (hQ:∀a w,Good n A e0 a->K (yP a) w->Q .normal a w):
 ∀(l:List aj) (a:Act) (w:ac),IU n A l->Good n A e0 a->O4 P ops l (yP a) w K->wpList P ops.toArray Q l a w
 |[],a,w,_,hg,h=>hQ a w hg h
 |o::l,a,w,hf,rl,h=>by
  have za:=hf o jg;have hf':IU n A l:=λo' ln=>hf o' (jx _ ln)
  have hg:=eW h;have nx:∀{v:ab} {w:ac},O4 P ops l (put (yP a) o.dst v) w K->wpList P ops.toArray Q l (a.put o.dst v) w:=λ{v w} hh=>
   zQg hQ l _ _ hf' (rl.put za v) (by rw[rl.mz za];exact hh)
  unfold wpList;split
  ·rename_i hw;rw[fk hw]at hg;left;refine zFm ?_;have:=yHp hg;rw[wV]at this;unfold ob at this ⊢;split at this
   ·exact nx this
   ·exact nx this
   ·exact this.mono λe Wi ⟨v,he,hk⟩=>⟨v,he,nx hk⟩
   ·exact this
  ·rename_i hw;rw[dx hw]at hg;exact nx hg
end Cv
namespace Cv
open Go
def yQn (acc:List Nat) (o:aj):Nat:=
 o.after.toList.foldl (λs e=>bif cn .any e then s|||2 ^ e.on|||acc.getD e.on 0 else s) 0
def gZ:List aj->List Nat->List Nat
 |[],acc=>acc
 |o::rest,acc=>gZ rest (acc++[yQn acc o])
def Bc (bf:List Nat) (i r:Nat):Bool:=(bf.getD i 0).testBit r
def tH (ops:List aj) (L:Nat->Prop):Prop:=∀i o,ops[i]?=ay o->L i->∀e∈o.after,cn .any e=bu->L e.on
def zXz {ops:List aj} {acc:List Nat} {L:Nat->Prop} (zb:∀k,L k->∀r,(acc.getD k 0).testBit r=bu->L r):
 ∀(l:List Edge) (s:Nat),(∀r,s.testBit r=bu->L r)->(∀e∈l,cn .any e=bu->L e.on)->
  ∀r,(l.foldl (λs e=>bif cn .any e then s|||2 ^ e.on|||acc.getD e.on 0 else s) s).testBit r=bu->L r
 |[],s,hs,_,r,h=>hs r h
 |e::l,s,hs,hl,r,h=>by
  refine zXz (ops:=ops) zb l _ ?_ (λe' tc=>hl e' (jx _ tc)) r h;intro r hr;dsimp only at hr;cases hb:cn .any e
  ·rw[hb]at hr;exact hs r hr
  ·have WI:=hl e (by simp) hb;rw[hb]at hr;simp only[cond_true,Nat.testBit_or,Nat.testBit_two_pow,E9,sm]at hr;rcases hr with(hr|hr)|hr
   ·exact hs r hr
   ·exact hr▸WI
   ·exact zb _ WI r hr
def Ax {ops:List aj} {L:Nat->Prop} (hc:tH ops L):∀(l:List aj) (acc:List Nat),(∀j,l[j]? =ops[acc.length+j]?)->
 (∀k o,k<acc.length->ops[k]? =ay o->(∀e∈o.after,cn .any e=bu->L e.on)->∀r,(acc.getD k 0).testBit r=bu->L r)->
 ∀k o,ops[k]? =ay o->(∀e∈o.after,cn .any e=bu->L e.on)->∀r,((gZ l acc).getD k 0).testBit r=bu->L r
 |[],acc,hl,zb,k,o,ho,hd,r,hr=>by
  by_cases hk:k<acc.length
  ·exact zb k o hk ho hd r hr
  ·exfalso;have:=hl (k-acc.length);rw[show acc.length+(k-acc.length)=k by omega,ho]at this;simp at this
 |o::l,acc,hl,zb,k,o',ln,hd,r,hr=>by
  refine Ax hc l (acc++[yQn acc o]) ?_ ?_ k o' ln hd r hr
  ·intro j;have:=hl (j+1);simp only[iQ,iY,Al];rw[show acc.length+(0+1)+j=acc.length+(j+1)by omega];simpa using this
  ·intro k2 o2 tf Jz AG r2 wx;have S0:∀k,L k->∀r,(acc.getD k 0).testBit r=bu->L r:=by
    intro k3 hL r3 h3;by_cases HU:k3<acc.length
    ·cases ho3:ops[k3]? with
     |none=>
      exfalso;have:=hl 0;simp only[E8]at this;rw[List.getElem?_eq_none_iff]at ho3;have h4:acc.length<ops.length:=by
       rcases vx acc.length ops.length with h|h
       ·exact h
       ·rw[ue h]at this;simp at this
      omega
     |some o3=>exact zb k3 o3 HU ho3 (hc k3 o3 ho3 hL) r3 h3
    ·simp[mi,ue (Nat.not_lt.1 HU)]at h3
   by_cases hk:k2<acc.length
   ·rw[mi,Fb hk,<- mi]at wx;exact zb k2 o2 hk Jz AG r2 wx
   ·have tb:k2=acc.length:=by simp at tf;omega
    subst tb;rw[mi,CY (mg _)]at wx;simp only[Hx,CX,zj]at wx;have h0:=hl 0;simp only[CX,E8]at h0;rw[Jz]at h0;cases h0;exact zXz (ops:=ops) S0 _ 0 (by simp) (λe he hb=>AG e (by simpa using he) hb) r2 wx
def yAf {ops:List aj} {L:Nat->Prop} (hc:tH ops L) {i:Nat} {o:aj} (ho:ops[i]? =ay o) (hd:∀e∈o.after,cn .any e=bu->L e.on)
 {r:Nat} (h:Bc (gZ ops []) i r=bu):L r:=
 Ax hc ops [] (by simp) (by simp) i o ho hd r h
@[reducible] def Mon:=Nat×(ac->Prop)
def jX (bf:List Nat) (i:Nat) (M:List Mon):List Mon:=M.filter λm=> !Bc bf i m.1
def ES (M:List Mon) (w:ac):Prop:=∀m∈M,m.2 w
def Eo (P:aa) (ops:Array aj) (i:Nat) (K:Act->ac->Prop) (a:Act) (w:ac):Prop:=
 match ops[i]? with
 |none=>K a w
 |some o=>if co o (yielded ops a.tmps)then ob P (af a.eval o) w (λv w'=>K (a.put o.dst v) w')else K (a.put o.dst ao) w
def ob.mono {P:aa} {s:Sem Next} {w:ac} {K K':ab->ac->Prop} (h:ob P s w K) (hk:∀v w',K v w'->K' v w'):ob P s w K':=by
 unfold ob at*;split at h
 ·exact hk _ _ h
 ·exact hk _ _ h
 ·exact h.mono λe Wi ⟨v,he,h⟩=>⟨v,he,hk _ _ h⟩
 ·exact h
def UI {P:aa} {ops:Array aj} {i:Nat} {K K':Act->ac->Prop} {a:Act} {w:ac} (h:Eo P ops i K a w) (hk:∀a w,K a w->K' a w):Eo P ops i K' a w:=by
 unfold Eo at*;split
 ·rename_i ho;simp only[ho]at h;exact hk _ _ h
 ·rename_i o ho;simp only[ho]at h;split
  ·rename_i hw;rw[fk hw]at h;exact h.mono λv w'=>hk _ _
  ·rename_i hw;rw[dx hw]at h;exact hk _ _ h
def CR (P:aa) (ops:Array aj) (bf:List Nat) (Q:Act->ac->Prop):Nat->List Mon->Array Bool->Act->ac->Prop
 |0,_,fu,a,w=>cm .any ops fu=[]/\Q a w
 |fuel+1,M,fu,a,w=>
  (cm .any ops fu=[]->Q a w)/\
  ∀i∈cm .any ops fu,Eo P ops i (λa' w'=>ES (jX bf i M) w'/\CR P ops bf Q fuel (jX bf i M) (fu.setIfInBounds i bu) a' w') a w
def zVj {bf:List Nat} {i:Nat} {M M':List Mon} (h:∀m∈M',m∈M):∀m∈jX bf i M',m∈jX bf i M:=by
 intro m hm;simp only[jX,qk]at hm ⊢;exact⟨h m hm.1,hm.2⟩
def z5k {P:aa} {ops:Array aj} {bf:List Nat} {Q:Act->ac->Prop}:∀(fuel:Nat) {M M':List Mon} (fu:Array Bool) (a:Act) (w:ac),
 (∀m∈M',m∈M)->CR P ops bf Q fuel M fu a w->CR P ops bf Q fuel M' fu a w
 |0,_,_,_,_,_,_,h=>h
 |fuel+1,M,M',fu,a,w,hs,h=>⟨h.1,λi hi=>UI (h.2 i hi) λa' w' hh=>
   ⟨λm hm=>hh.1 m (zVj hs m hm),z5k fuel _ _ _ (zVj hs) hh.2⟩⟩
def fQ {P:aa} {ops:Array aj} {bf:List Nat} {Q:Act->ac->Prop} {Q':Exit->Act->ac->Prop} (hQ:∀a w,Q a w->Q' .normal a w):
 ∀(fuel:Nat) {M:List Mon} (fu:Array Bool) (a:Act) (w:ac),CR P ops bf Q fuel M fu a w->wpAny P .any ops Q' fuel fu a w
 |0,_,_,_,_,h=>⟨h.1,hQ _ _ h.2⟩
 |fuel+1,M,fu,a,w,h=>⟨λh0=>hQ _ _ (h.1 h0),λi hi=>by
   have:=h.2 i hi;unfold Eo at this;unfold wpOp;split
   ·rename_i ho;simp only[ho]at this;exact fQ hQ fuel _ _ _ this.2
   ·rename_i o ho;simp only[ho]at this;split
    ·rename_i hw;rw[fk hw]at this;exact .inl (zFm (this.mono λv w' hh=>fQ hQ fuel _ _ _ hh.2))
    ·rename_i hw;rw[dx hw]at this;exact fQ hQ fuel _ _ _ this.2⟩
def lB (P:aa) (ops:Array aj) (o:aj) (v:ab) (a:Act) (w:ac):Prop:=
 (co o (yielded ops a.tmps)=bu/\(af a.eval o).run P w=.ok (.value v) w)\/(co o (yielded ops a.tmps)=bv/\v=ao)
def zVg {P:aa} {ops:Array aj} {i:Nat} {o:aj} {v:ab} {a:Act} {w:ac} {K:Act->ac->Prop} (hi:ops[i]? =ay o) (h:lB P ops o v a w) (hk:K (a.put o.dst v) w):Eo P ops i K a w:=by
 unfold Eo;simp only[hi];rcases h with⟨hw,hr⟩|⟨hw,rfl⟩
 ·rw[fk hw];exact wO hr hk
 ·rw[dx (by rw[hw];simp)];exact hk
def yHo {fu:Array Bool} {i:Nat} (h:fu.getD i bu=bv):i<fu.size:=by
 rcases vx i fu.size with h'|h'
 ·exact h'
 ·simp[Ck,GY h']at h
def qQ (fu:Array Bool) (i:Nat):Prop:=fu.getD i bv=bu
def zHd {fu:Array Bool} {i j:Nat} (h:qQ fu j):qQ (fu.setIfInBounds i bu) j:=by
 unfold qQ at*;by_cases NN:i=j
 ·subst NN;have:i<fu.size:=by
   rcases vx i fu.size with h'|h'
   ·exact h'
   ·simp[Ck,GY h']at h
  simp[Ck,Wh this]
 ·simpa[Ck,Wg NN]using h
def zLm {fu:Array Bool} {i j:Nat} (h:qQ (fu.setIfInBounds i bu) j):j=i\/qQ fu j:=by
 unfold qQ at*;by_cases NN:i=j
 ·exact .inl NN.symm
 ·right;simpa[Ck,Wg NN]using h
def zSd {fu:Array Bool} {i:Nat} (h:fu.getD i bu=bv):¬qQ fu i:=by
 unfold qQ;have:=yHo h;simp only[Ck,Pu this]at h ⊢;simp at h ⊢;exact h
def u7 {ops:List aj} {fu:Array Bool} (hc:tH ops (qQ fu)) {i:Nat} (hi:i∈cm .any ops.toArray fu):tH ops (qQ (fu.setIfInBounds i bu)):=by
 intro j o ho hj e he hb;rcases zLm hj with rfl|hj
 ·obtain⟨_,o',ln,tj⟩:=mem_ready.1 hi;simp only[A4]at ln;rw[ho]at ln;cases ln;exact zHd (tj e he hb)
 ·exact zHd (hc j o ho hj e he hb)
def tV (ops:List aj) (bf:List Nat):Bool:=
 Region.noSelect ops.toArray && (dc ops.length).all λi=>(dc i).all λj=>
  match ops[i]?,ops[j]? with
  |some oi,ay oj=>Bc bf i j||(oi.apart ops.toArray oj && oj.apart ops.toArray oi)
  |_,_=>bu
def z3w {ops:List aj} {bf:List Nat} (h:tV ops bf=bu) {i j:Nat} {oi oj:aj} (hi:ops[i]? =ay oi) (hj:ops[j]? =ay oj) (jf:i≠j)
 (h1:Bc bf i j=bv) (h2:Bc bf j i=bv):oi.apart ops.toArray oj=bu:=by
 simp only[tV,ld,DO,zh]at h;have lt:∀{k:Nat} {o:aj},ops[k]? =ay o->k<ops.length:=λ{k o} hk=>by
  rcases vx k ops.length with h'|h'
  ·exact h'
  ·rw[ue h']at hk;cases hk
 rcases Nat.lt_or_gt_of_ne jf with iq|iq
 ·have:=h.2 j (lt hj) i iq;simp only[hi,hj,h2,CT,ld]at this;exact this.2
 ·have:=h.2 i (lt hi) j iq;simp only[hi,hj,h1,CT,ld]at this;exact this.1
def yOc {P:aa} {ops:Array aj} {o:aj} {v u:ab} {a:Act} {w:ac} {d:Option Tmp} (hs:∀cs b,o.op≠.select cs b) (hd:∀t,d=ay t->t∉o.looksAt ops):
 lB P ops o v (a.put d u) w↔lB P ops o v a w:=by
 unfold lB;rw[execOp_put o hs a d u hd,wanted_put o a d u hd]
def yKh {P:aa} {ops:Array aj} {j:Nat} {oi oj:aj} {v:ab} (hj:ops[j]? =ay oj) (JG:oi.apart ops oj=bu) (hsj:∀cs b,oj.op≠.select cs b)
 {K:Act->ac->Prop} {a:Act} {w:ac} (h:Eo P ops j K (a.put oi.dst v) w):
 Eo P ops j (λa' w'=>(∃u,a'=a.put oj.dst u)/\K (a'.put oi.dst v) w') a w:=by
 obtain⟨h1,h2,h3⟩:=Oper.apart_spec JG;unfold Eo at*;simp only[hj]at*;rw[wanted_put oj a oi.dst v h1]at h;split
 ·rename_i hw;rw[fk hw]at h;rw[execOp_put oj hsj a oi.dst v h1]at h;refine h.mono λu w' hk=>⟨⟨u,rfl⟩,?_⟩
  rw[<- Act.put_comm a v u h2];exact hk
 ·rename_i hw;rw[dx hw]at h;exact⟨⟨_,rfl⟩,by rw[<- Act.put_comm a v ao h2];exact h⟩
def f8 {P:aa} {ops:List aj} {Q:Act->ac->Prop} (pg:tV ops (gZ ops [])=bu) {r:Nat} {o:aj} {v:ab} (hr:ops[r]? =ay o):
 ∀(fuel:Nat) (M:List Mon) (fu:Array Bool) (a:Act) (w:ac),tH ops (qQ fu)->r∈cm .any ops.toArray fu->
  lB P ops.toArray o v a w->ES M w->
  CR P ops.toArray (gZ ops []) Q fuel ((r,λw=>lB P ops.toArray o v a w)::M) (fu.setIfInBounds r bu) (a.put o.dst v) w->
  CR P ops.toArray (gZ ops []) Q (fuel+1) M fu a w:=by
 have hns:∀(i:Nat) (o:aj),ops[i]? =ay o->∀cs b,o.op≠.select cs b:=by
  intro i o hi cs b;simp only[tV,ld]at pg;exact Region.noSelect_spec pg.1 i o cs b (by simpa using hi)
 intro fuel
 induction fuel with
 |zero=>
  intro M fu a w hc Ld hs hM H;refine⟨λh=>(by rw[h]at Ld;cases Ld),λi hi=> ?_⟩;by_cases JD:i=r
  ·subst JD;refine zVg (by simpa using hr) hs ⟨λm hm=>hM m (by simp only[jX,qk]at hm;exact hm.1),?_⟩;exact H
  ·have:=ready_mono hi JD;rw[H.1]at this;cases this
 |succ fuel ih=>
  intro M fu a w hc Ld hs hM H;refine⟨λh=>(by rw[h]at Ld;cases Ld),λi hi=> ?_⟩;by_cases JD:i=r
  ·subst JD;refine zVg (by simpa using hr) hs ⟨λm hm=>hM m (by simp only[jX,qk]at hm;exact hm.1),?_⟩;refine z5k _ _ _ _ ?_ H;intro m hm;simp only[jX,qk]at hm;exact jx _ hm.1
  ·have h1:=H.2 i (ready_mono hi JD);obtain⟨aaM,oi,P0,tj⟩:=mem_ready.1 hi;obtain⟨jr,o',ln,SV⟩:=mem_ready.1 Ld;simp only[A4]at P0 ln;rw[hr]at ln;cases ln;have hL:∀(k:Nat) (ok:aj),ops[k]? =ay ok->(∀e∈ok.after,cn .any e=bu->fu.getD e.on bv=bu)->∀q,Bc (gZ ops []) k q=bu->qQ fu q:=
    λk ok hk hd q hq=>yAf hc hk hd hq
   have nri:Bc (gZ ops []) i r=bv:=by
    cases hb:Bc (gZ ops []) i r with
    |false=>rfl
    |true=>exact absurd (hL i oi P0 tj r hb) (zSd jr)
   have nir:Bc (gZ ops []) r i=bv:=by
    cases hb:Bc (gZ ops []) r i with
    |false=>rfl
    |true=>exact absurd (hL r o hr SV i hb) (zSd aaM)
   have JG:=z3w pg hr P0 (Ne.symm JD) nir nri;have h2:=yKh (by simpa using P0) JG (hns i oi P0) h1;have aaU:=(Oper.apart_spec JG).2.2;have S3:jX (gZ ops []) i ((r,λw=>lB P ops.toArray o v a w)::M)=(r,λw=>lB P ops.toArray o v a w)::jX (gZ ops []) i M:=by
    simp[jX,nri]
   refine UI h2 λa' w' hh=> ?_
   obtain⟨⟨u,rfl⟩,hA,hB⟩:=hh;rw[S3]at hA hB;have iR:∀w,lB P ops.toArray o v (a.put oi.dst u) w↔lB P ops.toArray o v a w:=λw=>yOc (hns r o hr) aaU
   refine⟨λm hm=>hA m (jx _ hm),?_⟩;have aaP:(λw=>lB P ops.toArray o v a w)=λw=>lB P ops.toArray o v (a.put oi.dst u) w:=by
    funext w;exact propext (iR w).symm
   rw[aaP]at hA hB;refine ih _ _ _ _ (u7 hc hi) (ready_mono Ld (Ne.symm JD)) (hA _ jg) (λm hm=>hA m (jx _ hm)) ?_;rw[Array.setIfInBounds_comm _ _ JD];exact hB
end Cv
namespace Cv
open Go
def lP (P:aa) (o:aj) (ρ:Env) (v:ab) (w:ac):Prop:=
 match o.op with
 | .load t x=>
   match ev ρ x with
   | .pointer p=>I4 p λa=>pZ P t a w v
   |_=>False
 | .lookup t m k ok=>bQ P (cq t (ev ρ m) (ev ρ k) ok) w v
 | .convert s d x=>bQ P (ax s d (ev ρ x)) w v
 | .binOp op t x y _=>bQ P (do ak op t x y (ev ρ x) (ev ρ y);binOp op t (ev ρ x) (ev ρ y)) w v
 | .call {callee:= .builtin .len,args,argTypes}=>bQ P (cg argTypes o.type (args.map (ev ρ))) w v
 | .entry x=>bQ P (Instr.entry (ev ρ x)) w v
 |_=>False
def yHz {P:aa} {o:aj} {ρ:Env} {v:ab} {w:ac} (h:lP P o ρ v w):(af (ev ρ) o).run P w= .ok (.value v) w:=by
 unfold lP at h;split at h
 ·rename_i t x ho;split at h
  ·rename_i p hx;obtain⟨a,rfl,h⟩:=sH h;simp only[af,ho,hx];exact yI h
  ·exact h.elim
 ·rename_i t m k ok ho;simp only[af,ho];exact yI h
 ·rename_i s d x ho;simp only[af,ho];exact yI h
 ·rename_i op t x y u ho;simp only[af,ho];exact yI h
 ·rename_i args argTypes ho;simp only[af,ho];exact yI h
 ·rename_i x ho;simp only[af,ho];exact yI h
 ·exact h.elim
def yAo {P:aa} {ρ:Env} {o:aj} {w:ac} {K:ab->Prop} (h:lX P o ρ w K):∃v,K v/\lP P o ρ v w:=by
 cases ho:o.op
 case load t x=>
  simp only[lX,ho]at h;split at h
  ·rename_i p hx;obtain⟨a,rfl,h⟩:=sH h;obtain⟨v,hv,h⟩:=vW h;refine⟨v,h,?_⟩;simp only[lP,ho,hx];exact hv
  ·exact h.elim
 case lookup t m k ok=>
  simp only[lX,ho]at h;split at h
  ·rename_i e he;obtain⟨v,h⟩:=vW h;obtain⟨b,hb,h⟩:=wT h;refine⟨_,h,?_⟩;simp only[lP,ho];cases ok
   ·exact zNl hb
   ·exact hb
  ·exact h.elim
 case convert s d x=>
  simp only[lX,ho]at h;obtain⟨v,hv,h⟩:=vW h;refine⟨v,h,?_⟩;simp only[lP,ho];exact hv
 case binOp op t x y u=>
  simp only[lX,ho]at h;split at h
  ·obtain⟨v,h1,h2,h⟩:=wT h;refine⟨v,h,?_⟩;simp only[lP,ho,bQ,bind,run_bind,h2];exact h1
  ·obtain⟨v,h1,h2,h⟩:=wT h;refine⟨v,h,?_⟩;simp only[lP,ho,bQ,bind,run_bind,h2];exact h1
  ·exact h.elim
 case call c=>
  simp only[lX,ho]at h;split at h<;>first|exact h.elim|skip
  all_goals first|(exfalso;rename_i hh;cases hh;done)|skip
  rename_i args argTypes hh;cases hh;obtain⟨v,hv,h⟩:=wT h;refine⟨v,h,?_⟩;simp only[lP,ho];exact hv
 case entry x=>
  simp only[lX,ho]at h;obtain⟨v,hv,h⟩:=h;refine⟨v,h,?_⟩;simp only[lP,ho];exact hv
 all_goals(simp only[lX,ho]at h)
def z9s:List Mon->ac->Prop->Prop
 |[],_,X=>X
 |m::ms,w,X=>m.2 w/\z9s ms w X
def zTa:∀{M:List Mon} {w:ac} {X:Prop},z9s M w X->ES M w/\X
 |[],_,_,h=>⟨λm hm=>(by cases hm),h⟩
 |m::ms,w,X,h=>by
  obtain⟨h1,h2⟩:=h;obtain⟨h3,h4⟩:=zTa h2;refine⟨λm' hm=> ?_,h4⟩;rcases ku.1 hm with rfl|hm
  ·exact h1
  ·exact h3 _ hm
def Vv:List Nat->(Nat->Prop)->Prop
 |[],_=>True
 |[e],f=>f e
 |e::es,f=>f e/\Vv es f
def Yj:∀{l:List Nat} {f:Nat->Prop},Vv l f->∀i∈l,f i
 |[],_,_,i,hi=>by cases hi
 |[e],f,h,i,hi=>by rcases xj.1 hi with rfl;exact h
 |e::e'::es,f,h,i,hi=>by
  rcases ku.1 hi with rfl|hi
  ·exact h.1
  ·exact Yj h.2 i hi
def yRo (P:aa) (ops:List aj) (i:Nat):Bool:=
 match ops[i]? with
 |some o=>match Tn P o.op with
  |2=>bv
  |_=>bu
 |none=>bu
def GQ (P:aa) (ops:List aj) (bf:List Nat):Nat->Array Bool->List Mon->Env->ac->(Env->ac->Prop)->Prop
 |0,fu,_,ρ,w,K=>
  match cm .any ops.toArray fu with
  |[]=>K ρ w
  |_=>False
 |fuel+1,fu,M,ρ,w,K=>
  match cm .any ops.toArray fu with
  |[]=>K ρ w
  |r::rs=>
   match(r::rs).find? (yRo P ops)with
   |some i=>
    match ops[i]? with
    |none=>False
    |some o=>Oe ops o.guard ρ
      (λρ'=>match Tn P o.op with
        |0=>bI P o ρ' λv=>GQ P ops bf fuel (fu.setIfInBounds i bu) M (put ρ' o.dst v) w K
        |_=>lX P o ρ' w λv=>GQ P ops bf fuel (fu.setIfInBounds i bu) ((i,lP P o ρ' v)::M) (put ρ' o.dst v) w K)
      (λρ'=>GQ P ops bf fuel (fu.setIfInBounds i bu) M (put ρ' o.dst ao) w K)
   |none=>Vv (r::rs) λi=>
    match ops[i]? with
    |none=>False
    |some o=>Oe ops o.guard ρ
      (λρ'=>cS P o ρ' w λv w'=>z9s (jX bf i M) w' (GQ P ops bf fuel (fu.setIfInBounds i bu) (jX bf i M) (put ρ' o.dst v) w' K))
      (λρ'=>GQ P ops bf fuel (fu.setIfInBounds i bu) (jX bf i M) (put ρ' o.dst ao) w K)
def nV {n:Nat} {A:Nat->Bool} {l:List aj} (h:IU n A l) {i:Nat} {o:aj} (ho:l[i]? =ay o):∀d,o.dst=ay d->d<n/\A d=bu:=
 h o (mc ho)
def nS {P:aa} {ops:Array aj} {bf:List Nat} {Q:Act->ac->Prop} {i:Nat} {f:ac->Prop} (hf:∀w,f w):
 ∀(fuel:Nat) {M:List Mon} (fu:Array Bool) (a:Act) (w:ac),CR P ops bf Q fuel M fu a w->CR P ops bf Q fuel ((i,f)::M) fu a w
 |0,_,_,_,_,h=>h
 |fuel+1,M,fu,a,w,h=>⟨h.1,λj hj=>UI (h.2 j hj) λa' w' hh=>by
   have hk:jX bf j ((i,f)::M)=if Bc bf j i then jX bf j M else(i,f)::jX bf j M:=by
    simp only[jX,List.filter_cons];cases Bc bf j i<;>simp
   rw[hk];cases Bc bf j i
   ·refine⟨λm hm=> ?_,nS hf fuel _ _ _ hh.2⟩;simp only[nr,if_false,ku]at hm;rcases hm with rfl|hm
    ·exact hf w'
    ·exact hh.1 m hm
   ·exact hh⟩
def z4r {P:aa} {ops:Array aj} {bf:List Nat} {Q:Act->ac->Prop} {i:Nat} {f g:ac->Prop} (hfg:∀w,f w->g w):
 ∀(fuel:Nat) {M:List Mon} (fu:Array Bool) (a:Act) (w:ac),CR P ops bf Q fuel ((i,f)::M) fu a w->CR P ops bf Q fuel ((i,g)::M) fu a w
 |0,_,_,_,_,h=>h
 |fuel+1,M,fu,a,w,h=>⟨h.1,λj hj=>UI (h.2 j hj) λa' w' hh=>by
   have hk:∀f:ac->Prop,jX bf j ((i,f)::M)=if Bc bf j i then jX bf j M else(i,f)::jX bf j M:=by
    intro f;simp only[jX,List.filter_cons];cases Bc bf j i<;>simp
   rw[hk]at hh ⊢;cases hb:Bc bf j i
   ·rw[hb]at hh;simp only[nr,if_false]at hh ⊢;refine⟨λm hm=> ?_,z4r hfg fuel _ _ _ hh.2⟩;rcases ku.1 hm with rfl|hm
    ·exact hfg w' (hh.1 _ jg)
    ·exact hh.1 m (jx _ hm)
   ·rw[hb]at hh;exact hh⟩
def z7p {P:aa} {ops:List aj} {n:Nat} {A:Nat->Bool} {e0:Env} {K:Env->ac->Prop} {Q:Act->ac->Prop} (pg:tV ops (gZ ops [])=bu) (hf:IU n A ops)
 (hQ:∀a w,Good n A e0 a->K (yP a) w->Q a w):
 ∀(fuel:Nat) (fu:Array Bool) (M:List Mon) (a:Act) (w:ac),tH ops (qQ fu)->ES M w->Good n A e0 a->
  GQ P ops (gZ ops []) fuel fu M (yP a) w K->CR P ops.toArray (gZ ops []) Q fuel M fu a w:=by
 intro fuel
 induction fuel with
 |zero=>
  intro fu M a w hc hM rl h;unfold GQ at h;split at h
  ·rename_i hr;exact⟨hr,hQ a w rl h⟩
  ·exact h.elim
 |succ fuel ih=>
  intro fu M a w hc hM rl h;unfold GQ at h;split at h
  ·rename_i hr;exact⟨λ_=>hQ a w rl h,λi hi=>by rw[hr]at hi;cases hi⟩
  ·rename_i r rs hr;have jf:cm .any ops.toArray fu≠[]:=by rw[hr];simp
   split at h
   ·rename_i i FN;have hi:i∈cm .any ops.toArray fu:=by rw[hr];exact List.mem_of_find?_eq_some FN
    split at h<;>first|exact h.elim|skip
    rename_i o ho;have Ac:∀v,yP (a.put o.dst v)=put (yP a) o.dst v:=λv=>rl.mz (nV hf ho) v
    have hg:=eW h;have nx:∀{M:List Mon} {v:ab},ES M w->GQ P ops (gZ ops []) fuel (fu.setIfInBounds i bu) M (put (yP a) o.dst v) w K->
     CR P ops.toArray (gZ ops []) Q fuel M (fu.setIfInBounds i bu) (a.put o.dst v) w:=λ{M v} hM hh=>
     ih _ _ _ _ (u7 hc hi) hM (rl.put (nV hf ho) _) (by rw[Ac];exact hh)
    by_cases hw:co o (yielded ops.toArray a.tmps)=bu
    ·rw[fk hw]at hg;split at hg
     ·obtain⟨v,hk,vo⟩:=fX hg;rw[wV]at vo;have hs:∀w,lB P ops.toArray o v a w:=λw=> .inl ⟨hw,vo w⟩
      exact f8 pg ho fuel M fu a w hc hi (hs w) hM (nS hs fuel _ _ _ (nx hM hk))
     ·obtain⟨v,hk,jy⟩:=yAo hg;have hw':∀w,lP P o (yP a) v w->lB P ops.toArray o v a w:=λw jy=> .inl ⟨hw,by rw[<- wV];exact yHz jy⟩
      refine f8 pg ho fuel M fu a w hc hi (hw' w jy) hM (z4r hw' fuel _ _ _ (nx ?_ hk));intro m hm;rcases ku.1 hm with rfl|hm
      ·exact jy
      ·exact hM m hm
    ·rw[dx hw]at hg;have hs:∀w,lB P ops.toArray o ao a w:=λw=> .inr ⟨by simpa using hw,rfl⟩
     exact f8 pg ho fuel M fu a w hc hi (hs w) hM (nS hs fuel _ _ _ (nx hM hg))
   ·refine⟨λh0=>absurd h0 jf,λi hi=> ?_⟩;have h1:=Yj h i (by rw[<- hr];exact hi);split at h1<;>first|exact h1.elim|skip
    rename_i o ho;have Ac:∀v,yP (a.put o.dst v)=put (yP a) o.dst v:=λv=>rl.mz (nV hf ho) v
    have hg:=eW h1;unfold Eo;simp only[A4,ho];by_cases hw:co o (yielded ops.toArray a.tmps)=bu
    ·rw[fk hw]at hg ⊢;have BM:=zWw hg;rw[wV]at BM;refine BM.mono λv w' hh=> ?_
     obtain⟨C6,hh⟩:=zTa hh;exact⟨C6,ih _ _ _ _ (u7 hc hi) C6 (rl.put (nV hf ho) _) (by rw[Ac];exact hh)⟩
    ·rw[dx hw]at hg ⊢;have C6:ES (jX (gZ ops []) i M) w:=λm hm=>hM m (by simp only[jX,qk]at hm;exact hm.1)
     exact⟨C6,ih _ _ _ _ (u7 hc hi) C6 (rl.put (nV hf ho) _) (by rw[Ac];exact hg)⟩
end Cv
namespace Cv
open Go
structure Pj where
 ι:Type
 Rs:ι->List (Nat×ab)
 fix:List Nat
def Jc:List (Nat×ab)->Env->Prop
 |[],_=>True
 |[p],ρ=>ρ p.1=p.2
 |p::l,ρ=>ρ p.1=p.2/\Jc l ρ
def Eg {p:Nat×ab} {l:List (Nat×ab)} {ρ:Env}:Jc (p::l) ρ↔ρ p.1=p.2/\Jc l ρ:=by
 cases l<;>simp[Jc]
def VT:List (Nat×ab)->Env->Env
 |[],ρ=>ρ
 |p::l,ρ=>put (VT l ρ) (ay p.1) p.2
def zXr:∀{l:List (Nat×ab)} {ρ:Env},Jc l ρ->VT l ρ=ρ
 |[],_,_=>rfl
 |p::l,ρ,h=>by
  have h:=Eg.1 h;simp only[VT];rw[zXr h.2];exact z4w h.1
def rB (s:Nat):List Nat->Bool
 |[]=>bv
 |x::l=>bif cx s x then bu else rB s l
def tr {s:Nat}:∀{l:List Nat},rB s l=bu↔s∈l
 |[]=>by simp[rB]
 |x::l=>by
  simp only[rB];cases hb:cx s x
  ·have jf:s≠x:=λe=>by subst e;simp at hb
   simp[tr,jf]
  ·have:=ji hb;simp[this]
def yKe (fix:List Nat) (ρ j:Env):Env:=λs=>bif rB s fix then ρ s else j s
def z9m {fix:List Nat} {ρ j:Env} (h:∀s∈fix,j s=ρ s):yKe fix ρ j=j:=by
 funext s;simp only[yKe];cases hb:rB s fix
 ·rfl
 ·exact(h s (tr.1 hb)).symm
def vj:Code->List Nat
 | .region _ ops _=>ops.toList.filterMap (·.dst)
 | .seq a b=>vj a++vj b
 | .cond _ a b=>vj a++vj b
 | .block _ a=>vj a
 | .loop a=>vj a
 |_=>[]
def nL:Code->Nat
 | .seq a b=>nL a+nL b
 | .cond _ a b=>nL a+nL b
 | .block _ a=>nL a
 | .loop a=>nL a+1
 |_=>0
def yYf (next:Env->ac->Prop) (Q:Exit->Env->ac->Prop):Exit->Env->ac->Prop
 | .normal,ρ,w=>next ρ w
 |e,ρ,w=>Q e ρ w
def yJc (id:Nat) (Q:Exit->Env->ac->Prop):Exit->Env->ac->Prop
 | .exit Fg,ρ,w=>bif cx Fg id then Q .normal ρ w else Q (.exit Fg) ρ w
 |e,ρ,w=>Q e ρ w
def du (t:Bool) (A B:Prop):Prop:=
 match t with
 |true=>A
 |false=>B
def du.mk {t:Bool} {A B:Prop} (h1:t=bu->A) (h2:t=bv->B):du t A B:=by
 cases t
 ·exact h2 rfl
 ·exact h1 rfl
def VY (w:ac) (K:ac->Prop):Prop:=∀w',w'=w.drew->K w'
def EI (P:aa):List Pj->Code->(Exit->Env->ac->Prop)->Env->ac->Prop
 |_,.skip,Q,ρ,w=>Q .normal ρ w
 |an,.seq a b,Q,ρ,w=>EI P (an.take (nL a)) a (yYf (λρ w=>EI P (an.drop (nL a)) b Q ρ w) Q) ρ w
 |an,.cond c a b,Q,ρ,w=>
  match ev ρ c with
  | .bool t=>du t (EI P (an.take (nL a)) a Q ρ w) (EI P (an.drop (nL a)) b Q ρ w)
  |_=>False
 |an,.block id a,Q,ρ,w=>EI P an a (yJc id Q) ρ w
 |an,.loop a,Q,ρ,w=>
  match an with
  |[]=>False
  |x::rest=>∃(I:x.ι->ac->Prop) (μ:x.ι->ac->Nat),(∃i0,Jc (x.Rs i0) ρ/\I i0 w)/\
    ∀(j:Env) (i:x.ι) (w1:ac),I i w1->EI P rest a (yYf (λρ' w'=>∃i',Jc (x.Rs i') ρ'/\I i' w'/\μ i' w'<μ i w1) Q) (VT (x.Rs i) (yKe x.fix ρ j)) w1
 |_,.exit id,Q,ρ,w=>Q (.exit id) ρ w
 |_,.ret,Q,ρ,w=>Q .ret ρ w
 |_,.region _ ops d,Q,ρ,w=>bif d then VY w λw=>GQ P ops.toList (gZ ops.toList []) ops.toList.length (de ops.toList.length bv) [] ρ w (Q .normal)
    else O4 P ops.toList ops.toList ρ w (Q .normal)
 |_,_,_,_,_=>False
def yi (n:Nat):Code->Bool
 | .region _ ops d=>(ops.toList.all λo=>match o.dst with|none=>bu|some d=>cy d n) && (bif d then tV ops.toList (gZ ops.toList [])else bu)
 | .seq a b=>yi n a && yi n b
 | .cond _ a b=>yi n a && yi n b
 | .block _ a=>yi n a
 | .loop a=>yi n a
 |_=>bu
def okF:List Pj->Code->Bool
 |an,.seq a b=>okF (an.take (nL a)) a && okF (an.drop (nL a)) b
 |an,.cond _ a b=>okF (an.take (nL a)) a && okF (an.drop (nL a)) b
 |an,.block _ a=>okF an a
 |an,.loop a=>match an with
  |[]=>bv
  |x::rest=>(x.fix.all λs=> !rB s (vj a)) && okF rest a
 |_,_=>bu
def z5y {n:Nat} {A:Nat->Bool} {ops:List aj} (h:(ops.all λo=>match o.dst with|none=>bu|some d=>cy d n)=bu) (hA:∀s∈ops.filterMap (·.dst),A s=bu):IU n A ops:=by
 intro o ho d hd;have:=DO.1 h o ho;rw[hd]at this;exact⟨by simpa[zg]using this,hA d (HB.2 ⟨o,ho,hd⟩)⟩
def VZ (n:Nat) (A:Nat->Bool) (e0:Env) (Q:Exit->Env->ac->Prop):Exit->Act->ac->Prop:=λe a w=>Good n A e0 a/\Q e (yP a) w
def yGr {P:aa} (hm:P.follows .mixedOrders=bu) {n:Nat}:∀(c:Code) (an:List Pj) (Q:Exit->Env->ac->Prop) (A:Nat->Bool) (e0:Env) (a:Act) (w:ac),
 yi n c=bu->okF an c=bu->(∀s∈vj c,A s=bu)->Good n A e0 a->EI P an c Q (yP a) w->c.wp P (VZ n A e0 Q) a w:=by
 intro c
 induction c with
 |skip=>intro an Q A e0 a w _ _ _ hg h;exact wp_skip ⟨hg,h⟩
 |region id ops d=>
  intro an Q A e0 a w hc _ hA hg h;simp only[yi,ld]at hc;have za:=z5y (A:=A) hc.1 hA;cases d
  ·refine wp_region_list ?_;exact zQg (Q:=VZ n A e0 Q) (K:=Q .normal) (λa w hg h=>⟨hg,h⟩) ops.toList a w za hg h
  ·refine wp_region_any hm ?_;have h':=h _ rfl;have pg:tV ops.toList (gZ ops.toList [])=bu:=hc.2;refine fQ (Q:=λa w=>VZ n A e0 Q .normal a w) (λ_ _ h=>h) ops.size _ _ _ (M:=[]) (bf:=gZ ops.toList []) ?_;have A1:tH ops.toList (qQ (de ops.toList.length bv)):=by
    intro i o ho hi;exfalso;unfold qQ at hi;simp[Ck]at hi;rw[Wc]at hi;split at hi<;>simp at hi
   have:=z7p (P:=P) (K:=Q .normal) (Q:=λa w=>VZ n A e0 Q .normal a w) pg za (λa w hg h=>⟨hg,h⟩) ops.toList.length _ [] a _ A1 (λm hm=>by cases hm) hg h';simpa using this
 |seq x y Ez Ey=>
  intro an Q A e0 a w hc hf hA hg h;simp only[yi,okF,ld,vj,qq]at hc hf hA;refine wp_seq (aw (Ez _ _ A e0 a w hc.1 hf.1 (λs hs=>hA s (.inl hs)) hg h) ?_);rintro e a' w' ⟨pw,h'⟩;cases e<;>first|exact Ey _ _ A e0 a' w' hc.2 hf.2 (λs hs=>hA s (.inr hs)) pw h'|exact⟨pw,h'⟩
 |cond c x y Ez Ey=>
  intro an Q A e0 a w hc hf hA hg h;simp only[yi,okF,ld,vj,qq]at hc hf hA;simp only[EI]at h;rw[wV]at h;split at h
  ·rename_i t ht;refine wp_cond_split ht (λe=> ?_) (λe=> ?_)
   ·subst e;exact Ez _ _ A e0 a w hc.1 hf.1 (λs hs=>hA s (.inl hs)) hg h
   ·subst e;exact Ey _ _ A e0 a w hc.2 hf.2 (λs hs=>hA s (.inr hs)) hg h
  ·exact h.elim
 |block id x ih=>
  intro an Q A e0 a w hc hf hA hg h;refine wp_block (aw (ih an _ A e0 a w hc hf hA hg h) ?_);rintro e a' w' ⟨pw,h'⟩;cases e<;>first|exact⟨pw,h'⟩|skip
  rename_i Fg;simp only[Exit.inBlock];simp only[yJc]at h';split
  ·rename_i heq;subst heq;rw[Nat.beq_refl]at h';exact⟨pw,h'⟩
  ·rename_i jf;have hb:cx Fg id=bv:=by
    cases hb:cx Fg id with
    |false=>rfl
    |true=>exact absurd (ji hb) jf
   rw[hb]at h';exact⟨pw,h'⟩
 |loop x ih=>
  intro an Q A e0 a w hc hf hA hg h;cases an with
  |nil=>exact h.elim
  |cons an rest=>
   simp only[okF,ld]at hf;obtain⟨I,μ,⟨i0,PU,hi0⟩,ux⟩:=h;refine wp_loop_ghost (λm a' w'=>Good n A e0 a'/\(∀s∈an.fix,yP a' s=yP a s)/\∃i,Jc (an.Rs i) (yP a')/\I i w'/\μ i w'=m) (μ i0 w) ⟨hg,λ_ _=>rfl,i0,PU,hi0,rfl⟩ ?_;rintro m a' w' ⟨pw,Ea,i,aaA,hI,rfl⟩;have h1:=ux (yP a') i w' hI;rw[z9m Ea,zXr aaA]at h1;have Re:Good n (λs=>A s && rB s (vj x)) (yP a') a':=⟨pw.size,pw.defers,λ_ _=>rfl⟩
   refine aw (ih rest _ (λs=>A s && rB s (vj x)) (yP a') a' w' hc hf.2 (λs hs=>by rw[hA s hs,tr.2 hs];rfl) Re h1) ?_;rintro e a2 w2 ⟨AF,h2⟩;have JF:Good n A e0 a2:=⟨AF.size,AF.defers,λs hs=>by rw[AF.same s (by simp[hs]),pw.same s hs]⟩
   cases e<;>first|exact⟨JF,h2⟩|skip
   obtain⟨i',iR,hI',iq⟩:=h2;refine⟨_,iq,JF,λs hs=> ?_,i',iR,hI',rfl⟩;have:=DO.1 hf.1 s hs;rw[AF.same s (by simp at this;simp[this]),Ea s hs]
 |exit id=>intro an Q A e0 a w _ _ _ hg h;exact wp_exit ⟨hg,h⟩
 |ret=>intro an Q A e0 a w _ _ _ hg h;exact wp_ret ⟨hg,h⟩
 |rangeFunc f ps x y Ez Ey=>intro an Q A e0 a w _ _ _ hg h;exact h.elim
 |scope x ih=>intro an Q A e0 a w _ _ _ hg h;exact h.elim
 |label l=>intro an Q A e0 a w _ _ _ hg h;exact h.elim
 |goto l=>intro an Q A e0 a w _ _ _ hg h;exact h.elim
 |refuse s=>intro an Q A e0 a w _ _ _ hg h;exact h.elim
end Cv
namespace Cv
open Go
def bs (l:List Nat):ByteArray:=⟨(l.map Nat.toUInt8).toArray⟩
def KJ (P:aa):List ResultVar->Env->ac->(List ab->Prop)->Prop
 |[],_,_,K=>K []
 | .tmp t::rs,ρ,w,K=>KJ P rs ρ w λvs=>K (ρ t::vs)
 | .cell a t::rs,ρ,w,K=>
   match ρ a with
   | .pointer p=>I4 p λad=>EH P t λv=>pZ P t ad w v/\KJ P rs ρ w λvs=>K (v::vs)
   |_=>False
def Hn:List ab->ab
 |[v]=>v
 |vs=> .tuple vs.toArray
def TB (P:aa) (fn:Func) (R:Ending->ac->Prop):Exit->Env->ac->Prop
 | .normal,ρ,w=>KJ P fn.results.toList ρ w λvs=>R (.returned (Hn vs)) w
 | .ret,ρ,w=>KJ P fn.results.toList ρ w λvs=>R (.returned (Hn vs)) w
 |_,_,_=>False
def gG (args:List ab):Env:=λi=>args.getD i ao
def Ht (tmps:Array ab):ResultVar->Sem ab
 | .tmp t=>pure (tmps.getD t ao)
 | .cell a t=>(asAddr (tmps.getD a ao)).bind λad=>loadVar t ad
def Yf {P:aa} {tmps:Array ab} {w:ac}:∀{rs:List ResultVar} {K:List ab->Prop},KJ P rs (λi=>tmps.getD i ao) w K->
 ∃vs,(rs.mapM (Ht tmps)).run P w= .ok vs w/\K vs
 |[],K,h=>⟨[],rfl,h⟩
 | .tmp t::rs,K,h=>by
   obtain⟨vs,h1,h3⟩:=Yf (rs:=rs) h;refine⟨_::vs,?_,h3⟩;simp only[dd,Ht,bind,pure,run_bind,bg,be]at h1 ⊢;rw[h1]
 | .cell a t::rs,K,h=>by
   simp only[KJ]at h;split at h
   ·rename_i p hp;obtain⟨ad,rfl,h⟩:=sH h;obtain⟨v,hv,h⟩:=vW h;obtain⟨vs,h1,h3⟩:=Yf (rs:=rs) h;refine⟨v::vs,?_,h3⟩;simp only[dd,Ht,bind,pure,run_bind,bg,be,hp,asAddr]at h1 ⊢;rw[hv];simp only[h1]
   ·exact h.elim
def zNv {P:aa} {tmps:Array ab} {w:ac} {vs:List ab} {rs:List ResultVar} (h:(rs.mapM (Ht tmps)).run P w= .ok vs w) (F:ResultVar->Sem ab) (hF:∀r,F r=Ht tmps r):
 ((rs.mapM F).bind λvs=>bo (if h:vs.toArray.size=1 then vs.toArray[0]else .tuple vs.toArray)).run P w= .ok (Hn vs) w:=by
 obtain rfl:F=Ht tmps:=funext hF;rw[run_bind,h];simp only[be];cases vs with
 |nil=>rfl
 |cons v vs=>
  cases vs with
  |nil=>rfl
  |cons u us=>simp[Hn]
def zNd {P:aa} {fn:Func} {tmps:Array ab} {w:ac} {K:ab->Prop} (h:KJ P fn.results.toList (λi=>tmps.getD i ao) w λvs=>K (Hn vs)):
 ∃v,(results fn tmps).run P w= .ok v w/\K v:=by
 obtain⟨vs,h1,h3⟩:=Yf h;refine⟨Hn vs,?_,h3⟩;unfold results;rw[Array.mapM_eq_mapM_toList,map_eq_pure_bind,bind_assoc];exact zNv h1 _ (λr=>by cases r<;>rfl)
def vw {P:aa} {f:av} {fn:Func} {c:Code} {args:List ab} {w:ac} {R:Ending->ac->Prop} (hm:P.follows .mixedOrders=bu)
 (hf:P.funcs[f]? =ay fn) (hb:fn.body=ay c) (an:List Pj) (pg:yi fn.ntmps c=bu) (Li:okF an c=bu) (aay:cz args.length fn.ntmps=bu)
 (h:EI P an c (TB P fn R) (gG args) w):Calls P f args.toArray w R:=by
 have oW:=B1 aay;refine calls_of_wp hf hb ?_;have hg:Good fn.ntmps (λ_=>bu) (gG args) {tmps:=args.toArray++de (fn.ntmps-args.toArray.size) ao,defers:=[]}:=
  ⟨by simp;omega,rfl,λs hs=>by cases hs⟩
 have LP:yP {tmps:=args.toArray++de (fn.ntmps-args.toArray.size) ao,defers:=[]}=gG args:=by
  funext i;simp only[yP,gG,Ck,mi,Array.getElem?_append];split
  ·simp
  ·rename_i iq;simp at iq;rw[ue iq,Wc];split<;>rfl
 refine aw (yGr hm c an _ (λ_=>bu) (gG args) _ w pg Li (λ_ _=>rfl) hg (LP▸h)) ?_;rintro e a' w' ⟨pw,h'⟩;cases e<;>first|exact h'.elim|skip
 ·obtain⟨v,hv,hk⟩:=zNd (K:=λv=>R (.returned v) w') h';exact⟨pw.defers,v,hv,hk⟩
 ·obtain⟨v,hv,hk⟩:=zNd (K:=λv=>R (.returned v) w') h';exact⟨pw.defers,v,hv,hk⟩
def zNa {P:aa} {f:av} {fn:Func} {c:Code} {args:List ab} {w:ac} {R:Ending->ac->Prop} {V:Prop} (hm:P.follows .mixedOrders=bu)
 (hf:P.funcs[f]? =ay fn) (hb:fn.body=ay c) (an:List Pj) (pg:yi fn.ntmps c=bu) (Li:okF an c=bu) (oW:cz args.length fn.ntmps=bu)
 (e:V=EI P an c (TB P fn R) (gG args) w) (h:V):Calls P f args.toArray w R:=
 vw hm hf hb an pg Li oW (e▸h)
end Cv
namespace Cv
open Go Go.RowKit
@[reducible] def PH:=Nat->Option Obj
@[reducible] def HP:=PH->Prop
def pe:PH:=λ_=>ba
def one (b:Nat) (o:Obj):PH:=λx=>if x=b then ay o else ba
def Dj (g h:PH):Prop:=∀b,g b=ba\/h b=ba
def Sub (h:PH) (w:ac):Prop:=∀b o,h b=ay o->w.heap[b]?=ay o
def un (g h:PH):PH:=λb=>match g b with|some o=>ay o|none=>h b
def Dj.symm {g h:PH} (d:Dj g h):Dj h g:=λb=>(d b).symm
def Dj.pe (h:PH):Dj pe h:=λ_=> .inl rfl
def yBp {g g' h:PH} (d:Dj g h) (d':Dj g' h):Dj (un g g') h:=λb=>by
 rcases d b with e|e
 ·rcases d' b with e'|e'
  ·left;simp[un,e,e']
  ·exact .inr e'
 ·exact .inr e
def zRa {g g' h:PH} (d:Dj (un g g') h) (dg:Dj g g'):Dj g h/\Dj g' h:=by
 refine⟨λb=> ?_,λb=> ?_⟩
 ·rcases d b with e|e
  ·left;simp only[un]at e;cases hg:g b with
   |none=>rfl
   |some o=>rw[hg]at e;cases e
  ·exact .inr e
 ·rcases d b with e|e
  ·left;simp only[un]at e;cases hg:g b with
   |none=>rw[hg]at e;exact e
   |some o=>rw[hg]at e;cases e
  ·exact .inr e
def yMj {g h:PH} {w:ac} (a:Sub g w) (b:Sub h w):Sub (un g h) w:=λx o e=>by
 simp only[un]at e;cases hg:g x with
 |some o'=>rw[hg]at e;cases e;exact a x _ hg
 |none=>rw[hg]at e;exact b x o e
def yIm {g h:PH} {w:ac} (s:Sub (un g h) w) (d:Dj g h):Sub g w/\Sub h w:=by
 refine⟨λx o e=>s x o (by simp[un,e]),λx o e=>s x o ?_⟩;rcases d x with e'|e'
 ·simp[un,e',e]
 ·rw[e]at e';cases e'
def Sub.pe (w:ac):Sub Cv.pe w:=λ_ _ e=>by cases e
def Sub.lt {h:PH} {w:ac} (s:Sub h w) {b:Nat} (hb:h b≠ba):b<w.heap.size:=by
 cases e:h b with
 |none=>exact absurd e hb
 |some o=>
  have:=s b o e;rcases vx b w.heap.size with h'|h'
  ·exact h'
  ·rw[GY h']at this;cases this
structure Ko where
 os:Os
 tape:Nat->Question->Nat
 output:Array (Nat×ByteArray)
def ko (w:ac):Ko:=⟨w.os,w.tape,w.output⟩
def Kon (k:Ko) (w:ac):Prop:=w.os=k.os/\w.tape=k.tape/\w.output=k.output
inductive Hs (w:ac):List HP->List PH->Prop
 |nil:Hs w [] []
 |cons {A:HP} {h:PH} {L:List HP} {hs:List PH}:A h->Sub h w->(∀g∈hs,Dj h g)->Hs w L hs->Hs w (A::L) (h::hs)
def Hp (k:Ko) (w:ac) (L:List HP):Prop:=Kon k w/\∃hs,Hs w L hs
def Sat (w:ac) (A:HP):Prop:=∃h,A h/\Sub h w
def Hs.perm {w:ac} {L L':List HP} (p:L.Perm L'):∀{hs:List PH},Hs w L hs->∃iR,Hs w L' iR/\hs.Perm iR:=by
 induction p with
 |nil=>intro hs h;cases h;exact⟨[],.nil,.nil⟩
 |cons A _ ih=>
  intro hs h;cases h with
  |cons ha jb hd hr=>
   obtain⟨iR,h1,h2⟩:=ih hr;exact⟨_,.cons ha jb (λg hg=>hd g (h2.mem_iff.2 hg)) h1,.cons _ h2⟩
 |swap A B L=>
  intro hs h;cases h with
  |cons hb hbs B6 hr=>
   cases hr with
   |cons ha has had hr=>
    refine⟨_,.cons ha has ?_ (.cons hb hbs (λg hg=>B6 g (jx _ hg)) hr),.swap _ _ _⟩;intro g hg;rcases ku.1 hg with rfl|hg
    ·exact(B6 _ jg).symm
    ·exact had g hg
 |trans _ _ Wt Ws=>
  intro hs h;obtain⟨vg,h1,p1⟩:=Wt h;obtain⟨yu,h2,p2⟩:=Ws h1;exact⟨yu,h2,p1.trans p2⟩
def Hp.perm {k:Ko} {w:ac} {L L':List HP} (H:Hp k w L) (p:L.Perm L'):Hp k w L':=
 ⟨H.1,let⟨_,h⟩:=H.2;let⟨iR,h',_⟩:=h.perm p;⟨iR,h'⟩⟩
def Hp.drop {k:Ko} {w:ac} {A:HP} {L:List HP} (H:Hp k w (A::L)):Hp k w L:=by
 obtain⟨hk,hs,hh⟩:=H;cases hh with
 |cons _ _ _ hr=>exact⟨hk,_,hr⟩
def Hp.sat {k:Ko} {w:ac} {A:HP} {L:List HP} (H:Hp k w (A::L)):Sat w A:=by
 obtain⟨hk,hs,hh⟩:=H;cases hh with
 |cons ha jb _ _=>exact⟨_,ha,jb⟩
def Hp.imp {k:Ko} {w:ac} {A B:HP} {L:List HP} (H:Hp k w (A::L)) (h:∀x,A x->B x):Hp k w (B::L):=by
 obtain⟨hk,hs,hh⟩:=H;cases hh with
 |cons ha jb hd hr=>exact⟨hk,_,.cons (h _ ha) jb hd hr⟩
def pt (b:Nat) (o:Obj):HP:=λh=>h=one b o
def hPu (p:Prop):HP:=λh=>p/\h=pe
def Rl (A B:HP):HP:=λh=>∃g g',A g/\B g'/\Dj g g'/\h=un g g'
def hS:List HP->HP
 |[]=>λh=>h=pe
 |[A]=>A
 |A::L=>Rl A (hS L)
def gV {k:Ko} {w:ac} {p:Prop} {L:List HP}:Hp k w (hPu p::L)↔p/\Hp k w L:=by
 constructor
 ·rintro⟨hk,hs,hh⟩;cases hh with
  |cons ha jb hd hr=>exact⟨ha.1,hk,_,hr⟩
 ·rintro⟨hp,hk,hs,hh⟩;exact⟨hk,_,.cons ⟨hp,rfl⟩ (Sub.pe w) (λg _=>Dj.pe g) hh⟩
def vu {k:Ko} {w:ac} {A B:HP} {L:List HP}:Hp k w (Rl A B::L)↔Hp k w (A::B::L):=by
 constructor
 ·rintro⟨hk,hs,hh⟩;cases hh with
  |cons ha jb hd hr=>
   obtain⟨g,g',h1,h2,h3,rfl⟩:=ha;obtain⟨s1,s2⟩:=yIm jb h3;refine⟨hk,_,.cons h1 s1 ?_ (.cons h2 s2 (λx hx=>(zRa (hd x hx) h3).2) hr)⟩;intro x hx;rcases ku.1 hx with rfl|hx
   ·exact h3
   ·exact(zRa (hd x hx) h3).1
 ·rintro⟨hk,hs,hh⟩;cases hh with
  |cons h1 s1 d1 hr=>
   cases hr with
   |cons h2 s2 d2 hr=>
    exact⟨hk,_,.cons ⟨_,_,h1,h2,d1 _ jg,rfl⟩ (yMj s1 s2) (λx hx=>yBp (d1 x (jx _ hx)) (d2 x hx)) hr⟩
def yJe {k:Ko} {w:ac} {L:List HP}:Hp k w (hS []::L)↔Hp k w L:=by
 have e:hS []=hPu True:=by funext h;simp[hS,hPu]
 rw[e,gV];exact⟨λh=>h.2,λh=>⟨trivial,h⟩⟩
def yPb {k:Ko} {w:ac} {A B:HP} {l L:List HP}:Hp k w (hS (A::B::l)::L)↔Hp k w (A::hS (B::l)::L):=vu
def Hp.swap {k:Ko} {w:ac} {A B:HP} {L:List HP} (H:Hp k w (A::B::L)):Hp k w (B::A::L):=H.perm (.swap _ _ _)
def Hp.cons {k:Ko} {w:ac} {A:HP} {L L':List HP} (H:Hp k w (A::L)) (p:L.Perm L'):Hp k w (A::L'):=H.perm (.cons _ p)
def rq {k:Ko} {w:ac}:∀{l L:List HP},Hp k w (hS l::L)↔Hp k w (l++L)
 |[],L=>yJe
 |[A],L=>Iff.rfl
 |A::B::l,L=>by
  rw[yPb];constructor
  ·intro h;have h1:=(rq (l:=B::l) (L:=A::L)).1 h.swap;refine h1.perm ?_;exact ni
  ·intro h;have h1:Hp k w ((B::l)++(A::L)):=h.perm (ni (l₁:=B::l)).symm;exact((rq (l:=B::l) (L:=A::L)).2 h1).swap
def Hs.move {w w':ac} (h:∀(x:PH),Sub x w->Sub x w'):∀{L:List HP} {hs:List PH},Hs w L hs->Hs w' L hs
 |_,_,.nil=> .nil
 |_,_,.cons ha jb hd hr=> .cons ha (h _ jb) hd (hr.move h)
def ZO {w w':ac} (h:Below w.heap.size w w') {x:PH} (s:Sub x w):Sub x w':=λb o e=>by
 rw[h.block b (s.lt (by rw[e];simp))];exact s b o e
def zVz {k:Ko} {B:Nat} {w w':ac} (h:Below B w w') (hk:Kon k w):Kon k w':=⟨h.os.trans hk.1,h.tape.trans hk.2.1,h.output.trans hk.2.2⟩
def Hp.below {k:Ko} {w w':ac} {L:List HP} (H:Hp k w L) (h:Below w.heap.size w w'):Hp k w' L:=
 ⟨zVz h H.1,let⟨hs,hh⟩:=H.2;⟨hs,hh.move λ_ s=>ZO h s⟩⟩
def Sat.below {w w':ac} {A:HP} (H:Sat w A) (h:Below w.heap.size w w'):Sat w' A:=let⟨x,a,s⟩:=H;⟨x,a,ZO h s⟩
def Hp.drew {k:Ko} {w:ac} {L:List HP} (H:Hp k w L):Hp k w.drew L:=H.below ((Below.refl _ _).drew)
def Hp.new {k:Ko} {w:ac} {L:List HP} (H:Hp k w L) (o:Obj):Hp k (w.alloc o) (pt w.heap.size o::L):=by
 have hb:Below w.heap.size w (w.alloc o):=(Below.refl _ _).alloc (mg _) o;obtain⟨hk,hs,hh⟩:=H;refine⟨zVz hb hk,_,.cons rfl ?_ ?_ (hh.move λ_ s=>ZO hb s)⟩
 ·intro b o' e;simp only[one]at e;split at e
  ·rename_i Ao;subst Ao;cases e;exact heap_alloc_new w o
  ·cases e
 ·intro g hg;have jb:∀{L:List HP} {hs:List PH},Hs w L hs->∀g∈hs,Sub g w:=by
   intro L hs hh
   induction hh with
   |nil=>intro g hg;cases hg
   |cons _ hs _ _ ih=>
    intro g hg;rcases ku.1 hg with rfl|hg
    ·exact hs
    ·exact ih g hg
  intro b;by_cases Ao:b=w.heap.size
  ·right;cases hgb:g b with
   |none=>rfl
   |some o'=>
    have:=(jb hh g hg).lt (b:=b) (by rw[hgb];simp);omega
  ·left;simp[one,Ao]
def World.ja (w:ac) (b:Nat) (o:Obj):ac:={w with heap:=w.heap.setIfInBounds b o}
def Hp.get {k:Ko} {w:ac} {b:Nat} {o:Obj} {L:List HP} (H:Hp k w (pt b o::L)):w.heap[b]? =ay o:=by
 obtain⟨h,rfl,s⟩:=H.sat;exact s b o (by simp[one])
def Hp.oc {k:Ko} {w:ac} {b:Nat} {o:Obj} {L:List HP} (H:Hp k w (pt b o::L)) (o':Obj):Hp k (World.ja w b o') (pt b o'::L):=by
 have kj:=H.get;obtain⟨hk,hs,hh⟩:=H;cases hh with
 |cons ha jb hd hr=>
  cases ha;have iq:b<w.heap.size:=jb.lt (b:=b) (by simp[one]);rename_i hs;have s0:Sub (one b o') (World.ja w b o'):=by
   intro x o2 e;simp only[one]at e;split at e
   ·rename_i hx;subst hx;cases e;simp[World.ja,Wh iq]
   ·cases e
  have d0:∀g∈hs,Dj (one b o') g:=by
   intro g hg x;rcases hd g hg x with e|e
   ·left;simp only[one]at e ⊢;split at e<;>simp_all
   ·exact .inr e
  have key:∀{L:List HP} {hs:List PH},Hs w L hs->(∀g∈hs,Dj (one b o) g)->Hs (World.ja w b o') L hs:=by
   intro L hs hh
   induction hh with
   |nil=>intro _;exact .nil
   |cons ha iR oY _ ih=>
    intro Hb;refine .cons ha ?_ oY (ih λg hg=>Hb g (jx _ hg));intro x o2 e;have jf:x≠b:=by
     intro hx;subst hx;rcases Hb _ jg x with e'|e'
     ·simp[one]at e'
     ·rw[e]at e';cases e'
    simp only[World.ja];rw[Wg (Ne.symm jf)];exact iR x o2 e
  exact⟨hk,_,.cons rfl s0 d0 (key hr hd)⟩
def base (w0:ac):HP:=λh=>h=λb=>w0.heap[b]?
def Hp.start (w:ac):Hp (Cv.ko w) w [base w]:=⟨⟨rfl,rfl,rfl⟩,_,.cons rfl (λ_ _ e=>e) (λg hg=>by cases hg) .nil⟩
end Cv
namespace Cv
open Go Go.RowKit
def uX (b o n:Nat):(⟨b,o,ba⟩:am).add n=⟨b,o+n,ba⟩:=by
 unfold Addr.add;split
 ·rename_i h;subst h;rfl
 ·rfl
def Ce (P:aa) (t:ae):Bool:=
 match P.underlying t with
 |some (.struct _)=>bv
 |some (.array _ _)=>bv
 |some _=>bu
 |none=>bv
def Ek (P:aa) (t:ae):Option Nat:=
 match P.underlying t with
 |some (.struct _)=>(P.info? t).map λ(x:TypeInfo)=>x.size
 |some (.array _ _)=>(P.info? t).map λ(x:TypeInfo)=>x.size
 |_=>ba
def pF {P:aa} {t:ae} (h:Ce P t=bu) (w:ac):(isAgg t).run P w= .ok bv w:=by
 unfold Ce at h;cases hd:P.underlying t with
 |none=>rw[hd]at h;cases h
 |some d=>
  rw[hd]at h;unfold isAgg;simp only[bind,run_bind,run_underlying hd];cases d<;>first|rfl|(simp at h)
def aF {P:aa} {t:ae} {n:Nat} (h:Ek P t=ay n) (w:ac):(isAgg t).run P w= .ok bu w/\(Go.sizeOf t).run P w= .ok n w:=by
 unfold Ek at h;cases hd:P.underlying t with
 |none=>rw[hd]at h;cases h
 |some d=>
  rw[hd]at h;cases d<;>simp only[reduceCtorEq]at h
  all_goals
   cases hi:P.info? t with
   |none=>rw[hi]at h;cases h
   |some i=>
    rw[hi]at h;simp only[ym,cu]at h;subst h;refine⟨?_,run_sizeOf hi w⟩;unfold isAgg;simp only[bind,run_bind,run_underlying hd];rfl
def z4d {P:aa} {w:ac} {a:am} {v:ab} (h:w.cell? a=ay v):(load a).run P w= .ok v w:=by
 simp only[load,be,h]
def UX {w:ac} {b o:Nat} {l:List ab} {T:ae} {fr:Nat×Nat} (hb:w.heap[b]? =ay (.cells l.toArray T fr)):w.cell? ⟨b,o,ba⟩=l[o]? :=by
 simp[World.cell?,hb]
def vT {P:aa} {t:ae} {w:ac} {b o:Nat} {l:List ab} {T:ae} {fr:Nat×Nat} {v:ab} (hs:Ce P t=bu)
 (hb:w.heap[b]? =ay (.cells l.toArray T fr)) (hc:l[o]? =ay v):pZ P t ⟨b,o,ba⟩ w v:=by
 unfold pZ loadVar;simp only[bind,run_bind,pF hs,nr,if_false];exact z4d ((UX hb).trans hc)
def pS {P:aa} {w:ac} {b o:Nat} {l:List ab} {T:ae} {fr:Nat×Nat} (hb:w.heap[b]? =ay (.cells l.toArray T fr)):
 ∀(n i:Nat) (acc:Array ab),o+i+n<=l.length->(loadCellsFrom ⟨b,o,ba⟩ i n acc).run P w= .ok (acc++((l.drop (o+i)).take n).toArray) w
 |0,i,acc,_=>by simp[loadCellsFrom,pure,be]
 |n+1,i,acc,h=>by
  have iq:o+i<l.length:=by omega
  have hc:w.cell? ⟨b,o+i,ba⟩=ay l[o+i]:=by rw[UX hb];exact xl iq
  unfold loadCellsFrom;simp only[bind,run_bind,uX,z4d hc];rw[pS hb n (i+1) _ (by omega)];congr 1;rw[DQ iq,xk];simp[DM]
def fM {P:aa} {w:ac} {b o n:Nat} {l:List ab} {T:ae} {fr:Nat×Nat} (hb:w.heap[b]? =ay (.cells l.toArray T fr)) (h:o+n<=l.length):
 (loadCells ⟨b,o,ba⟩ n).run P w= .ok ((l.drop o).take n).toArray w:=by
 unfold loadCells;rw[pS hb n 0 #[] (by omega)];simp
def Va {P:aa} {t:ae} {w:ac} {b o n:Nat} {l vs:List ab} {T:ae} {fr:Nat×Nat} (hs:Ek P t=ay n)
 (hb:w.heap[b]? =ay (.cells l.toArray T fr)) (hc:(l.drop o).take n=vs) (hl:vs.length=n):pZ P t ⟨b,o,ba⟩ w (.agg vs.toArray):=by
 unfold pZ loadVar;have hlen:o+n<=l.length\/n=0:=by
  subst hc;simp only[oK,qc]at hl;omega
 simp only[bind,run_bind,(aF hs w).1,if_true,(aF hs w).2];rcases hlen with hlen|h0
 ·rw[fM hb hlen,hc];rfl
 ·subst h0;have:vs=[]:=zm hl;subst this;rfl
def _root_.Go.Value.oz:ab->Bool
 | .agg _=>bv
 | .tuple _=>bv
 |_=>bu
def lj (l:List ab) (o:Nat) (vs:List ab):List ab:=l.take o++vs++l.drop (o+vs.length)
def yGv (w:ac) (b:Nat) (x y:Obj):World.ja (World.ja w b x) b y=World.ja w b y:=by
 simp[World.ja,Array.setIfInBounds_setIfInBounds]
def z9a {P:aa} {w:ac} {b o:Nat} {l:List ab} {T:ae} {v:ab} (hb:w.heap[b]? =ay (.cells l.toArray T (0,0))) (ho:o<l.length) (hv:v.oz=bu):
 (store ⟨b,o,ba⟩ v).run P w= .ok () (World.ja w b (.cells (l.set o v).toArray T (0,0))):=by
 have hc:w.cell? ⟨b,o,ba⟩=ay l[o]:=by rw[UX hb];exact xl ho
 have hf:w.frozen? ⟨b,o,ba⟩=bv:=by simp[World.frozen?,hb]
 have ra:w.setCell ⟨b,o,ba⟩ v=World.ja w b (.cells (l.set o v).toArray T (0,0)):=by
  unfold World.setCell World.ja;congr 1;apply Pm;intro i;rw[Array.getElem?_modify,Pw];have iq:b<w.heap.size:=by
   rcases vx b w.heap.size with h|h
   ·exact h
   ·rw[GY h]at hb;cases hb
  by_cases hi:b=i
  ·subst hi;have oG:w.heap[b]= .cells l.toArray T (0,0):=by rw[Pu iq]at hb;exact cw hb
   simp[iq,oG]
  ·simp[hi]
 unfold store;cases v<;>first|(cases hv;done)|(simp only[be,hc,hf,nr,if_false,ra])
def TJ {l:List ab} {p:Nat} {v:ab} {vs:List ab} (h:p<l.length):lj (l.set p v) (p+1) vs=lj l p (v::vs):=by
 have h1:(l.set p v).take (p+1)=l.take p++[v]:=by
  rw[Ns,fk h];rw[List.take_append,oK];simp[GV (Nat.le_of_lt h),List.take_take]
 have h2:(l.set p v).drop (p+1+vs.length)=l.drop (p+(v::vs).length):=by
  rw[List.drop_set_of_lt (by omega)];congr 1;simp only[iY];omega
 simp only[lj,h1,h2,km,List.singleton_append]
def vA {P:aa} {b:Nat} {T:ae}:∀(vs:List ab) (i o:Nat) (l:List ab) (w:ac),w.heap[b]? =ay (.cells l.toArray T (0,0))->o+i+vs.length<=l.length->
 (∀v∈vs,v.oz=bu)->(storeCells ⟨b,o,ba⟩ vs i).run P w= .ok () (World.ja w b (.cells (lj l (o+i) vs).toArray T (0,0)))
 |[],i,o,l,w,hb,h,_=>by
  have iq:b<w.heap.size:=by
   rcases vx b w.heap.size with h|h
   ·exact h
   ·rw[GY h]at hb;cases hb
  have:World.ja w b (.cells (lj l (o+i) []).toArray T (0,0))=w:=by
   have e:lj l (o+i) []=l:=by simp[lj]
   rw[e];unfold World.ja;have:w.heap.setIfInBounds b (.cells l.toArray T (0,0))=w.heap:=by
    apply Pm;intro j;rw[Pw];split
    ·rename_i hj;subst hj;rw[hb]
    ·rfl
   rw[this]
  unfold storeCells;rw[this];rfl
 |v::vs,i,o,l,w,hb,h,hv=>by
  have iq:b<w.heap.size:=by
   rcases vx b w.heap.size with h|h
   ·exact h
   ·rw[GY h]at hb;cases hb
  simp only[iY]at h;unfold storeCells;simp only[bind,run_bind,uX,z9a hb (show o+i<l.length by omega) (hv v jg)];have Ao:(World.ja w b (.cells (l.set (o+i) v).toArray T (0,0))).heap[b]? =ay (.cells (l.set (o+i) v).toArray T (0,0)):=by
   simp[World.ja,Wh iq]
  rw[vA vs (i+1) o (l.set (o+i) v) _ Ao (by rw[rj];omega) (λu hu=>hv u (jx _ hu)),yGv];rw[show o+(i+1)=o+i+1 by omega,TJ (show o+i<l.length by omega)]
end Cv
namespace Cv
open Go Go.RowKit
def oA (e sz:Nat) (a:Option am) (n k:Nat) (xs:List ab):HP:=λh=>
 (a=ba/\n=0/\k=0/\xs=[]/\h=pe)\/
 ∃b r,a=ay ⟨b,0,ba⟩/\h=one b (.cells (xs++r).toArray e)/\xs.length=n*sz/\(xs++r).length=k*sz/\n<=k
def Fc (sz:Nat) (a:Option am) (n k:Nat) (xs:List ab):HP:=λh=>
 (n=0/\xs=[]/\h=pe)\/
 ∃(b o:Nat) (l:List ab) (T:ae) (fr:Nat×Nat),a=ay ⟨b,o,ba⟩/\h=one b (.cells l.toArray T fr)/\(l.drop o).take (n*sz)=xs/\xs.length=n*sz/\n<=k
def nN {e sz:Nat} {a:Option am} {n k:Nat} {xs:List ab} {h:PH} (H:oA e sz a n k xs h):Fc sz a n k xs h:=by
 rcases H with⟨rfl,rfl,rfl,rfl,rfl⟩|⟨b,r,rfl,rfl,h1,h2,h3⟩
 ·exact .inl ⟨rfl,rfl,rfl⟩
 ·right;exact⟨b,0,_,e,_,rfl,rfl,by rw[Eu,<- h1];simp,h1,h3⟩
def Hp.Ii {k:Ko} {w:ac} {e sz:Nat} {a:Option am} {n c:Nat} {xs:List ab} {L:List HP} (H:Hp k w (oA e sz a n c xs::L)):Sat w (Fc sz a n c xs):=by
 obtain⟨h,hh,s⟩:=H.sat;exact⟨h,nN hh,s⟩
def Hp.oP {k:Ko} {w:ac} {e sz:Nat} {a:Option am} {n c:Nat} {xs:List ab} {L:List HP} (H:Hp k w (oA e sz a n c xs::L)):
 (a=ba/\n=0/\c=0/\xs=[]/\Hp k w L)\/
 ∃b r,a=ay ⟨b,0,ba⟩/\xs.length=n*sz/\(xs++r).length=c*sz/\n<=c/\Hp k w (pt b (.cells (xs++r).toArray e)::L):=by
 obtain⟨hk,hs,hh⟩:=H;cases hh with
 |cons ha jb hd hr=>
  rcases ha with⟨h1,h2,h3,h4,h5⟩|⟨b,r,h1,h2,h3,h4,h5⟩
  ·exact .inl ⟨h1,h2,h3,h4,hk,_,hr⟩
  ·subst h2;exact .inr ⟨b,r,h1,h3,h4,h5,hk,_,.cons rfl jb hd hr⟩
def Hp.AM {k:Ko} {w:ac} {e sz b n c:Nat} {xs r:List ab} {L:List HP} (H:Hp k w (pt b (.cells (xs++r).toArray e)::L)) (h1:xs.length=n*sz) (h2:(xs++r).length=c*sz) (h3:n<=c):
 Hp k w (oA e sz (ay ⟨b,0,ba⟩) n c xs::L):=H.imp λx hx=> .inr ⟨b,r,rfl,hx,h1,h2,h3⟩
def yDw (e sz:Nat):oA e sz ba 0 0 [] pe:= .inl ⟨rfl,rfl,rfl,rfl,rfl⟩
def Hp.nil {k:Ko} {w:ac} {L:List HP} (e sz:Nat) (H:Hp k w L):Hp k w (oA e sz ba 0 0 []::L):=
 ((@gV k w True L).2 ⟨trivial,H⟩).imp λx hx=>by rw[hx.2];exact yDw e sz
def Hp.lit {k:Ko} {w:ac} {b e sz n:Nat} {l:List ab} {L:List HP} (H:Hp k w (pt b (.cells l.toArray e)::L)) (hl:l.length=n*sz):Hp k w (oA e sz (ay ⟨b,0,ba⟩) n n l::L):=
 H.imp λx hx=> .inr ⟨b,[],rfl,by rw[hx,pd],hl,by simpa using hl,mg _⟩
def TV {e sz:Nat} {a:Option am} {n k:Nat} {xs:List ab} {h:PH} (H:oA e sz a n k xs h):xs.length=n*sz/\n<=k:=by
 rcases H with⟨rfl,rfl,rfl,rfl,rfl⟩|⟨b,r,rfl,rfl,h1,h2,h3⟩
 ·simp
 ·exact⟨h1,h3⟩
def Hp.len {k:Ko} {w:ac} {e sz:Nat} {a:Option am} {n c:Nat} {xs:List ab} {L:List HP} (H:Hp k w (oA e sz a n c xs::L)):xs.length=n*sz/\n<=c:=by
 obtain⟨h,hh,s⟩:=H.sat;exact TV hh
def yDl {w:ac} {sz:Nat} {a:Option am} {n k:Nat} {xs:List ab} (H:Sat w (Fc sz a n k xs)):xs.length=n*sz:=by
 obtain⟨h,hh,s⟩:=H;rcases hh with⟨rfl,rfl,_⟩|⟨b,o,l,T,fr,rfl,rfl,h1,h2,_⟩
 ·simp
 ·exact h2
def KE {w:ac} {sz:Nat} {a:Option am} {n k:Nat} {xs:List ab} (H:Sat w (Fc sz a n k xs)) (hn:0<n):
 ∃(b o:Nat) (l:List ab) (T:ae) (fr:Nat×Nat),a=ay ⟨b,o,ba⟩/\w.heap[b]? =ay (.cells l.toArray T fr)/\(l.drop o).take (n*sz)=xs:=by
 obtain⟨h,hh,s⟩:=H;rcases hh with⟨rfl,rfl,_⟩|⟨b,o,l,T,fr,rfl,rfl,h1,h2,_⟩
 ·omega
 ·exact⟨b,o,l,T,fr,rfl,s b _ (by simp[one]),h1⟩
def zWv (m:Nat) (hm:256<=m):∀(r c:Nat),c<=2*m->Builtin.growBy m r c<=2*m
 |0,c,h=>h
 |r+1,c,h=>by
  unfold Builtin.growBy;split
  ·exact h
  ·exact zWv m hm r _ (by omega)
def zQl {need cap:Nat} (h:cap<need):Builtin.nextslicecap need cap<=2*need:=by
 unfold Builtin.nextslicecap;split
 ·omega
 ·split
  ·omega
  ·exact zWv need (by omega) 4 cap (by omega)
def Src (sz:Nat) (w:ac) (x:ab) (m:Nat) (ys:List ab):Prop:=
 (∃a k,x=.slice a m k/\Sat w (Fc sz a m k ys))\/(∃s:ByteArray,x=.string s/\sz=1/\m=s.size/\ys=s.data.toList.map λb=> .int .u8 b.toNat)
def Ox {P:aa} {sz:Nat} {w:ac} {x:ab} {m:Nat} {ys:List ab} (h:Src sz w x m ys):
 (Builtin.lenOf x).run P w= .ok m w/\(cd sz m x).run P w= .ok ys.toArray w/\ys.length=m*sz:=by
 rcases h with⟨a,k,rfl,H⟩|⟨s,rfl,rfl,rfl,rfl⟩
 ·refine⟨rfl,?_,yDl H⟩;have hl:=yDl H;obtain⟨h,hh,s⟩:=H;rcases hh with⟨rfl,rfl,_⟩|⟨b,o,l,T,fr,rfl,rfl,h1,h2,_⟩
  ·cases a with
   |none=>rfl
   |some a=>simp[cd,loadCells,loadCellsFrom,pure,be]
  ·have hb:=s b _ (show one b _ b=_ by simp[one];rfl);unfold cd;by_cases h0:m*sz=0
   ·rw[h0]at h1 hl ⊢;have:ys=[]:=zm hl;subst this;rfl
   ·have:o+m*sz<=l.length:=by
     rw[<- h1,oK,qc]at h2;omega
    rw[fM hb this,h1]
 ·refine⟨rfl,?_,by simp⟩;simp only[cd];have:s.extract 0 s.size=s:=by simp
  rw[this];simp only[pure,be];congr 1;apply df;simp
def KL (P:aa) (t:ae):Bool:=
 match P.underlying t with
 |some (.slice _)=>bu
 |some .string=>bu
 |_=>bv
def X8 {P:aa} {t:ae} (h:KL P t=bu):(∃e,P.underlying t=ay (.slice e))\/P.underlying t=ay .string:=by
 unfold KL at h;cases hd:P.underlying t with
 |none=>rw[hd]at h;cases h
 |some d=>
  rw[hd]at h;cases d<;>first|exact .inl ⟨_,rfl⟩|exact .inr rfl|(cases h)
def Hp.append {P:aa} {k:Ko} {w:ac} {L:List HP} {t1 t2 rt e sz oO:Nat} {z:Array ab} (hi:gD P t1=ay (e,sz,oO,z)) (h2:KL P t2=bu) {a:Option am} {n c:Nat} {xs:List ab}
 (H:Hp k w (oA e sz a n c xs::L)) {x:ab} {m:Nat} {ys:List ab} (hx:Src sz w x m ys) (hv:∀v∈ys,v.oz=bu) (hz:z.size=sz) (EF:0<oO) (hb:(n+m)*oO<=140737488355328):
 ∃a' c' w',fS P (cf #[t1,t2] rt #[.slice a n c,x]) w (.slice a' (n+m) c') w'/\Hp k w' (oA e sz a' (n+m) c' (xs++ys)::L):=by
 obtain⟨i,zv,q1,q2,rfl,rfl,q5,rfl⟩:=jF hi;obtain⟨r1,r2,BH⟩:=Ox (P:=P) hx;obtain⟨J6,hnc⟩:=H.len;have hnm:n+m<=140737488355328:=wu (Nat.le_mul_of_pos_right _ EF) hb;have AP:(n+m)*i.size=n*i.size+m*i.size:=Aj _ _ _;by_cases rh:n+m<=c
 ·--zH the capacity
  rcases H.oP with⟨rfl,rfl,rfl,rfl,H0⟩|⟨b,r,rfl,h3,h4,h5,H0⟩
  ·have hm:m=0:=by omega
   subst hm;have G6:ys=[]:=zm (by simpa using BH);subst G6;refine⟨ba,0,w,?_,by simpa using H⟩;unfold fS cf;rcases X8 h2 with⟨e2,hd⟩|hd<;>
   simp only[A4,CX,A5,bind,pure,run_bind,bg,be,run_underlying q1,run_sizeOf q2,run_underlying hd,nr,if_false,r1,r2,E8,mg,if_true,Je]
  ·have FG:n*i.size+ys.length<=(xs++r).length:=by
    rw[h4,BH,<- AP];exact yh _ rh
   have jy:=vA (P:=P) ys 0 (n*i.size) (xs++r) w H0.get (by omega) hv;simp only[E8]at jy;have Cw:lj (xs++r) (n*i.size) ys=(xs++ys)++r.drop ys.length:=by
    simp only[lj];rw[<- h3,Ng,KV];simp
   rw[Cw]at jy;refine⟨ay ⟨b,0,ba⟩,c,_,?_,(H0.oc _).AM (r:=r.drop ys.length) (by rw[iQ,h3,BH,AP]) ?_ rh⟩
   ·unfold fS cf;rcases X8 h2 with⟨e2,hd⟩|hd<;>
    simp only[A4,CX,A5,bind,pure,run_bind,bg,be,run_underlying q1,run_sizeOf q2,run_underlying hd,nr,if_false,r1,r2,rh,if_true,uX,oC,jy,Je]
   ·rw[<- h4];simp only[iQ,qc]at FG ⊢;omega
 ·have Co:¬(((n+m:Nat):Int)>dh.max/\(False\/i.bytes=0)):=by
   rintro⟨_,h|h⟩
   ·exact h
   ·omega
  have B5:¬(Builtin.nextslicecap (n+m) c*i.bytes>2 ^ 48):=by
   have:=zQl (need:=n+m) (cap:=c) (by omega);have:=yh i.bytes this;have e:2*(n+m)*i.bytes=2*((n+m)*i.bytes):=by rw[Nat.mul_assoc]
   omega
  have hold:(cd i.size n (.slice a n c)).run P w= .ok xs.toArray w:=(Ox (P:=P) (.inl ⟨a,c,rfl,H.Ii⟩)).2.1;have EA:∀w,(zeroValue e).run P w= .ok zv w:=λw=>mq (by unfold zero?;rw[q2];exact q5) w
  have HK:∀w,(typeInfo e).run P w= .ok i w:=λw=>zHk q2 w
  generalize Is:(Question.appendCap (n+m) c e).cut (w.tape w.drawn (.appendCap (n+m) c e))=nc;have JE:n+m<=nc:=by
   rw[<- Is];simp only[Question.cut];omega
  have r2':(cd i.size m x).run P w.drew= .ok ys.toArray w.drew:=by
   have DU:Src i.size w.drew x m ys:=by
    rcases hx with⟨a,kk,rfl,H⟩|h
    ·exact .inl ⟨a,kk,rfl,H.below ((Below.refl _ _).drew)⟩
    ·exact .inr h
   exact(Ox (P:=P) DU).2.1
  have SZ:(cd i.size n (.slice a n c)).run P w.drew= .ok xs.toArray w.drew:=(Ox (P:=P) (.inl ⟨a,c,rfl,H.Ii.below ((Below.refl _ _).drew)⟩)).2.1;have hch:(choose (.appendCap (n+m) c e)).run P w= .ok nc w.drew:=by
   simp only[choose,be,Question.forced,nr,if_false,Is];rfl
  have Ip:=(H.drop.drew).new (.cells (xs++(ys++(ce zv.cells (nc-(n+m))).toList)).toArray e);have hlen:(ys++(ce zv.cells (nc-(n+m))).toList).length=m*i.size+(nc-(n+m))*i.size:=by
   rw[iQ,BH,Jo,size_zeroCells,hz]
  have FB:xs.toArray++ys.toArray++ce zv.cells (nc-(n+m))=(xs++(ys++(ce zv.cells (nc-(n+m))).toList)).toArray:=by
   apply df;simp
  refine⟨ay ⟨w.drew.heap.size,0,ba⟩,nc,w.drew.alloc (.cells (xs++(ys++(ce zv.cells (nc-(n+m))).toList)).toArray e),?_,?_⟩
  ·unfold fS cf;rcases X8 h2 with⟨e2,hd⟩|hd<;>
   simp only[A4,CX,A5,bind,pure,run_bind,bg,be,run_underlying q1,run_sizeOf q2,run_underlying hd,nr,if_false,r1,rh,HK,Co,B5,hch,zNf,SZ,r2',EA,Je,if_true,FB,newRow,newObj]
   all_goals rfl
  ·have:=Hp.AM (c:=nc) (n:=n+m) (sz:=i.size) (xs:=xs++ys) (r:=(ce zv.cells (nc-(n+m))).toList) (by rw[km];exact Ip) (by rw[iQ,J6,BH,AP]) ?_ JE
   ·exact this
   ·rw[km,iQ,hlen,J6,<- Aj,<- Aj];congr 1;omega
end Cv
namespace Sx
@[reducible] def dm.{u} {α:Sort u} (x:α):Prop:=x=x
open Go Go.RowKit Cv
inductive D where
 |v (x:ab)
 |ro (sz:Nat) (fh:List (List D))
inductive V where
 |top
 |d (x:D)
 |nm (n off:Nat)
 |el (n sz i f:Nat)
 |re (sz:Nat) (fh:List (List D)) (i f:Nat)
 |na (n off i:Nat)
 |own (n:Nat)
 |mp (n:Nat)
 |sub (n i:Nat)
 |agg (l:List V)
 |jm (l:List V)
 |fn (f:Nat) (first cap:List V)
 |An (t:Nat) (x:V)
inductive fw:Type 1 where
 |gone
 |AN
 |cells (vs:List V) (t:ae)
 |own (t sz:Nat) (fh:List (List D))
 |kh (sz:Nat) (fh:List (List D))
 |G2 (t:ae) (fh:List (List D))
 |vec (ds:List D) (t:ae)
 |map (es:List (ab×List D))
 |Ct (es:List (ab×List D)) (kv:ab) (b:Int)
 |iter (s:ByteArray) (pos:Nat)
 |sv (T:Type) (m:Nat) (iF:T->Nat->fw) (x:T)
 |kg (t:Nat) (T:Type) (m:Nat) (iF:T->Nat->fw) (l:List T) (hole:Option Nat)
 |vh (q:Bool) (t sz:Nat) (fh:List (List D)) (i f:Nat) (b:Bool) (m:Option Nat)
@[reducible] def Hd:=ab×List ab
structure Ev where
 F:PH
 gu:List Hd
def yj (F G:PH):Prop:=∀b o,F b=ay o->G b=ay o
def Ev.le (E E':Ev):Prop:=yj E.F E'.F/\E.gu<+:E'.gu
def yj.refl (F:PH):yj F F:=λ_ _ h=>h
def yj.trans {F G H:PH} (a:yj F G) (b:yj G H):yj F H:=λx o h=>b x o (a x o h)
def Ev.le.refl (E:Ev):E.le E:=⟨yj.refl _,Jg _⟩
def Ev.le.trans {E E' E2:Ev} (a:E.le E') (b:E'.le E2):E.le E2:=⟨a.1.trans b.1,a.2.trans b.2⟩
def TZ {α:Type} {l l':List α} (h:l<+:l') {n:Nat} {x:α} (e:l[n]? =ay x):l'[n]? =ay x:=by
 obtain⟨t,rfl⟩:=h;rw[Fb]
 ·exact e
 ·exact(ju.1 e).1
def Ev.le.get {E E':Ev} (a:E.le E') {n:Nat} {x:Hd} (e:E.gu[n]? =ay x):E'.gu[n]? =ay x:=TZ a.2 e
mutual
def DR (F:PH):D->ab->Prop
 | .v x,y=>y=x/\x.oz=bu
 | .ro sz fh,y=>∃a c,y= .slice a fh.length c/\fh.length<=c/\(∀el∈fh,el.length=sz)/\
    (fh=[]\/∃(b o:Nat) (l:List ab) (T:ae) (fr:Nat×Nat),a=ay ⟨b,o,ba⟩/\F b=ay (.cells l.toArray T fr)/\Bu F fh (l.drop o))
def iI (F:PH):List D->List ab->Prop
 |[],l=>l=[]
 |d::ds,l=>∃x xs,l=x::xs/\DR F d x/\iI F ds xs
def Bu (F:PH):List (List D)->List ab->Prop
 |[],_=>True
 |el::fh,l=>∃l1 l2,l=l1++l2/\iI F el l1/\Bu F fh l2
end
mutual
theorem DR.mono {F G:PH} (h:yj F G):∀{d:D} {y:ab},DR F d y->DR G d y
 | .v x,y,e=>by simpa only[DR]using e
 | .ro sz fh,y,e=>by
   simp only[DR]at e ⊢;obtain⟨a,c,h1,h2,h3,h4⟩:=e;refine⟨a,c,h1,h2,h3,?_⟩;rcases h4 with h4|⟨b,o,l,T,fr,q1,q2,q3⟩
   ·exact .inl h4
   ·exact .inr ⟨b,o,l,T,fr,q1,h _ _ q2,Bu.mono h q3⟩
theorem iI.mono {F G:PH} (h:yj F G):∀{ds:List D} {l:List ab},iI F ds l->iI G ds l
 |[],l,e=>by simpa only[iI]using e
 |d::ds,l,e=>by
  simp only[iI]at e ⊢;obtain⟨x,xs,h1,h2,h3⟩:=e;exact⟨x,xs,h1,DR.mono h h2,iI.mono h h3⟩
theorem Bu.mono {F G:PH} (h:yj F G):∀{fh:List (List D)} {l:List ab},Bu F fh l->Bu G fh l
 |[],l,e=>by simp only[Bu]
 |el::fh,l,e=>by
  simp only[Bu]at e ⊢;obtain⟨x,xs,h1,h2,h3⟩:=e;exact⟨x,xs,h1,iI.mono h h2,Bu.mono h h3⟩
end
mutual
def VR (E:Ev):V->ab->Prop
 | .top,_=>True
 | .d d,y=>DR E.F d y
 | .nm n o,y=>∃(b oo:Nat) (l:List ab),E.gu[n]? =ay (.pointer (ay ⟨b,oo,ba⟩),l)/\y= .pointer (ay ⟨b,oo+o,ba⟩)
 | .el n sz i f,y=>∃(b oo m c:Nat) (l:List ab),E.gu[n]? =ay (.slice (ay ⟨b,oo,ba⟩) m c,l)/\y= .pointer (ay ⟨b,oo+i*sz+f,ba⟩)
 | .re sz fh i f,y=>i<fh.length/\(∀el∈fh,el.length=sz)/\∃(b o:Nat) (l:List ab) (T:ae) (fr:Nat×Nat),y= .pointer (ay ⟨b,o+i*sz+f,ba⟩)/\E.F b=ay (.cells l.toArray T fr)/\Bu E.F fh (l.drop o)
 | .na n o i,y=>∃(b oo:Nat) (l:List ab),E.gu[n]? =ay (.pointer (ay ⟨b,oo,ba⟩),l)/\y= .pointer (ay ⟨b,oo+(o+i),ba⟩)
 | .own n,y=>∃l,E.gu[n]? =ay (y,l)/\∃a m c,y= .slice a m c
 | .mp n,y=>∃b l,E.gu[n]? =ay (y,l)/\y= .map (ay b)
 | .sub n i,y=>∃hd l b oo,E.gu[n]? =ay (hd,l)/\l[i]? =ay y/\y= .pointer (ay ⟨b,oo,ba⟩)
 | .agg l,y=>∃ys,y= .agg ys.toArray/\im E l ys
 | .jm l,y=>∃ys,y= .tuple ys.toArray/\im E l ys
 | .fn f a b,y=>∃as bs,y= .func (.func f) as.toArray bs.toArray/\im E a as/\im E b bs
 | .An t x,y=>∃z,y= .iface t z/\VR E x z
def im (E:Ev):List V->List ab->Prop
 |[],l=>l=[]
 |v::vs,l=>∃x xs,l=x::xs/\VR E v x/\im E vs xs
end
mutual
theorem VR.mono {E E':Ev} (h:E.le E'):∀{v:V} {y:ab},VR E v y->VR E' v y
 | .top,y,e=>by simp only[VR]
 | .d d,y,e=>by simp only[VR]at e ⊢;exact e.mono h.1
 | .nm n o,y,e=>by
   simp only[VR]at e ⊢;obtain⟨b,oo,l,h1,h2⟩:=e;exact⟨b,oo,l,h.get h1,h2⟩
 | .el n sz i f,y,e=>by
   simp only[VR]at e ⊢;obtain⟨b,oo,m,c,l,h1,h2⟩:=e;exact⟨b,oo,m,c,l,h.get h1,h2⟩
 | .re sz fh i f,y,e=>by
   simp only[VR]at e ⊢;obtain⟨h0,h1,b,o,l,T,fr,h2,h3,h4⟩:=e;exact⟨h0,h1,b,o,l,T,fr,h2,h.1 _ _ h3,h4.mono h.1⟩
 | .na n o i,y,e=>by
   simp only[VR]at e ⊢;obtain⟨b,oo,l,h1,h2⟩:=e;exact⟨b,oo,l,h.get h1,h2⟩
 | .own n,y,e=>by
   simp only[VR]at e ⊢;obtain⟨l,h1,h2⟩:=e;exact⟨l,h.get h1,h2⟩
 | .mp n,y,e=>by
   simp only[VR]at e ⊢;obtain⟨b,l,h1,h2⟩:=e;exact⟨b,l,h.get h1,h2⟩
 | .sub n i,y,e=>by
   simp only[VR]at e ⊢;obtain⟨hd,l,b,oo,h1,h2⟩:=e;exact⟨hd,l,b,oo,h.get h1,h2⟩
 | .agg l,y,e=>by
   simp only[VR]at e ⊢;obtain⟨ys,h1,h2⟩:=e;exact⟨ys,h1,im.mono h h2⟩
 | .jm l,y,e=>by
   simp only[VR]at e ⊢;obtain⟨ys,h1,h2⟩:=e;exact⟨ys,h1,im.mono h h2⟩
 | .fn f a b,y,e=>by
   simp only[VR]at e ⊢;obtain⟨as,bs,h1,h2,h3⟩:=e;exact⟨as,bs,h1,im.mono h h2,im.mono h h3⟩
 | .An t x,y,e=>by
   simp only[VR]at e ⊢;obtain⟨z,h1,h2⟩:=e;exact⟨z,h1,VR.mono h h2⟩
theorem im.mono {E E':Ev} (h:E.le E'):∀{vs:List V} {l:List ab},im E vs l->im E' vs l
 |[],l,e=>by simpa only[im]using e
 |v::vs,l,e=>by
  simp only[im]at e ⊢;obtain⟨x,xs,h1,h2,h3⟩:=e;exact⟨x,xs,h1,VR.mono h h2,im.mono h h3⟩
end
def rR:List ab->ab
 |[y]=>y
 |ys=> .agg ys.toArray
def MR (F:PH):List (ab×List D)->List aq->Prop
 |[],l=>l=[]
 |(k,ds)::es,l=>∃(m:aq) (ms:List aq),l=m::ms/\m.key=k/\(∃ys,iI F ds ys/\m.val=rR ys)/\MR F es ms
def MR.mono {F G:PH} (h:yj F G):∀{es:List (ab×List D)} {l:List aq},MR F es l->MR G es l
 |[],l,e=>e
 |(k,ds)::es,l,e=>by
  obtain⟨m,ms,h1,h2,⟨ys,h3,h4⟩,h5⟩:=e;exact⟨m,ms,h1,h2,⟨ys,h3.mono h,h4⟩,h5.mono h⟩
def uL (l:List aq) (ck:Nat):Prop:=(l.map (·.born)).Nodup/\∀e∈l,e.born<ck
def I6 (kd:TypeDesc) (x:ab):Prop:=(∃ik k n,kd=.int ik/\x=.int k n)\/(∃s,kd=.string/\x=.string s)
def TK (l:List aq) (x:ab) (b:Int):Prop:=∃kd,I6 kd x/\∃q m,Instr.findNow kd x l 0=ay (ay (q,m.val))/\l[q]?=ay m/\(m.born:Int)=b
def Ag (gu:List Hd) (p:Nat) (b:Bool) (ys xs:List ab):Option Nat->Prop
 |some m=>∃y l,gu[m]? =ay (y,l)/\(∃a n c,y= .slice a n c)/\xs=bif b then ys.set p y else ys
 |none=>∃y,(∃a n c,y= .slice a n c)/\xs=bif b then ys.set p y else ys
def gg (F:PH):fw->List Hd->Hd->HP
 | .gone,_,_=>λh=>h=pe
 | .AN,_,hd=>λh=>h=pe/\hd.1= .slice ba 0 0/\hd.2=[]
 | .cells vs t,gu,hd=>λh=>∃b l,hd.1= .pointer (ay ⟨b,0,ba⟩)/\im ⟨F,gu⟩ vs l/\h=one b (.cells l.toArray t)
 | .own t sz fh,gu,hd=>λh=>∃a k xs,hd.1= .slice a fh.length k/\iI F fh.flatten xs/\(∀el∈fh,el.length=sz)/\oA t sz a fh.length k xs h
 | .kh sz fh,gu,hd=>λh=>h=pe/\DR F (.ro sz fh) hd.1
 | .G2 t fh,gu,hd=>λh=>∃b k xs r,hd.1= .slice (ay ⟨b,0,ba⟩) fh.length k/\iI F fh.flatten xs/\(∀el∈fh,el.length=1)/\fh.length<=k/\h=one b (.cells (xs++r).toArray t ((xs++r).length,(xs++r).length+1))
 | .vec ds t,gu,hd=>λh=>∃b l,hd.1= .pointer (ay ⟨b,0,ba⟩)/\iI F ds l/\h=one b (.cells l.toArray t)
 | .map es,gu,hd=>λh=>∃b gn ck,hd.1= .map (ay b)/\MR F es gn/\uL gn ck/\h=one b (.map gn.toArray ck)
 | .Ct es kv x,gu,hd=>λh=>∃b gn ck,hd.1= .map (ay b)/\MR F es gn/\uL gn ck/\TK gn kv x/\h=one b (.map gn.toArray ck)
 | .iter s pos,gu,hd=>λh=>∃b,hd.1= .pointer (ay ⟨b,0,ba⟩)/\h=one b (.stringIter s pos)
 | .sv T m iF x,gu,hd=>λh=>∃j',j'[0]? =ay hd/\j'.length=m/\hS ((dc m).map λj=>λh=>∃oY,j'[j]? =ay oY/\gg F (iF x j) j' oY h) h
 | .kg t T m iF l hole,gu,hd=>λh=>∃a k,hd.1= .slice a l.length k/\hd.2.length=l.length/\(∀p∈hd.2,∃b oo,p= .pointer (ay ⟨b,oo,ba⟩))/\
    hS [oA t 1 a l.length k hd.2,hS ((dc l.length).map λi=>λh=>if hole=ay i then h=pe else ∃x p l0 j',l[i]? =ay x/\hd.2[i]? =ay p/\j'[0]? =ay (p,l0)/\j'.length=m/\
     hS ((dc m).map λj=>λh=>∃oY,j'[j]? =ay oY/\gg F (iF x j) j' oY h) h)] h
 | .vh q t sz fh i f b m,gu,hd=>λh=>∃a k ys xs,hd.1= .slice a fh.length k/\iI F fh.flatten ys/\(∀el∈fh,el.length=sz)/\Ag gu (i*sz+f) b ys xs m/\oA t sz a fh.length k xs h
def KA {α:Type} {f g:α->HP} (h:∀a x,f a x->g a x):∀{l:List α} {x:PH},hS (l.map f) x->hS (l.map g) x
 |[],x,e=>e
 |[a],x,e=>h a x e
 |a::b::l,x,e=>by
  obtain⟨g1,g2,h1,h2,h3,h4⟩:=e;exact⟨g1,g2,h a _ h1,KA h (l:=b::l) h2,h3,h4⟩
def Ag.mono {gu oS:List Hd} (h:∀(n:Nat) (hd:Hd),gu[n]? =ay hd->oS[n]? =ay hd) {p:Nat} {b:Bool} {ys xs:List ab}:∀{m:Option Nat},Ag gu p b ys xs m->Ag oS p b ys xs m
 |some m,⟨y,l,h1,h2⟩=>⟨y,l,h _ _ h1,h2⟩
 |none,e=>e
def gg.mono {F G:PH} (hF:yj F G) (o:fw):∀{gu oS:List Hd} (ht:gu<+:oS) {hd:Hd} {h:PH},gg F o gu hd h->gg G o oS hd h:=by
 induction o with
 |gone=>intro _ _ _ _ _ e;exact e
 |AN=>intro _ _ _ _ _ e;exact e
 |cells vs t=>
  intro gu oS ht hd h e;simp only[gg]at e ⊢;obtain⟨b,l,h1,h2,h3⟩:=e;exact⟨b,l,h1,h2.mono ⟨hF,ht⟩,h3⟩
 |own t sz fh=>
  intro gu oS ht hd h e;simp only[gg]at e ⊢;obtain⟨a,k,xs,h1,h2,h3⟩:=e;exact⟨a,k,xs,h1,h2.mono hF,h3⟩
 |kh sz fh=>
  intro gu oS ht hd h e;simp only[gg]at e ⊢;exact⟨e.1,e.2.mono hF⟩
 |G2 t fh=>
  intro gu oS ht hd h e;simp only[gg]at e ⊢;obtain⟨b,k,xs,r,h1,h2,h3⟩:=e;exact⟨b,k,xs,r,h1,h2.mono hF,h3⟩
 |vec ds t=>
  intro gu oS ht hd h e;simp only[gg]at e ⊢;obtain⟨b,l,h1,h2,h3⟩:=e;exact⟨b,l,h1,h2.mono hF,h3⟩
 |map es=>
  intro gu oS ht hd h e;simp only[gg]at e ⊢;obtain⟨b,l,ck,h1,h2,h3⟩:=e;exact⟨b,l,ck,h1,h2.mono hF,h3⟩
 |Ct es kv x=>
  intro gu oS ht hd h e;simp only[gg]at e ⊢;obtain⟨b,l,ck,h1,h2,h3⟩:=e;exact⟨b,l,ck,h1,h2.mono hF,h3⟩
 |iter s pos=>intro _ _ _ _ _ e;simpa only[gg]using e
 |sv T m iF x ih=>
  intro gu oS ht hd h e;simp only[gg]at e ⊢;obtain⟨j',h1,h2,h3⟩:=e;refine⟨j',h1,h2,KA ?_ h3⟩;rintro j y ⟨oY,q1,q2⟩;exact⟨oY,q1,ih x j (Jg _) q2⟩
 |kg t T m iF l hole ih=>
  intro gu oS ht hd h e;simp only[gg]at e ⊢;obtain⟨a,k,h1,h2,h3,h5⟩:=e;refine⟨a,k,h1,h2,h3,?_⟩;obtain⟨g1,g2,q1,q2,q3,q4⟩:=h5;refine⟨g1,g2,q1,KA ?_ q2,q3,q4⟩;intro i y hy;split
  ·rename_i hi;rw[fk hi]at hy;exact hy
  ·rename_i hi;rw[dx hi]at hy;obtain⟨x,p,l0,j',r1,r2,r3,r4,r5⟩:=hy;refine⟨x,p,l0,j',r1,r2,r3,r4,KA ?_ r5⟩;rintro j y ⟨oY,s1,s2⟩;exact⟨oY,s1,ih x j (Jg _) s2⟩
 |vh q t sz fh i f b m=>
  intro gu oS ht hd h e;simp only[gg]at e ⊢;obtain⟨a,k,ys,xs,h1,h2,h3,h4,h5⟩:=e;exact⟨a,k,ys,xs,h1,h2.mono hF,h3,h4.mono λn hd e=>TZ ht e,h5⟩
structure St where
 rows:List (Nat×fw)
 nx:Nat
def lV (n:Nat):List (Nat×fw)->Option fw
 |[]=>ba
 |(m,o)::l=>bif cx m n then ay o else lV n l
def vY (n:Nat):List (Nat×fw)->List (Nat×fw)
 |[]=>[]
 |(m,o)::l=>bif cx m n then l else(m,o)::vY n l
def tM (n:Nat) (x:fw):List (Nat×fw)->List (Nat×fw)
 |[]=>[]
 |(m,o)::l=>bif cx m n then(m,x)::l else(m,o)::tM n x l
def St.get (s:St) (n:Nat):Option fw:=lV n s.rows
def St.set (s:St) (n:Nat) (o:fw):St:=⟨tM n o s.rows,s.nx⟩
def St.del (s:St) (n:Nat):St:=⟨vY n s.rows,s.nx⟩
def St.Iu (s:St) (n:Nat):fw->St
 | .kh _ _=>s
 |_=>s.del n
def St.new (s:St) (o:fw):St:=⟨(s.nx,o)::s.rows,s.nx+1⟩
def uG {n:Nat} {o:fw}:∀{l:List (Nat×fw)},lV n l=ay o->l.Perm ((n,o)::vY n l)/\∀x,(tM n x l).Perm ((n,x)::vY n l)
 |[],h=>by cases h
 |(m,p)::l,h=>by
  simp only[lV,vY,tM]at h ⊢;cases hb:cx m n
  ·rw[hb]at h;obtain⟨h1,h2⟩:=uG (l:=l) h;exact⟨(h1.cons _).trans (.swap _ _ _),λx=>((h2 x).cons _).trans (.swap _ _ _)⟩
  ·rw[hb]at h;have:=ji hb;subst this;cases h;exact⟨.refl _,λx=> .refl _⟩
def iu (E:Ev) (r:Nat×fw):HP:=λh=>r.2= .gone/\h=pe\/∃hd,E.gu[r.1]? =ay hd/\gg E.F r.2 E.gu hd h
def iu.mono {E E':Ev} (h:E.le E') (r:Nat×fw) {x:PH} (e:iu E r x):iu E' r x:=by
 rcases e with e|⟨hd,h1,h2⟩
 ·exact .inl e
 ·exact .inr ⟨hd,h.get h1,h2.mono h.1 _ h.2⟩
def xAj:List (Nat×(Obj->Prop)):=[]
def Ed (F:PH):Prop:=∀g∈xAj,∃o,F g.1=ay o/\g.2 o
def Ed.mono {F G:PH} (h:yj F G) (e:Ed F):Ed G:=λg hg=>let⟨o,h1,h2⟩:=e g hg;⟨o,h _ _ h1,h2⟩
def fz (F:PH):HP:=λh=>h=F/\Ed F
structure Rel (k:Ko) (L:List HP) (E:Ev) (s:St) (w:ac):Prop where
 nx:E.gu.length=s.nx
 hp:Hp k w (s.rows.map (iu E)++fz E.F::L)
end Sx
namespace Cv
open Go Go.RowKit
inductive Tr (α:Type) where
 |e
 |n (v:Option α) (l r:Tr α)
def Tr.get {α:Type}:List Bool->Tr α->Option α
 |_,.e=>ba
 |[],.n v _ _=>v
 |b::p,.n _ l r=>bif b then Tr.get p l else Tr.get p r
def Tr.set {α:Type} (x:Option α):List Bool->Tr α->Tr α
 |[],.e=> .n x .e .e
 |[],.n _ l r=> .n x l r
 |b::p,.e=>bif b then .n ba (Tr.set x p .e) .e else .n ba .e (Tr.set x p .e)
 |b::p,.n v l r=>bif b then .n v (Tr.set x p l) r else .n v l (Tr.set x p r)
def y6s:Nat->Nat->List Bool
 |0,n=>List.replicate n bu
 |f+1,n=>bif cx n 0 then[]else cx (n % 2) 1::y6s f (n / 2)
def Pz (n:Nat):List Bool:=y6s 40 n
inductive Cap where
 |k (c:Nat)
 |r (l o0:Nat)
inductive V where
 |int (k:ag) (n:Int)
 |bool (b:Bool)
 |str (l:List Nat)
 |ptr (a:Option (Nat×Nat))
 |sl (a:Option (Nat×Nat)) (n:Nat) (c:Cap)
 |map (r:Option Nat)
 |agg (l:List V)
 |jm (l:List V)
 |fn (f:Nat) (first cap:List V)
 |SJ
inductive fw where
 |cells (xs:List V) (t:ae) (C1:Option Nat)
 |map (es:List (V×V×Nat)) (clock:Nat)
 |iter (s:List Nat) (pos:Nat)
structure St where
 h:Tr fw
 nx:Nat
def St.get (s:St) (b:Nat):Option fw:=Tr.get (Pz b) s.h
def St.set (s:St) (b:Nat) (o:fw):St:=⟨Tr.set (ay o) (Pz b) s.h,s.nx⟩
def St.del (s:St) (b:Nat):St:=⟨Tr.set ba (Pz b) s.h,s.nx⟩
def St.new (s:St) (o:fw):St:=⟨Tr.set (ay o) (Pz s.nx) s.h,s.nx+1⟩
@[reducible] def H9:=Nat->Nat×Nat
def cvs (φ:H9) (b o n:Nat):Cap->am
 | .k _=>⟨(φ b).1,o,ba⟩
 | .r l o0=>⟨(φ b).1,bif cx n 0 && cx (φ b).2 l then o0 else o,ba⟩
def cvc (φ:H9) (b:Nat):Cap->Nat
 | .k c=>c
 | .r l _=>(φ b).2-l
mutual
def cv (φ:H9):V->ab
 | .int k n=> .int k n
 | .bool b=> .bool b
 | .str l=> .string (bs l)
 | .ptr ba=> .pointer ba
 | .ptr (ay (b,o))=> .pointer (ay ⟨(φ b).1,o,ba⟩)
 | .sl ba n c=> .slice ba n (match c with| .k c=>c| .r _ _=>0)
 | .sl (ay (b,o)) n c=> .slice (ay (cvs φ b o n c)) n (cvc φ b c)
 | .map ba=> .map ba
 | .map (ay b)=> .map (ay (φ b).1)
 | .agg l=> .agg (He φ l).toArray
 | .jm l=> .tuple (He φ l).toArray
 | .fn f a b=> .func (.func f) (He φ a).toArray (He φ b).toArray
 | .SJ=> .nilFunc
def He (φ:H9):List V->List ab
 |[]=>[]
 |v::l=>cv φ v::He φ l
end
def Pe {α:Type}:List (Option α)->Option (List α)
 |[]=>ay []
 |some a::l=>match Pe l with
  |some r=>ay (a::r)
  |none=>ba
 |none::_=>ba
def dV (ρ:Tr V):Option Nat->V->Tr V
 |none,_=>ρ
 |some d,v=>Tr.set (ay v) (Pz d) ρ
def xw:ag->ag->Bool
 | .i8,.i8=>bu| .i16,.i16=>bu| .i32,.i32=>bu| .i64,.i64=>bu
 | .u8,.u8=>bu| .u16,.u16=>bu| .u32,.u32=>bu| .u64,.u64=>bu
 |_,_=>bv
def ieq:Int->Int->Bool
 | .ofNat a,.ofNat b=>cx a b
 | .negSucc a,.negSucc b=>cx a b
 |_,_=>bv
def aeq:Option (Nat×Nat)->Option (Nat×Nat)->Bool
 |none,ba=>bu
 |some (a,b),ay (c,d)=>cx a c && cx b d
 |_,_=>bv
def Wn:ag->Nat
 | .i8=>128| .i16=>32768| .i32=>2147483648| .i64=>9223372036854775808
 | .u8=>256| .u16=>65536| .u32=>4294967296| .u64=>18446744073709551616
def wr (k:ag):Int->Int
 | .ofNat n=>bif cy n (Wn k)then .ofNat n else k.wrap (.ofNat n)
 |x=>k.wrap x
def Pc:ag->Nat
 | .i8=>256| .i16=>65536| .i32=>4294967296| .i64=>18446744073709551616
 | .u8=>256| .u16=>65536| .u32=>4294967296| .u64=>18446744073709551616
def xCp (k:ag):Int->Int->Int
 | .ofNat a,.ofNat b=>wr k (.ofNat (Nat.land (a % Pc k) (b % Pc k)))
 |a,b=>Cc k a b
def fOr (k:ag):Int->Int->Int
 | .ofNat a,.ofNat b=>wr k (.ofNat (Nat.lor (a % Pc k) (b % Pc k)))
 |a,b=>G5 k a b
def yZx (k:ag):Int->Int->Int
 | .ofNat a,.ofNat b=>wr k (.ofNat (a*2 ^ (Nat.min b k.bits)))
 |a,b=>I' k a b
def TA (P:aa) (t:ae):Bool:=
 match P.underlying t with
 |some (.pointer _)=>bu
 |_=>bv
def Ho (P:aa) (t:ae):Bool:=
 match P.underlying t with
 |some (.slice _)=>bu
 |_=>bv
def z7d (P:aa) (t:ae):Bool:=
 match P.underlying t with
 |some (.map _ _)=>bu
 |_=>bv
def Kz (P:aa) (t:ae):Bool:=
 match P.underlying t with
 |some .string=>bu
 |_=>bv
def xCq (P:aa) (t:ae):Option ag:=
 match P.underlying t with
 |some (.int k)=>ay k
 |_=>ba
def XV (P:aa) (s:ae) (f:Nat):Option Nat:=
 match P.underlying s with
 |some (.struct fs)=>match fs[f]? with
  |some fd=>match P.info? fd.type with
   |some i=>bif cx i.size 0 then ba else ay fd.offset
   |none=>ba
  |none=>ba
 |_=>ba
def YZ (P:aa) (s:ae) (f:Nat):Option (ae×Nat):=
 match P.underlying s with
 |some (.struct fs)=>match fs[f]? with
  |some fd=>ay (fd.type,fd.offset)
  |none=>ba
 |_=>ba
def T6 (P:aa) (t:ae):Option (Nat×ae×Nat):=
 match P.underlying t with
 |some (.array n e)=>match P.info? e with
  |some i=>ay (n,e,i.size)
  |none=>ba
 |_=>ba
def apart (P:aa) (t:ae) (cs:List V) (off:Nat):Option V:=
 match Ek P t with
 |some sz=>ay (.agg ((cs.drop off).take sz))
 |none=>bif Ce P t then cs[off]? else ba
def Kt (i:Int) (n:Nat):Option Nat:=
 match i with
 | .ofNat j=>bif cy j n then ay j else ba
 |_=>ba
def yOj (P:aa) (t:ae):Option (List (Option (Nat×Nat))):=
 match P.underlying t with
 |some (.struct fs)=>ay (fs.toList.map λfd=>match P.info? fd.type with
   |some i=>ay (fd.offset,i.size)
   |none=>ba)
 |_=>ba
def z0h (l:List (Option (Nat×Nat))) (i:Nat):Option (Nat×Nat):=
 match l[i]? with
 |some r=>r
 |none=>ba
def GM (P:aa) (t:ae):Option (ae×ae):=
 match P.underlying t with
 |some (.map k e)=>ay (k,e)
 |_=>ba
def Pg (P:aa) (t:ae):Bool:=
 match P.underlying t with
 |some (.slice e)=>match P.underlying e with
  |some (.int .u8)=>bu
  |_=>bv
 |_=>bv
def pM (P:aa) (t:ae):Option Nat:=
 match P.info? t with
 |some i=>ay i.size
 |none=>ba
end Cv
namespace Cv
open Go Go.RowKit
def cme (φ:H9) (e:V×V×Nat):aq:={key:=cv φ e.1,val:=cv φ e.2.1,born:=e.2.2}
def coT (φ:H9) (b:Nat):fw->Obj->Prop
 | .cells xs t ba,O=>O= .cells (He φ xs).toArray t
 | .cells xs t (ay sz),O=>∃r,O= .cells (He φ xs++r).toArray t/\xs.length+r.length=(φ b).2*sz
 | .map es ck,O=>O= .map (es.map (cme φ)).toArray ck
 | .iter l pos,O=>O= .stringIter (bs l) pos
structure Rel (φ:H9) (s:St) (w:ac):Prop where
 obj:∀b o,s.get b=ay o->∃O,w.heap[(φ b).1]? =ay O/\coT φ b o O
 inj:∀b c,s.get b≠ba->s.get c≠ba->(φ b).1=(φ c).1->b=c
 lt:∀b,s.get b≠ba->b<s.nx
def GF (s:ByteArray):bs (s.data.toList.map UInt8.toNat)=s:=by
 unfold bs;rw[xi];have:(Nat.toUInt8∘UInt8.toNat)=id:=by
  funext x;simp[Nat.toUInt8]
 rw[this];simp
def XF {off:Nat}:∀(vs:List ab) (k:Nat) (l:List ab),off+k+vs.length<=l.length->
 List.foldl (λ(cs:Array ab) (p:ab×Nat)=>cs.setIfInBounds (off+p.2) p.1) l.toArray (vs.zipIdx k)=(lj l (off+k) vs).toArray
 |[],k,l,_=>by simp[lj]
 |v::vs,k,l,h=>by
  simp only[iY]at h;simp only[List.zipIdx_cons,DN,List.setIfInBounds_toArray];rw[XF vs (k+1) (l.set (off+k) v) (by rw[rj];omega),show off+(k+1)=off+k+1 by omega,TJ (by omega)]
end Cv
namespace Cv
open Go Go.RowKit
def zXw {k k':ag} (h:xw k k'=bu):k=k':=by cases k<;>cases k'<;>first|rfl|cases h
def z8a {k:ag} {n:Nat} (h:n<Wn k):k.wrap (.ofNat n)= .ofNat n:=by
 cases k<;>simp only[Wn]at h<;>simp[dj,IntKind.bits,dk]<;>omega
def VU (k:ag) (x:Int):wr k x=k.wrap x:=by
 cases x with
 |ofNat n=>
  simp only[wr];cases h:cy n (Wn k)
  ·rfl
  ·exact(z8a (by simpa[zg]using h)).symm
 |negSucc n=>rfl
def yUw (k:ag):Pc k=2 ^ k.bits:=by cases k<;>rfl
def zNu (w a:Nat):db w (Int.ofNat a)=BitVec.ofNat w a:=by
 apply BitVec.eq_of_toNat_eq;simp
def y2m (k:ag) (a b:Int):fOr k a b=G5 k a b:=by
 unfold fOr;split
 ·rename_i a b;rw[VU,yUw];unfold G5;rw[zNu,zNu];simp only[BitVec.toNat_or,BitVec.toNat_ofNat];rfl
 ·rfl
def yRz (k:ag) (a b:Int):yZx k a b=I' k a b:=by
 unfold yZx;split
 ·rename_i a b;rw[VU];unfold I';congr 1
 ·rfl
end Cv
namespace Cv
open Go Go.RowKit
def z3u {P:aa} {t:ae} (h:TA P t=bu):∃e,P.underlying t=ay (.pointer e):=by
 unfold TA at h;split at h
 ·exact⟨_,by assumption⟩
 ·cases h
def eG {P:aa} {t:ae} (h:Ho P t=bu):∃e,P.underlying t=ay (.slice e):=by
 unfold Ho at h;split at h
 ·exact⟨_,by assumption⟩
 ·cases h
def z4g {P:aa} {t:ae} (h:z7d P t=bu):∃k e,P.underlying t=ay (.map k e):=by
 unfold z7d at h;split at h
 ·exact⟨_,_,by assumption⟩
 ·cases h
def pY {P:aa} {t:ae} (h:Kz P t=bu):P.underlying t=ay .string:=by
 unfold Kz at h;split at h
 ·assumption
 ·cases h
end Cv
namespace Cv
open Go Go.RowKit
def y3 {α:Type} {b:Bool} {x:Option α} {v:α} (h:(bif b then x else ba)=ay v):b=bu/\x=ay v:=by
 cases b
 ·cases h
 ·exact⟨rfl,h⟩
def zRo {i:Int} {n j:Nat} (h:Kt i n=ay j):i=(j:Int)/\j<n:=by
 unfold Kt at h;split at h
 ·rename_i m;obtain⟨hb,h⟩:=y3 h;simp only[cu]at h;subst h;exact⟨rfl,by simpa[zg]using hb⟩
 ·cases h
def zUt {P:aa} {s f off:Nat} (h:XV P s f=ay off):∃fs fd i,P.underlying s=ay (.struct fs)/\fs[f]? =ay fd/\P.info? fd.type=ay i/\i.size≠0/\fd.offset=off:=by
 unfold XV at h;split at h<;>first|(cases h;done)|skip
 rename_i fs yw;split at h<;>first|(cases h;done)|skip
 rename_i fd Rg;split at h<;>first|(cases h;done)|skip
 rename_i i hi;cases hb:cx i.size 0
 ·rw[hb]at h;simp only[cond_false,cu]at h;exact⟨fs,fd,i,yw,Rg,hi,(λe=>by rw[e]at hb;cases hb),h⟩
 ·rw[hb]at h;cases h
def zRw {P:aa} {s f ft off:Nat} (h:YZ P s f=ay (ft,off)):∃fs fd,P.underlying s=ay (.struct fs)/\fs[f]? =ay fd/\fd.type=ft/\fd.offset=off:=by
 unfold YZ at h;split at h<;>first|(cases h;done)|skip
 rename_i fs yw;split at h<;>first|(cases h;done)|skip
 rename_i fd Rg;simp only[cu,dl]at h;exact⟨fs,fd,yw,Rg,h.1,h.2⟩
def zGw {P:aa} {t n e sz:Nat} (h:T6 P t=ay (n,e,sz)):∃i,P.underlying t=ay (.array n e)/\P.info? e=ay i/\i.size=sz:=by
 unfold T6 at h;split at h<;>first|(cases h;done)|skip
 rename_i n' e' ht;split at h<;>first|(cases h;done)|skip
 rename_i i hi;simp only[cu,dl]at h;obtain⟨rfl,rfl,rfl⟩:=h;exact⟨i,ht,hi,rfl⟩
def zXf {α:Type}:∀{l:List (Option α)} {L:List α},Pe l=ay L->l=L.map ay
 |[],L,h=>by simp only[Pe,cu]at h;subst h;rfl
 |none::l,L,h=>by cases h
 |some a::l,L,h=>by
  simp only[Pe]at h;split at h<;>first|(cases h;done)|skip
  rename_i r hr;simp only[cu]at h;subst h;rw[iT,<- zXf hr]
def zTy {P:aa} (w:ac):∀{fs:List Field} {L:List (Nat×Nat)},
 (fs.map λfd=>match P.info? fd.type with|some i=>ay (fd.offset,i.size)|none=>ba)=L.map ay->
 ((fs.mapM λf=>(do pure (f.offset,<- Go.sizeOf f.type):Sem (Nat×Nat))):Sem (List (Nat×Nat))).run P w= .ok L w
 |[],L,h=>by
  cases L with
  |nil=>rfl
  |cons a l=>cases h
 |fd::fs,L,h=>by
  cases L with
  |nil=>cases h
  |cons a l=>
   simp only[iT,List.cons.injEq]at h;obtain⟨h1,h2⟩:=h;split at h1<;>first|(cases h1;done)|skip
   rename_i i hi;simp only[cu]at h1;subst h1;have ih:=zTy w h2;simp only[dd,bind,pure,run_bind,bg,be,run_sizeOf hi]at ih ⊢;rw[ih]
def wG {ρ:Env} {o:aj} {c:Call} {b:Builtin} (ho:o.op= .call c) (hc:c.callee= .builtin b):
 af (ev ρ) o=builtin b c.argTypes o.type (c.args.map λ| .const _=>bu|_=>bv) (c.args.map (ev ρ)):=by
 have uk:af (ev ρ) o=(ar (ev ρ) c o.type).bind λd=>invoke d.target d.args:=by
  simp only[af,ho];rfl
 rw[uk];unfold ar;rw[hc];rfl
end Cv
