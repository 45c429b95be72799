/- Texts of ours. No condition. -/
import Derived.Deep.LoopGhost
import Derived.KernelRfl
import Derived.Lib.Strings
import Derived.Orders
import Derived.WalkKit
set_option linter.all false
open Go renaming Program->ab,Value->ac,World->ae,TypeId->af,execOp->ag,IntKind->aj,Oper->ak,eqGuard->am,Addr->ao,undef->ap,Operand->aq,MapEntry->ar,resolve->au,callFunc->av,FuncId->aw,wp_mono->ax,convert->ay
open Option renaming some->az,none->ba,map_eq_some_iff->bc
open Go.Sem renaming run->be,bind->bg,pure->bo
open Bool renaming true->bu,false->bv
open Go.Builtin renaming firstCells->bz,zeroCells->cd,append_->ce,len_->cf,copy_->cg
open Go.Region renaming ready->cm,binds->co,wanted->cp
open Go.Instr renaming sliceBounds->cq,lookup->cr,typeAssert->ct
open Option.some renaming injEq->cu,inj->cw
open Nat renaming beq->cx,blt->cy,ble->cz
open Int renaming toNat->da
open BitVec renaming ofInt->db
open List renaming range->dc,mapM_cons->dd
open Array renaming replicate->de,ext'->df
open Go.IntKind renaming i64->dh,wrap->di,signed->dj
open Prod.mk renaming injEq->dk
@[reducible] def i4:Type:=List UInt8
@[reducible] def Q_.{u} (α:Type u):Type u:=List (List α)
@[reducible] def i6.{u,v} {α:Type u} {β:Type v}:α->List β:=λ_=>[]
def i7 {P:Prop} (h:P:=by first|exact rfl|exact trivial):P:=h
def i9 {P Q:Prop} (h:P) (k:P->Q:=by intro h;simpa using h):Q:=k h
def ez:=@if_neg
def fh:=@if_pos
def iv:=@List.length_append
def ia:=@List.length_map
def jm:=@List.getElem?_eq_some_iff
def iF:=@List.length_cons
def jg:=@Nat.eq_of_beq_eq_true
def ji:=@List.mem_cons_of_mem
def iX:=@List.mem_cons_self
def jd:=@List.append_assoc
def mu:=@List.getD_eq_getElem?_getD
def lh:=@List.mem_of_getElem?
def jk:=@List.map_append
def jv:=@decide_eq_false
def mz:=@List.take_of_length_le
def jo:=@decide_eq_true
def jf:=@List.map_cons
def jx:=@List.mem_cons
def lr:=@Bool.and_eq_true
def mo:=@List.perm_middle
def ju:=@Nat.le_refl
def nn:=@List.length_take
def ot:=@Int.toNat_natCast
def oR:=@Bool.false_eq_true
def oK:=@List.mem_append
def oJ:=@List.append_nil
def mn:=@Nat.zero_le
def pd:=@List.length_drop
def nq:=@Nat.zero_add
def np:=@List.mem_map
def vd:=@List.getElem?_eq_getElem
def xq:=@List.eq_nil_of_length_eq_zero
def qt:=@List.getElem?_map
def qq:=@List.take_add_one
def si:=@List.mem_map_of_mem
def yp:=@List.take_append_of_le_length
def rf:=@of_decide_eq_true
def ui:=@List.getElem?_eq_none
def qm:=@List.length_set
def uc:=@List.map_congr_left
def qc:=@List.sum_cons
def ua:=@List.mem_singleton
def u':=@List.take_succ_cons
def tn:=@decide_eq_true_eq
def xj:=@Nat.mul_le_mul_right
def uh:=@List.cons_append
def vi:=@List.flatMap_cons
def tz:=@List.length_nil
def yo:=@List.mem_append_left
def ug:=@List.mem_filter
def zu:=@List.mem_append_right
def Ch:=@List.getElem?_append_right
def Bd:=@List.getElem?_cons_succ
def CI:=@Array.getD_eq_getD_getElem?
def yy:=@List.flatMap_append
def wg:=@Option.map_some
def we:=@List.nil_append
def Bc:=@List.getElem?_toArray
def Bb:=@List.take_append_drop
def Ba:=@List.length_singleton
def yx:=@List.pairwise_cons
def CH:=@List.drop_eq_getElem_cons
def tm:=@Nat.le_trans
def Bw:=@List.perm_append_comm
def Bv:=@List.mem_iff_getElem?
def CG:=@List.getElem?_cons_zero
def uz:=@Nat.lt_or_ge
def Cg:=@Nat.le_of_ble_eq_true
def ym:=@List.nodup_cons
def Eg:=@List.getElem?_append_left
def Au:=@List.nodup_append
def zt:=@Option.getD_some
def wb:=@List.map_map
def A9:=@List.flatten_cons
def Bu:=@List.getElem?_drop
def Bt:=@Option.toList_some
def At:=@List.take_length
def HI:=@List.drop_append_of_le_length
def Cf:=@List.filter_append
def A8:=@List.mem_flatMap
def Ce:=@List.getElem?_set
def A7:=@List.foldl_cons
def As:=@Bool.true_and
def yl:=@Int.le_refl
def zr:=@Nat.succ_mul
def Dp:=@Bool.not_eq_true'
def Dn:=@List.ext_getElem?
def L4:=@List.findIdx?_eq_some_iff_getElem
def CF:=@Bool.eq_iff_iff
def Cd:=@List.mem_range
def Dm:=@List.filter_cons
def HH:=@Array.getElem?_eq_none
def yk:=@Nat.blt_eq
def zq:=@Nat.add_mul
def FI:=@List.getElem?_modify
def HG:=@List.filter_eq_nil_iff
def HF:=@List.length_replicate
def HE:=@List.length_filter_le
def Ef:=@List.all_eq_true
def Bs:=@List.map_nil
def HD:=@Bool.or_eq_false_iff
def Ov:=@List.set_eq_take_append_cons_drop
def IB:=@List.drop_eq_nil_of_le
def Dl:=@List.drop_drop
def Di:=@Bool.false_and
def Br:=@Nat.le_succ
def Dh:=@Nat.add_assoc
def Ee:=@List.drop_zero
def FH:=@List.not_mem_nil
def IA:=@List.filter_eq_self
def HC:=@Nat.le_succ_of_le
def Ed:=@List.map_take
def EU:=@List.take_zero
def FG:=@Nat.min_eq_left
def J9:=@List.mem_of_mem_drop
def XM:=@Array.getElem?_setIfInBounds_self_of_lt
def Ec:=@List.set_set
def Eb:=@Int.mul_comm
def Iz:=@List.foldl_append
def J8:=@Array.length_toList
def J7:=@List.replicate_succ
def J6:=@List.getElem?_range
def Ou:=@List.findIdx?_eq_none_iff
def HB:=@List.range_succ
def J5:=@List.getElem?_take
def J4:=@List.prefix_append
def J3:=@List.findIdx?_cons
def FF:=@List.map_drop
def RJ:=@Array.getElem?_setIfInBounds
def J2:=@List.size_toArray
def FE:=@Nat.add_zero
def RI:=@List.perm_append_singleton
def J1:=@List.prefix_refl
def L3:=@of_decide_eq_false
def RH:=@Array.getElem?_eq_getElem
def RG:=@List.getElem?_zip_eq_some
def XL:=@Array.getElem?_setIfInBounds_ne
def HA:=@Nat.add_comm
def Ot:=@List.mem_of_mem_take
def Oq:=@List.getElem?_of_mem
def J0:=@List.sum_append
def L0:=@List.any_eq_false
def XK:=@Int.mul_le_mul_of_nonneg_left
def RF:=@List.filter_cons_of_pos
def RE:=@List.filter_cons_of_neg
def RD:=@List.getElem?_replicate
def Oo:=@List.flatten_append
def On:=@List.length_flatMap
def JZ:=@Bool.not_false
def JY:=@List.take_left
def LZ:=@List.drop_append
def JX:=@Bool.and_false
def LY:=@List.flatMap_nil
def LX:=@Nat.lt_succ_self
def Om:=@List.mem_filterMap
def Ol:=@List.set_cons_zero
def Oj:=@List.set_cons_succ
def Iy:=@Int.pow_succ
def Oi:=@List.map_replicate
def LW:=@Option.map_none
def RC:=@List.singleton_append
def RA:=@List.modify_succ_cons
def LV:=@List.find?_cons
def XJ:=@Int.add_mul_emod_self_left
def XI:=@List.getElem?_eq_none_iff
def Rz:=@Array.toArray_toList
def JW:=@Nat.sub_self
def XH:=@Array.getElem?_replicate
def Oh:=@List.any_eq_true
def XG:=@Option.isSome_iff_exists
def XF:=@List.eq_of_mem_replicate
def Ry:=@List.filter_sublist
def xQq:=@List.takeWhile_append_dropWhile
def LU:=@Bool.false_or
def Og:=@Bool.or_eq_true
def Rx:=@Array.ext_getElem?
def Of:=@Int.emod_nonneg
def Rw:=@Int.emod_lt_of_pos
def Ix:=@beq_iff_eq
def Rv:=@List.length_range
def Ru:=@List.mem_range'_1
def Oe:=@List.drop_left
def Od:=@Int.mul_nonneg
def Oc:=@List.nodup_nil
namespace Cv
open Go
@[reducible] def Env:=Nat->ac
def put (ρ:Env):Option Nat->ac->Env
 |none,_=>ρ
 |some d,v=>λi=>bif cx i d then v else ρ i
def ev (ρ:Env):aq->ac
 | .tmp t=>ρ t
 | .const v=>v
 | .global g=> .pointer (az ⟨g,0,ba⟩)
 | .func f=> .func (.func f) #[] #[]
def gJ {α:Type} (P:ab):Sem α->Option α
 | .pure a=>az a
 | .program k=>gJ P (k P)
 | .mark _ k=>gJ P k
 |_=>ba
def vT {α:Type} {P:ab}:∀{s:Sem α} {a:α},gJ P s=az a->∀w,s.run P w= .ok a w:=by
 intro s
 induction s with
 |pure a=>intro b h w;simp only[gJ,cu]at h;subst h;rfl
 |program k ih=>intro b h w;simp only[gJ]at h;exact ih _ h w
 |mark m k ih=>intro b h w;simp only[gJ]at h;exact ih h w
 |_=>intro b h w;simp[gJ]at h
def run_bind {α β:Type} (P:ab) (s:Sem α) (f:α->Sem β) (w:ae):(s.bind f).run P w=match s.run P w with| .ok a w'=>(f a).run P w'| .halt h w'=> .halt h w':=by
 induction s generalizing w with
 |pure a=>rfl
 |halt h=>rfl
 |load m a k ih=>simp only[bg,be];split<;>first|exact ih _ _|(split<;>first|exact ih _ _|rfl)
 |store m a v k ih=>
  cases v<;>simp only[bg,be]<;>first|rfl|(split<;>first|(split<;>first|exact ih _|rfl))
 |new o k ih=>exact ih _ _
 |shape r k ih=>exact ih _ _
 |freeze a n k ih=>exact ih _
 |frozen a k ih=>exact ih _ _
 |getObj r k ih=>simp only[bg,be];split<;>first|rfl|exact ih _ _
 |setObj r o k ih=>simp only[bg,be];split<;>first|rfl|exact ih _
 |choose q k ih=>simp only[bg,be];split<;>exact ih _ _
 |sys c k ih=>exact ih _ _
 |program k ih=>exact ih _ _
 |mark m k ih=>exact ih _
inductive Sh where
 |int (k:aj)|bool|str|ptr|sl|map|any
def yVa:ac->Sh
 | .int k _=> .int k
 | .bool _=> .bool
 | .string _=> .str
 | .pointer _=> .ptr
 | .slice _ _ _=> .sl
 | .map _=> .map
 |_=> .any
def Dz:Sh->(ac->Prop)->Prop
 | .int k,K=>∃n:Int,K (.int k n)
 | .bool,K=>∃b:Bool,K (.bool b)
 | .str,K=>∃s:ByteArray,K (.string s)
 | .ptr,K=>∃a:Option ao,K (.pointer a)
 | .sl,K=>∃(a:Option ao) (n c:Nat),K (.slice a n c)
 | .map,K=>∃r:Option Nat,K (.map r)
 | .any,K=>∃v:ac,K v
def wZ {s:Sh} {K:ac->Prop} (h:Dz s K):∃v,K v:=by
 cases s<;>simp only[Dz]at h<;>first|(obtain⟨n,h⟩:=h;exact⟨_,h⟩)|(obtain⟨a,n,c,h⟩:=h;exact⟨_,h⟩)
def exL:List ac->(List ac->Prop)->Prop
 |[],K=>K []
 |z::zs,K=>Dz (yVa z) λv=>exL zs λvs=>K (v::vs)
def yEw:∀{zs:List ac} {K:List ac->Prop},exL zs K->∃vs,K vs
 |[],_,h=>⟨_,h⟩
 |_::_,_,h=>let⟨_,h1⟩:=wZ h;let⟨_,h2⟩:=yEw h1;⟨_,h2⟩
structure Raw where
 i:Nat->Int
 b:Nat->Bool
 s:Nat->ByteArray
 p:Nat->Option ao
 a:Nat->Option ao
 n:Nat->Nat
 k:Nat->Nat
 m:Nat->Option Nat
 v:Nat->ac
def Raw.cell (r:Raw) (j:Nat):ac->ac
 | .int k _=> .int k (r.i j)
 | .bool _=> .bool (r.b j)
 | .string _=> .string (r.s j)
 | .pointer _=> .pointer (r.p j)
 | .slice _ _ _=> .slice (r.a j) (r.n j) (r.k j)
 | .map _=> .map (r.m j)
 |_=>r.v j
def xEo (r:Raw):List ac->Nat->List ac
 |[],_=>[]
 |z::zs,j=>r.cell j z::xEo r zs (j+1)
def xIs (z:ac) (r:Raw):ac:=
 match z with
 | .agg cs=> .agg (xEo r cs.toList 0).toArray
 |z=>z
def exV:ac->(ac->Prop)->Prop
 | .agg cs,K=>bif cz cs.size 9 then exL cs.toList λvs=>K (.agg vs.toArray)else ∃r:Raw,K (xIs (.agg cs) r)
 |z,K=>Dz (yVa z) K
def uA {z:ac} {K:ac->Prop} (h:exV z K):∃v,K v:=by
 cases z<;>simp only[exV]at h<;>first
  |exact wZ h
  |(revert h;cases cz _ 9<;>intro h
    ·obtain⟨r,h⟩:=h;exact⟨_,h⟩
    ·obtain⟨_,h⟩:=yEw h;exact⟨_,h⟩)
def y5n (P:ab) (t:af):ac:=
 match P.info? t with
 |some i=>i.zero.getD ap
 |none=>ap
def Fj (P:ab) (t:af) (K:ac->Prop):Prop:=exV (y5n P t) K
def y8t (P:ab):List af->(List ac->Prop)->Prop
 |[],K=>K []
 |t::ts,K=>Fj P t λv=>y8t P ts λvs=>K (v::vs)
def z3j {P:ab}:∀{ts:List af} {K:List ac->Prop},y8t P ts K->∃vs,K vs
 |[],_,h=>⟨_,h⟩
 |_::_,_,h=>let⟨_,h1⟩:=uA h;let⟨_,h2⟩:=z3j h1;⟨_,h2⟩
def SH (P:ab) (t:af) (K:ac->Prop):Prop:=
 match P.underlying t with
 |some (.tuple ts)=>y8t P ts.toList λvs=>K (.tuple vs.toArray)
 |_=>Fj P t K
def yEn {P:ab} {t:af} {K:ac->Prop} (h:SH P t K):∃v,K v:=by
 unfold SH at h;split at h
 ·obtain⟨_,h⟩:=z3j h;exact⟨_,h⟩
 ·exact uA h
def g9 (P:ab) (t:af):Option Nat:=
 match P.underlying t with
 |some (.slice e)=>(P.info? e).map λ(x:TypeInfo)=>x.size
 |_=>ba
def mF (P:ab) (t:af):Option (Nat×Nat):=
 match P.underlying t with
 |some (.array n e)=>(P.info? e).map λ(x:TypeInfo)=>(n,x.size)
 |_=>ba
def JQ (p:Option ao) (K:ao->Prop):Prop:=
 match p with
 |some a=>K a
 |none=>False
def y8x (p:Option ao) (n:Nat) (i:Int) (K:ao->Prop):Prop:=
 match p with
 |some a=>(0<=i/\i<n)/\K a
 |none=>False
def y7d (s:ByteArray) (i:Int) (K:UInt8->Prop):Prop:=∃b:UInt8,(0<=i/\s[i.toNat]?=az b)/\K b
def tp (p:Option ao) (n c:Nat) (lo hi:Option Int) (sz:Nat) (K:Option ao->Nat->Nat->Prop):Prop:=
 match lo,hi with
 |none,ba=>(n<=c)/\K p n c
 |some l,ba=>(0<=l/\l<=n/\n<=c)/\K (if c=l.toNat then p else p.map (·.add (l.toNat*sz))) (n-l.toNat) (c-l.toNat)
 |none,az h=>(0<=h/\h<=c)/\K p h.toNat c
 |some l,az h=>(0<=l/\l<=h/\h<=c)/\K (if c=l.toNat then p else p.map (·.add (l.toNat*sz))) (h.toNat-l.toNat) (c-l.toNat)
def y5i (p:Option ao) (c:Nat) (l h m:Int) (sz:Nat) (K:Option ao->Nat->Nat->Prop):Prop:=
 (0<=l/\l<=h/\h<=m/\m<=c)/\K (if m.toNat=l.toNat then p else p.map (·.add (l.toNat*sz))) (h.toNat-l.toNat) (m.toNat-l.toNat)
def y3j (s:ByteArray) (lo hi:Option Int) (K:ByteArray->Prop):Prop:=
 match lo,hi with
 |none,ba=>K s
 |some l,ba=>(0<=l/\l<=s.size)/\K (s.extract l.toNat s.size)
 |none,az h=>(0<=h/\h<=s.size)/\K (s.extract 0 h.toNat)
 |some l,az h=>(0<=l/\l<=h/\h<=s.size)/\K (s.extract l.toNat h.toNat)
def DE (ρ:Env):Option aq->Option (Option Int)
 |none=>az ba
 |some x=>match ev ρ x with
  | .int _ n=>az (az n)
  |_=>ba
def EN (l h:Option (Option Int)) (K:Option Int->Option Int->Prop):Prop:=
 match l,h with
 |some l,az h=>K l h
 |_,_=>False
def cV (P:ab) (t:af) (x:ac):Option Bool:=
 match P.underlying t,x with
 |some (.pointer _),.pointer p=>az p.isNone
 |some (.slice _),.slice p _ _=>az p.isNone
 |some (.map _ _),.map r=>az r.isNone
 |_,_=>ba
def xJx:ac->Bool
 | .pointer ba=>bu
 | .slice ba _ _=>bu
 | .map ba=>bu
 |_=>bv
def W9:ac->Bool
 | .pointer ba=>bu
 |_=>bv
def LS:ac->Bool
 | .slice ba _ _=>bu
 |_=>bv
def XC:ac->Bool
 | .map ba=>bu
 |_=>bv
def NA (P:ab) (s:Sem Next) (K:ac->Prop):Prop:=
 match gJ P s with
 |some (.value v)=>K v
 |_=>False
def y4b (P:ab) (neg:Bool) (t:af) (x y:ac) (K:Bool->Prop):Prop:=
 ∃b:Bool,gJ P (Op.equal t x y)=az b/\gJ P (am (if neg then .neq else .eql) t (.tmp 0) (.tmp 0) x y)=az ()/\
  (match y with| .agg _=>bu|_=>bv)=bu/\K (if neg then !b else b)
def LR (o:Option Bool) (K:Bool->Prop):Prop:=
 match o with
 |some r=>K r
 |none=>False
def sH {o:Option Bool} {K:Bool->Prop} (h:LR o K):∃r,o=az r/\K r:=by
 cases o with
 |none=>exact h.elim
 |some r=>exact⟨r,rfl,h⟩
def xEb (k k':aj) (b:Int) (A:Prop):Prop:=k=k'/\b≠0/\A
def shN (b:Int) (A:Prop):Prop:=0<=b/\A
def xIe (a b:ByteArray) (A:Prop):Prop:=(((a.size+b.size:Nat):Int)<=dh.max)/\A
def SI (k k':aj) (A:Prop):Prop:=
 match k,k' with
 | .i8,.i8=>A
 | .i16,.i16=>A
 | .i32,.i32=>A
 | .i64,.i64=>A
 | .u8,.u8=>A
 | .u16,.u16=>A
 | .u32,.u32=>A
 | .u64,.u64=>A
 |_,_=>False
def Vb {k k':aj} {A:Prop} (h:SI k k' A):k=k'/\A:=by
 cases k<;>cases k'<;>first|exact⟨rfl,h⟩|exact h.elim
def JU (k:aj) (a b:Int):Int:=k.wrap (a*2 ^ (min b.toNat k.bits))
def aJ (k:aj) (a b:Int):Int:=a.fdiv (2 ^ (min b.toNat k.bits))
def Cw (k:aj) (a b:Int):Int:=k.wrap ((db k.bits a &&& db k.bits b).toNat:Int)
def HN (k:aj) (a b:Int):Int:=k.wrap ((db k.bits a|||BitVec.ofInt k.bits b).toNat:Int)
def CA (k:aj) (a b:Int):Int:=k.wrap ((db k.bits a ^^^ db k.bits b).toNat:Int)
def Pv (k:aj) (a b:Int):Int:=k.wrap ((db k.bits a &&& ~~~ db k.bits b).toNat:Int)
def bR (P:ab) (o:ak) (ρ:Env) (K:ac->Prop):Prop:=
 match o.op with
 | .move x=>K (ev ρ x)
 | .assign x=>K (ev ρ x)
 | .pick c a b=>
   match ev ρ c with
   | .bool t=>K (bif t then ev ρ a else ev ρ b)
   |_=>False
 | .nilCheck x=>
   match ev ρ x with
   | .pointer p=>JQ p λa=>K (.pointer (az a))
   |_=>NA P (ag (ev ρ) o) K
 | .indexAddr t x i=>
   match ev ρ x,ev ρ i with
   | .slice p n _,.int _ i=>match g9 P t with
     |some sz=>y8x p n i λa=>K (.pointer (az (a.add (i.toNat*sz))))
     |none=>False
   | .pointer p,.int _ i=>match mF P t with
     |some (len,sz)=>y8x p len i λa=>K (.pointer (az (a.add (i.toNat*sz))))
     |none=>False
   |_,_=>False
 | .index t x i=>
   match ev ρ x,ev ρ i with
   | .string s,.int _ i=>match P.underlying t with
     |some .string=>y7d s i λb=>K (.int .u8 b.toNat)
     |_=>False
   |x,j=>match i with
    | .const _=>NA P (ag (ev ρ) o) K
    |_=>Fj P o.type λv=>gJ P (Instr.index t x j)=az v/\K v
 | .panic _=>False
 | .typeAssert x xT asserted ok=>
   match ok with
   |true=>Fj P asserted λv=>Dz .bool λb=>gJ P (ct (ev ρ x) xT asserted bu)=az (.tuple #[v,b])/\K (.tuple #[v,b])
   |false=>Fj P asserted λv=>gJ P (ct (ev ρ x) xT asserted bv)=az v/\K v
 | .slice t x lo hi mx=>
   match ev ρ x,mx with
   | .slice p _ c,az m=>match g9 P t,DE ρ lo,DE ρ hi,ev ρ m with
     |some sz,az (az l),az (az h),.int _ m=>y5i p c l h m sz λp n c=>K (.slice p n c)
     |_,_,_,_=>False
   | .slice p n c,ba=>match g9 P t with
     |some sz=>EN (DE ρ lo) (DE ρ hi) λl h=>tp p n c l h sz λp n c=>K (.slice p n c)
     |none=>False
   | .string s,ba=>match P.underlying t with
     |some .string=>EN (DE ρ lo) (DE ρ hi) λl h=>y3j s l h λs=>K (.string s)
     |_=>False
   | .pointer p,ba=>match mF P t with
     |some (n,sz)=>JQ p λa=>EN (DE ρ lo) (DE ρ hi) λl h=>tp (az a) n n l h sz λp n c=>K (.slice p n c)
     |none=>False
   |_,_=>False
 | .binOp op t x y _=>
   match op,ev ρ x,ev ρ y with
   | .quo,.int k a,.int k' b=>xEb k k' b (K (.int k (k.wrap (a.tdiv b))))
   | .rem,.int k a,.int k' b=>xEb k k' b (K (.int k (a.tmod b)))
   | .shl,.int k a,.int _ b=>shN b (K (.int k (JU k a b)))
   | .shr,.int k a,.int _ b=>shN b (K (.int k (aJ k a b)))
   | .and,.int k a,.int k' b=>SI k k' (K (.int k (Cw k a b)))
   | .or,.int k a,.int k' b=>SI k k' (K (.int k (HN k a b)))
   | .xor,.int k a,.int k' b=>SI k k' (K (.int k (CA k a b)))
   | .andNot,.int k a,.int k' b=>SI k k' (K (.int k (Pv k a b)))
   | .add,.string a,.string b=>xIe a b (K (.string (a++b)))
   | .eql,.pointer p,b=>bif W9 b then(LR (cV P t (.pointer p)) λr=>K (.bool r))else False
   | .neq,.pointer p,b=>bif W9 b then(LR (cV P t (.pointer p)) λr=>K (.bool !r))else False
   | .eql,.slice p n c,b=>bif LS b then(LR (cV P t (.slice p n c)) λr=>K (.bool r))else False
   | .neq,.slice p n c,b=>bif LS b then(LR (cV P t (.slice p n c)) λr=>K (.bool !r))else False
   | .eql,.map r,b=>bif XC b then(LR (cV P t (.map r)) λr=>K (.bool r))else False
   | .neq,.map r,b=>bif XC b then(LR (cV P t (.map r)) λr=>K (.bool !r))else False
   | .eql,.agg a,b=>y4b P bv t (.agg a) b λr=>K (.bool r)
   | .neq,.agg a,b=>y4b P bu t (.agg a) b λr=>K (.bool r)
   |_,_,_=>NA P (ag (ev ρ) o) K
 |_=>NA P (ag (ev ρ) o) K
def Fx (P:ab) (s:Sem Next) (v:ac):Prop:=∀w,s.run P w=.ok (.value v) w
def aA {P:ab} {s:Sem Next} {K:ac->Prop} (h:NA P s K):∃v,K v/\Fx P s v:=by
 unfold NA at h;split at h
 ·rename_i v hv;exact⟨v,h,vT hv⟩
 ·exact h.elim
def Addr.add_zero (a:ao):a.add 0=a:=by simp[Addr.add]
def zAk (p:Option ao):p.map (·.add 0)=p:=by cases p<;>simp[Addr.add_zero]
def yF {P:ab} {s:Sem ac} {v:ac} (h:∀w,s.run P w= .ok v w):Fx P (do pure (Next.value (<- s))) v:=by
 intro w;show(s.bind λa=> .pure (Next.value a)).run P w=_;rw[run_bind,h w];rfl
def zBt {P:ab} {t:af} {sz:Nat} (h:g9 P t=az sz):∃e i,P.underlying t=az (.slice e)/\P.info? e=az i/\i.size=sz:=by
 unfold g9 at h;split at h
 ·rename_i e he;cases hi:P.info? e with
  |none=>simp[hi]at h
  |some i=>simp[hi]at h;exact⟨e,i,he,hi,h⟩
 ·cases h
def zJu {P:ab} {t:af} {n sz:Nat} (h:mF P t=az (n,sz)):∃e i,P.underlying t=az (.array n e)/\P.info? e=az i/\i.size=sz:=by
 unfold mF at h;split at h
 ·rename_i m e he;cases hi:P.info? e with
  |none=>simp[hi]at h
  |some i=>simp[hi]at h;obtain⟨rfl,h⟩:=h;exact⟨e,i,he,hi,h⟩
 ·cases h
def run_underlying {P:ab} {t:af} {d:TypeDesc} (h:P.underlying t=az d) (w:ae):(underlying t).run P w= .ok d w:=by
 show ((Sem.program Sem.pure).bind λp => match p.underlying t with | some d => Sem.pure d | none => stuck "no such type").run P w = _;simp only[bg,be,h]
def run_sizeOf {P:ab} {t:af} {i:TypeInfo} (h:P.info? t=az i) (w:ae):(Go.sizeOf t).run P w= .ok i.size w:=by
 have IG:(typeInfo t).run P w= .ok i w:=by
  unfold typeInfo;show((Sem.program bo).bind _).run P w=_;simp only[bg,be,h];rfl
 show((typeInfo t).bind λi=>bo i.size).run P w=_;rw[run_bind,IG];rfl
def wQ {P:ab} {t:af} {sz n c:Nat} {a:ao} {k:aj} {i:Int} (h:g9 P t=az sz) (hi:0<=i/\i<n) (w:ae):
 (Instr.indexAt t (.slice (az a) n c) (.int k i)).run P w= .ok (.pointer (az (a.add (i.toNat*sz)))) w:=by
 obtain⟨e,ti,h1,h2,rfl⟩:=zBt h;simp only[Instr.indexAt,asIntOf,bind,pure,run_bind,bg,be,run_underlying h1,fh hi,run_sizeOf h2]
def cN {P:ab} {t:af} {sz n:Nat} {a:ao} {k:aj} {i:Int} (h:mF P t=az (n,sz)) (hi:0<=i/\i<n) (w:ae):
 (Instr.indexAt t (.pointer (az a)) (.int k i)).run P w= .ok (.pointer (az (a.add (i.toNat*sz)))) w:=by
 obtain⟨e,ti,h1,h2,rfl⟩:=zJu h;simp only[Instr.indexAt,asIntOf,Instr.sureAddr,bind,pure,run_bind,bg,be,run_underlying h1,fh hi,run_sizeOf h2]
def jP {P:ab} {k:aj} {i:Int} {y:Nat} {code:BoundsCode} (h:0<=i/\i<=y) (w:ae):(Instr.sliceBound (.int k i) y code).run P w= .ok i.toNat w:=by
 simp only[Instr.sliceBound,asIntOf,bind,pure,bg,be,fh h]
def VD {ρ:Env} {x:Option aq} {r:Option Int} (h:DE ρ x=az r):(x=ba/\r=ba)\/∃y k n,x=az y/\ev ρ y= .int k n/\r=az n:=by
 unfold DE at h;split at h
 ·left;exact⟨rfl,by simpa using h.symm⟩
 ·rename_i y;right;split at h
  ·rename_i k n hv;exact⟨y,k,n,rfl,hv,by simpa using h.symm⟩
  ·cases h
def rR {l h:Option (Option Int)} {K:Option Int->Option Int->Prop} (hh:EN l h K):∃a b,l=az a/\h=az b/\K a b:=by
 unfold EN at hh;split at hh
 ·rename_i a b;exact⟨a,b,rfl,rfl,hh⟩
 ·exact hh.elim
def zHd {P:ab} {ρ:Env} {lo hi:Option aq} {l h:Option Int} (isSlice:Bool) {len cap:Nat} (h1:DE ρ lo=az l) (h2:DE ρ hi=az h)
 (hlen:h=ba->len<=cap) (hh:∀x,h=az x->0<=x/\x<=cap) (hl:∀x,l=az x->0<=x/\x<=((h.map da).getD len:Nat)) (w:ae):
 (cq isSlice len cap (lo.map (ev ρ)) (hi.map (ev ρ)) ba).run P w= .ok ((l.map da).getD 0,(h.map da).getD len,cap) w:=by
 rcases VD h1 with⟨rfl,rfl⟩|⟨x,k,n,rfl,hx,rfl⟩<;>rcases VD h2 with⟨rfl,rfl⟩|⟨y,k',m,rfl,hy,rfl⟩
 ·simp only[cq,LW,bind,pure,bg,be,run_bind,Option.getD_none]
 ·have:=hh m rfl;simp only[cq,LW,wg,hy,bind,pure,bg,be,run_bind,Option.getD_none,jP this,zt]
 ·have h3:=hl n rfl;simp only[LW,Option.getD_none]at h3;simp only[cq,LW,wg,hx,bind,pure,bg,be,run_bind,Option.getD_none,jP h3,zt]
 ·have h3:=hl n rfl;have h4:=hh m rfl;simp only[wg,zt]at h3;simp only[cq,wg,hx,hy,bind,pure,bg,be,run_bind,jP h3,jP h4,zt]
def yFj {p:Option ao} {n c:Nat} {l h:Option Int} {sz:Nat} {K:Option ao->Nat->Nat->Prop} (hk:tp p n c l h sz K):
 (h=ba->n<=c)/\(∀x,h=az x->0<=x/\x<=c)/\(∀x,l=az x->0<=x/\x<=((h.map da).getD n:Nat))/\
 K (if c=(l.map da).getD 0 then p else p.map (·.add ((l.map da).getD 0*sz))) ((h.map da).getD n-(l.map da).getD 0) (c-(l.map da).getD 0):=by
 unfold tp at hk;split at hk
 ·refine⟨λ_=>hk.1,by simp,by simp,?_⟩;simpa[zAk]using hk.2
 ·refine⟨λ_=>hk.1.2.2,by simp,?_,by simpa using hk.2⟩;intro x hx;cases hx;simp;omega
 ·refine⟨by simp,?_,by simp,by simpa[zAk]using hk.2⟩;intro x hx;cases hx;omega
 ·refine⟨by simp,?_,?_,by simpa using hk.2⟩
  ·intro x hx;cases hx;omega
  ·intro x hx;cases hx;simp;omega
def z9d {P:ab} {ρ:Env} {t:af} {x:aq} {lo hi:Option aq} {o:ak} {K:ac->Prop} (ho:o.op= .slice t x lo hi ba)
 (h:bR P o ρ K):∃v,K v/\Fx P (ag (ev ρ) o) v:=by
 simp only[bR,ho]at h;split at h
 ·rename_i heq;cases heq
 ·rename_i p n c hx _;split at h
  ·rename_i sz pg;obtain⟨l,u,h1,h2,h3⟩:=rR h;obtain⟨q1,q2,q3,q4⟩:=yFj h3;obtain⟨e,ti,e1,e2,rfl⟩:=zBt pg;refine⟨_,q4,?_⟩;simp only[ag,ho];refine yF λw=> ?_
   simp only[Instr.sliceAt,Instr.slice,hx,bind,pure,bg,be,run_bind,run_underlying e1,LW,zHd bu h1 h2 q1 q2 q3,run_sizeOf e2]
  ·exact h.elim
 ·rename_i s hx _;split at h
  ·rename_i ht;obtain⟨l,u,h1,h2,h3⟩:=rR h;have q:(∀x,u=az x->0<=x/\x<=s.size)/\(∀x,l=az x->0<=x/\x<=((u.map da).getD s.size:Nat))/\K (.string (s.extract ((l.map da).getD 0) ((u.map da).getD s.size))):=by
    unfold y3j at h3;split at h3
    ·refine⟨by simp,by simp,?_⟩;have:s.extract 0 s.size=s:=by simp
     simpa[this]using h3
    ·refine⟨by simp,?_,by simpa using h3.2⟩;intro x hx;cases hx;simp;omega
    ·refine⟨?_,by simp,by simpa using h3.2⟩;intro x hx;cases hx;omega
    ·refine⟨?_,?_,by simpa using h3.2⟩
     ·intro x hx;cases hx;omega
     ·intro x hx;cases hx;simp;omega
   obtain⟨q2,q3,q4⟩:=q;refine⟨_,q4,?_⟩;simp only[ag,ho];refine yF λw=> ?_
   simp only[Instr.sliceAt,Instr.slice,hx,bind,pure,bg,be,run_bind,run_underlying ht,LW,Option.isSome_none,oR,if_false,zHd bv h1 h2 (λ_=>ju _) q2 q3]
  ·exact h.elim
 ·rename_i p hx _;split at h
  ·rename_i n sz pg;unfold JQ at h;split at h
   ·rename_i a;obtain⟨l,u,h1,h2,h3⟩:=rR h;obtain⟨q1,q2,q3,q4⟩:=yFj h3;obtain⟨e,ti,e1,e2,rfl⟩:=zJu pg;refine⟨_,q4,?_⟩;simp only[ag,ho];refine yF λw=> ?_
    simp only[Instr.sliceAt,Instr.sureAddr,hx,bind,pure,bg,be,run_bind,run_underlying e1,LW,zHd bv h1 h2 q1 q2 q3,run_sizeOf e2];split<;>simp
   ·exact h.elim
  ·exact h.elim
 ·exact h.elim
def nG (t:af) (x y:ac):Op.equal t x y=Op.equalIn (9999+1) t x y:=rfl
def aF {P:ab} {t:af} {p:Option ao} {r:Bool} (h:cV P t (.pointer p)=az r) (w:ae):(Op.equal t (.pointer p) (.pointer ba)).run P w= .ok r w:=by
 have hu:r=p.isNone/\∃d,P.underlying t=az d/\(match d with| .pointer _=>True|_=>False):=by
  unfold cV at h;cases hd:P.underlying t with
  |none=>simp[hd]at h
  |some d=>cases d<;>simp[hd]at h;exact⟨h.symm,_,rfl,trivial⟩
 obtain⟨rfl,d,hd,hm⟩:=hu;cases d<;>first|exact hm.elim|skip
 rw[nG];generalize 9999=d;unfold Op.equalIn;simp only[bind,pure,run_bind,run_underlying hd];cases p<;>rfl
def fP {P:ab} {t:af} {p:Option ao} {n c m k:Nat} {r:Bool} (h:cV P t (.slice p n c)=az r) (w:ae):(Op.equal t (.slice p n c) (.slice ba m k)).run P w= .ok r w:=by
 have hu:r=p.isNone/\∃d,P.underlying t=az d/\(match d with| .slice _=>True|_=>False):=by
  unfold cV at h;cases hd:P.underlying t with
  |none=>simp[hd]at h
  |some d=>cases d<;>simp[hd]at h;exact⟨h.symm,_,rfl,trivial⟩
 obtain⟨rfl,d,hd,hm⟩:=hu;cases d<;>first|exact hm.elim|skip
 rw[nG];generalize 9999=d;unfold Op.equalIn;simp only[bind,pure,run_bind,run_underlying hd];cases p<;>rfl
def aD {P:ab} {t:af} {p:Option Nat} {r:Bool} (h:cV P t (.map p)=az r) (w:ae):(Op.equal t (.map p) (.map ba)).run P w= .ok r w:=by
 have hu:r=p.isNone/\∃d,P.underlying t=az d/\(match d with| .map _ _=>True|_=>False):=by
  unfold cV at h;cases hd:P.underlying t with
  |none=>simp[hd]at h
  |some d=>cases d<;>simp[hd]at h;exact⟨h.symm,_,rfl,trivial⟩
 obtain⟨rfl,d,hd,hm⟩:=hu;cases d<;>first|exact hm.elim|skip
 rw[nG];generalize 9999=d;unfold Op.equalIn;simp only[bind,pure,run_bind,run_underlying hd];cases p<;>rfl
def sD {p:Option ao} {K:ao->Prop} (h:JQ p K):∃a,p=az a/\K a:=by
 cases p with
 |none=>exact h.elim
 |some a=>exact⟨a,rfl,h⟩
def z3o {p:Option ao} {n:Nat} {i:Int} {K:ao->Prop} (h:y8x p n i K):∃a,p=az a/\(0<=i/\i<n)/\K a:=by
 cases p with
 |none=>exact h.elim
 |some a=>exact⟨a,rfl,h⟩
def x6 {P:ab} {o:ak} {ρ:Env} {neg:Bool} {t:af} {x y:aq} {u:af} {r:Bool} (ho:o.op= .binOp (if neg then .neq else .eql) t x y u)
 (hx:match ev ρ x with| .pointer _=>True| .slice _ _ _=>True| .map _=>True| .agg _=>True|_=>False)
 (hy:match ev ρ y with| .pointer _=>True| .slice _ _ _=>True| .map _=>True| .agg _=>True|_=>False)
 (hg:∀w,(am (if neg then .neq else .eql) t x y (ev ρ x) (ev ρ y)).run P w= .ok () w)
 (he:∀w,(Op.equal t (ev ρ x) (ev ρ y)).run P w= .ok r w):Fx P (ag (ev ρ) o) (.bool (if neg then !r else r)):=by
 simp only[ag,ho];refine yF λw=> ?_
 simp only[bind,run_bind,hg w];generalize ev ρ x=a at*;generalize ev ρ y=b at*;cases neg<;>cases a<;>(first|exact hx.elim|skip)<;>cases b<;>(first|exact hy.elim|skip)<;>simp only[binOp,oR,if_false,if_true,bind,pure,run_bind,he w,be]
def zOd {P:ab} {op:BinOp} {t:af} {x y x' y':aq} {a b:ac} (ha:a≠.nilIface) (w:ae):
 (am op t x y a b).run P w=(am op t x' y' a b).run P w:=by
 cases a<;>first|exact(ha rfl).elim|skip
 all_goals cases op<;>first|rfl|(cases b<;>rfl)
def xE {P:ab} {op:BinOp} {t:af} {x y:aq} {a b:ac} (ha:match a with| .pointer _=>True| .slice _ _ _=>True| .map _=>True|_=>False) (w:ae):
 (am op t x y a b).run P w= .ok () w:=by
 cases a<;>first|exact ha.elim|(cases op<;>rfl)
def yGa {y:ac} (h:W9 y=bu):y= .pointer ba:=by
 cases y<;>simp[W9]at h
 rename_i a;cases a<;>simp at h ⊢
def yFk {y:ac} (h:LS y=bu):∃n c,y= .slice ba n c:=by
 cases y<;>simp[LS]at h
 rename_i a n c;cases a<;>simp at h ⊢
def yGd {y:ac} (h:XC y=bu):y= .map ba:=by
 cases y<;>simp[XC]at h
 rename_i a;cases a<;>simp at h ⊢
def zM {b:Bool} {A:Prop} (h:bif b then A else False):b=bu/\A:=by
 cases b
 ·exact h.elim
 ·exact⟨rfl,h⟩
def yTb {P:ab} {ρ:Env} {op:BinOp} {t u:af} {x y:aq} {o:ak} {K:ac->Prop} (ho:o.op= .binOp op t x y u)
 (h:bR P o ρ K):∃v,K v/\Fx P (ag (ev ρ) o) v:=by
 simp only[bR,ho]at h;split at h
 ·rename_i k a k' b hx hy;obtain⟨rfl,hb,h⟩:=h;refine⟨_,h,?_⟩;simp only[ag,ho];refine yF λw=> ?_
  simp[hx,hy,am,binOp,Op.intDiv,hb,bind,pure,bg,be]
 ·rename_i k a k' b hx hy;obtain⟨rfl,hb,h⟩:=h;refine⟨_,h,?_⟩;simp only[ag,ho];refine yF λw=> ?_
  simp[hx,hy,am,binOp,Op.intDiv,hb,bind,pure,bg,be]
 ·rename_i k a k' b hx hy;obtain⟨hb,h⟩:=h;refine⟨_,h,?_⟩;simp only[ag,ho];refine yF λw=> ?_
  simp[hx,hy,am,binOp,Op.shift,Int.not_lt.2 hb,bind,pure,bg,be,JU,aJ]
 ·rename_i k a k' b hx hy;obtain⟨hb,h⟩:=h;refine⟨_,h,?_⟩;simp only[ag,ho];refine yF λw=> ?_
  simp[hx,hy,am,binOp,Op.shift,Int.not_lt.2 hb,bind,pure,bg,be,JU,aJ]
 ·rename_i k a k' b hx hy;obtain⟨hk,h'⟩:=Vb h;subst hk;refine⟨_,h',?_⟩;simp only[ag,ho];refine yF λw=> ?_
  simp[hx,hy,am,binOp,Op.intBits,bind,pure,bg,be,Cw,HN,CA,Pv]
 ·rename_i k a k' b hx hy;obtain⟨hk,h'⟩:=Vb h;subst hk;refine⟨_,h',?_⟩;simp only[ag,ho];refine yF λw=> ?_
  simp[hx,hy,am,binOp,Op.intBits,bind,pure,bg,be,Cw,HN,CA,Pv]
 ·rename_i k a k' b hx hy;obtain⟨hk,h'⟩:=Vb h;subst hk;refine⟨_,h',?_⟩;simp only[ag,ho];refine yF λw=> ?_
  simp[hx,hy,am,binOp,Op.intBits,bind,pure,bg,be,Cw,HN,CA,Pv]
 ·rename_i k a k' b hx hy;obtain⟨hk,h'⟩:=Vb h;subst hk;refine⟨_,h',?_⟩;simp only[ag,ho];refine yF λw=> ?_
  simp[hx,hy,am,binOp,Op.intBits,bind,pure,bg,be,Cw,HN,CA,Pv]
 ·rename_i a b hx hy;obtain⟨hb,h⟩:=h;refine⟨_,h,?_⟩;simp only[ag,ho];refine yF λw=> ?_
  have AD:¬(((a.size+b.size:Nat):Int)>dh.max):=Int.not_lt.2 hb;simp only[hx,hy,am,binOp,Op.stringOp,ez AD,bind,pure,bg,be];rfl
 ·rename_i p hx;generalize hy:ev ρ y=b at h;obtain⟨hn,h⟩:=zM h;obtain⟨r,hr,h⟩:=sH h;have hb:=yGa hn;refine⟨_,h,?_⟩;exact x6 (neg:=bv) ho (by simp[hx]) (by simp[hy,hb]) (λw=>by rw[hx];exact xE trivial w) (λw=>by rw[hx,hy,hb];exact aF hr w)
 ·rename_i p hx;generalize hy:ev ρ y=b at h;obtain⟨hn,h⟩:=zM h;obtain⟨r,hr,h⟩:=sH h;have hb:=yGa hn;refine⟨_,h,?_⟩;exact x6 (neg:=bu) ho (by simp[hx]) (by simp[hy,hb]) (λw=>by rw[hx];exact xE trivial w) (λw=>by rw[hx,hy,hb];exact aF hr w)
 ·rename_i p n c hx;generalize hy:ev ρ y=b at h;obtain⟨hn,h⟩:=zM h;obtain⟨r,hr,h⟩:=sH h;obtain⟨m,d,hb⟩:=yFk hn;refine⟨_,h,?_⟩;exact x6 (neg:=bv) ho (by simp[hx]) (by simp[hy,hb]) (λw=>by rw[hx];exact xE trivial w) (λw=>by rw[hx,hy,hb];exact fP hr w)
 ·rename_i p n c hx;generalize hy:ev ρ y=b at h;obtain⟨hn,h⟩:=zM h;obtain⟨r,hr,h⟩:=sH h;obtain⟨m,d,hb⟩:=yFk hn;refine⟨_,h,?_⟩;exact x6 (neg:=bu) ho (by simp[hx]) (by simp[hy,hb]) (λw=>by rw[hx];exact xE trivial w) (λw=>by rw[hx,hy,hb];exact fP hr w)
 ·rename_i p hx;generalize hy:ev ρ y=b at h;obtain⟨hn,h⟩:=zM h;obtain⟨r,hr,h⟩:=sH h;have hb:=yGd hn;refine⟨_,h,?_⟩;exact x6 (neg:=bv) ho (by simp[hx]) (by simp[hy,hb]) (λw=>by rw[hx];exact xE trivial w) (λw=>by rw[hx,hy,hb];exact aD hr w)
 ·rename_i p hx;generalize hy:ev ρ y=b at h;obtain⟨hn,h⟩:=zM h;obtain⟨r,hr,h⟩:=sH h;have hb:=yGd hn;refine⟨_,h,?_⟩;exact x6 (neg:=bu) ho (by simp[hx]) (by simp[hy,hb]) (λw=>by rw[hx];exact xE trivial w) (λw=>by rw[hx,hy,hb];exact aD hr w)
 ·rename_i a hx;generalize hy:ev ρ y=b at h;obtain⟨r,h1,h2,h3,h⟩:=h;refine⟨_,h,?_⟩;obtain⟨c,rfl⟩:∃c,b= .agg c:=by cases b<;>first|exact⟨_,rfl⟩|(simp at h3)
  exact x6 (neg:=bv) ho (by simp[hx]) (by simp[hy]) (λw=>by rw[hx,hy];exact(zOd (by simp) w).trans (vT h2 w)) (λw=>by rw[hx,hy];exact vT h1 w)
 ·rename_i a hx;generalize hy:ev ρ y=b at h;obtain⟨r,h1,h2,h3,h⟩:=h;refine⟨_,h,?_⟩;obtain⟨c,rfl⟩:∃c,b= .agg c:=by cases b<;>first|exact⟨_,rfl⟩|(simp at h3)
  exact x6 (neg:=bu) ho (by simp[hx]) (by simp[hy]) (λw=>by rw[hx,hy];exact(zOd (by simp) w).trans (vT h2 w)) (λw=>by rw[hx,hy];exact vT h1 w)
 ·exact aA h
def fX {P:ab} {ρ:Env} {o:ak} {K:ac->Prop} (h:bR P o ρ K):∃v,K v/\Fx P (ag (ev ρ) o) v:=by
 cases ho:o.op
 case move x=>simp only[bR,ho]at h;exact⟨_,h,λw=>by simp only[ag,ho];rfl⟩
 case assign x=>simp only[bR,ho]at h;exact⟨_,h,λw=>by simp only[ag,ho];rfl⟩
 case pick c a b=>
  simp only[bR,ho]at h;split at h
  ·rename_i t hc;refine⟨_,h,λw=> ?_⟩;simp only[ag,ho,hc,asBool,bind,pure,bg,be];cases t<;>rfl
  ·exact h.elim
 case nilCheck x=>
  simp only[bR,ho]at h;split at h
  ·rename_i p hx;obtain⟨a,rfl,h⟩:=sD h;exact⟨_,h,λw=>by simp only[ag,ho,hx];rfl⟩
  ·exact aA h
 case indexAddr t x i=>
  simp only[bR,ho]at h;split at h
  ·rename_i p n c k i hx hi;split at h
   ·rename_i sz pg;obtain⟨a,rfl,hb,h⟩:=z3o h;refine⟨_,h,?_⟩;simp only[ag,ho];refine yF λw=> ?_
    rw[hx,hi];exact wQ pg hb w
   ·exact h.elim
  ·rename_i p k i hx hi;split at h
   ·rename_i n sz pg;obtain⟨a,rfl,hb,h⟩:=z3o h;refine⟨_,h,?_⟩;simp only[ag,ho];refine yF λw=> ?_
    rw[hx,hi];exact cN pg hb w
   ·exact h.elim
  ·exact h.elim
 case index t x i=>
  simp only[bR,ho]at h;split at h
  ·rename_i s k i hx hi;split at h
   ·rename_i ht;obtain⟨b,⟨h0,h1⟩,h⟩:=h;refine⟨_,h,?_⟩;simp only[ag,ho];refine yF λw=> ?_
    simp only[Instr.index,hx,hi,asIntOf,bind,pure,bg,be,run_bind,run_underlying ht,fh h0,h1]
   ·exact h.elim
  ·split at h
   ·exact aA h
   ·obtain⟨v,hv,h⟩:=uA h;refine⟨v,h,?_⟩;simp only[ag,ho];exact yF (vT hv)
 case typeAssert x xT asserted ok=>
  cases ok
  ·simp only[bR,ho]at h;obtain⟨v,hv,h⟩:=uA h;refine⟨v,h,?_⟩;simp only[ag,ho];exact yF (vT hv)
  ·simp only[bR,ho]at h;obtain⟨v,h⟩:=uA h;obtain⟨b,hv,h⟩:=wZ h;refine⟨_,h,?_⟩;simp only[ag,ho];exact yF (vT hv)
 case slice t x lo hi mx=>
  cases mx with
  |none=>exact z9d ho h
  |some m=>
   simp only[bR,ho]at h;split at h<;>first|exact h.elim|contradiction|skip
   rename_i p n c m' hx hm;cases hm;split at h<;>first|exact h.elim|skip
   rename_i sz l u k m' pg h1 h2 hm;obtain⟨⟨q1,q2,q3,q4⟩,h⟩:=h;obtain⟨e,ti,e1,e2,rfl⟩:=zBt pg;rcases VD h1 with⟨_,h1⟩|⟨y,ky,ny,rfl,hy,h1⟩
   ·cases h1
   cases h1;rcases VD h2 with⟨_,h2⟩|⟨z,kz,nz,rfl,hz,h2⟩
   ·cases h2
   cases h2;refine⟨_,h,?_⟩;simp only[ag,ho];refine yF λw=> ?_
   have b1:(0:Int)<=m'/\m'<=(c:Nat):=by omega
   have b2:0<=u/\u<=(m'.toNat:Nat):=by omega
   have b3:0<=l/\l<=(u.toNat:Nat):=by omega
   simp only[Instr.sliceAt,Instr.slice,cq,hx,hm,hy,hz,wg,bind,pure,bg,be,run_bind,run_underlying e1,jP b1,jP b2,jP b3,run_sizeOf e2]
 case binOp op t x y u=>exact yTb ho h
 case panic x=>simp only[bR,ho]at h
 all_goals(simp only[bR,ho]at h;exact aA h)
def bN (P:ab) (s:Sem ac) (w:ae) (v:ac):Prop:=s.run P w=.ok v w
def fJ (P:ab) (s:Sem ac) (w:ae) (v:ac) (w':ae):Prop:=s.run P w=.ok v w'
def Hw (P:ab) (s:Sem Unit) (w:ae) (w':ae):Prop:=s.run P w=.ok () w'
def pY (P:ab) (t:af) (a:ao) (w:ae) (v:ac):Prop:=(loadVar t a).run P w=.ok v w
def yId (P:ab) (t:af):Option af:=
 match P.underlying t with
 |some (.map _ e)=>az e
 |_=>ba
def AZ (P:ab) (o:ak) (ρ:Env) (w:ae) (K:ac->Prop):Prop:=
 match o.op with
 | .load t x=>
   match ev ρ x with
   | .pointer p=>JQ p λa=>Fj P t λv=>pY P t a w v/\K v
   |_=>False
 | .lookup t m k ok=>
   match yId P t with
   |some e=>Fj P e λv=>Dz .bool λb=>bN P (cr t (ev ρ m) (ev ρ k) bu) w (.tuple #[v,b])/\K (bif ok then .tuple #[v,b]else v)
   |none=>False
 | .convert s d x=>Fj P d λv=>bN P (ay s d (ev ρ x)) w v/\K v
 | .binOp op t x y _=>
   match op with
   | .eql=>Dz .bool λv=>bN P (binOp .eql t (ev ρ x) (ev ρ y)) w v/\(am .eql t x y (ev ρ x) (ev ρ y)).run P w=.ok () w/\K v
   | .neq=>Dz .bool λv=>bN P (binOp .neq t (ev ρ x) (ev ρ y)) w v/\(am .neq t x y (ev ρ x) (ev ρ y)).run P w=.ok () w/\K v
   |_=>False
 | .call {callee:= .builtin .len,args,argTypes}=>Dz (.int .i64) λv=>bN P (cf argTypes o.type (args.map (ev ρ))) w v/\K v
 | .entry x=>∃v,bN P (Instr.entry (ev ρ x)) w v/\K v
 |_=>False
def yJ {P:ab} {s:Sem ac} {v:ac} {w:ae} (h:s.run P w= .ok v w):((do pure (Next.value (<- s)):Sem Next)).run P w= .ok (.value v) w:=by
 show(s.bind λa=> .pure (Next.value a)).run P w=_;rw[run_bind,h];rfl
def yBj {P:ab} {s:Sem ac} {v:ac} {w w':ae} (h:s.run P w= .ok v w'):((do pure (Next.value (<- s)):Sem Next)).run P w= .ok (.value v) w':=by
 show(s.bind λa=> .pure (Next.value a)).run P w=_;rw[run_bind,h];rfl
def yKr {P:ab} {s:Sem Unit} {w w':ae} (h:s.run P w= .ok () w'):((do s;pure Next.skip:Sem Next)).run P w= .ok .skip w':=by
 show(s.bind λ_=> .pure Next.skip).run P w=_;rw[run_bind,h];rfl
def OY (P:ab) (s1 s2:Sem ac):Prop:=∀w v b w',s1.run P w=.ok (.tuple #[v,b]) w'->s2.run P w=.ok v w'
def aQ {α:Type} {P:ab} (s:Sem α) {f g:α->Sem ac} (h:∀a,OY P (f a) (g a)):OY P (s.bind f) (s.bind g):=by
 intro w v b w' hr;rw[run_bind]at hr ⊢;cases hs:s.run P w with
 |ok a w1=>rw[hs]at hr;exact h a _ _ _ _ hr
 |halt x w1=>rw[hs]at hr;cases hr
def yLb {P:ab} {x y:String}:OY P (stuck x) (stuck y):=by
 intro w v b w' hr;cases hr
def z7c {P:ab} {v b:ac}:OY P (.pure (.tuple #[v,b])) (.pure v):=by
 intro w v b w' hr;simp only[be,Result.ok.injEq,Value.tuple.injEq,Array.mk.injEq,List.cons.injEq]at hr ⊢;exact⟨hr.1.1,hr.2⟩
def C' {P:ab} {t:af} {m k:ac}:OY P (cr t m k bu) (cr t m k bv):=by
 unfold cr;refine aQ _ λd=> ?_
 have tail:∀(key elem:af) (es:Array ar),OY P
  ((Instr.checkKey es.isEmpty 10000 key k).bind λ_=>(Instr.findKey key k es.toList).bind λr=>
    match r with
    |some (_,v)=>(bo (v,bu)).bind λx=>bo (if bu=bu then Value.tuple #[x.1,.bool x.2]else x.1)
    |none=>(zeroValue elem).bind λz=>(bo (z,bv)).bind λx=>bo (if bu=bu then Value.tuple #[x.1,.bool x.2]else x.1))
  ((Instr.checkKey es.isEmpty 10000 key k).bind λ_=>(Instr.findKey key k es.toList).bind λr=>
    match r with
    |some (_,v)=>(bo (v,bu)).bind λx=>bo (if bv=bu then Value.tuple #[x.1,.bool x.2]else x.1)
    |none=>(zeroValue elem).bind λz=>(bo (z,bv)).bind λx=>bo (if bv=bu then Value.tuple #[x.1,.bool x.2]else x.1)):=by
  intro key elem es;refine aQ _ λ_=>aQ _ λr=> ?_
  cases r with
  |some p=>obtain⟨i,v⟩:=p;exact z7c
  |none=>exact aQ _ λz=>z7c
 cases d<;>first|exact yLb|skip
 rename_i key elem;cases m<;>first|exact aQ _ (λes=>tail key elem es)|skip
 rename_i r;cases r with
 |none=>exact aQ _ (λes=>tail key elem es)
 |some r=>
  refine aQ _ λo=> ?_
  cases o<;>exact aQ _ (λes=>tail key elem es)
def zOy {P:ab} {t:af} {m k v b:ac} {w w':ae} (h:(cr t m k bu).run P w= .ok (.tuple #[v,b]) w'):(cr t m k bv).run P w= .ok v w':=
 C' w v b w' h
def z9u {P:ab} {ρ:Env} {o:ak} {w:ae} {K:ac->Prop} (h:AZ P o ρ w K):∃v,K v/\(ag (ev ρ) o).run P w= .ok (.value v) w:=by
 cases ho:o.op
 case load t x=>
  simp only[AZ,ho]at h;split at h
  ·rename_i p hx;obtain⟨a,rfl,h⟩:=sD h;obtain⟨v,hv,h⟩:=uA h;refine⟨v,h,?_⟩;simp only[ag,ho,hx];exact yJ hv
  ·exact h.elim
 case lookup t m k ok=>
  simp only[AZ,ho]at h;split at h
  ·rename_i e he;obtain⟨v,h⟩:=uA h;obtain⟨b,hb,h⟩:=wZ h;refine⟨_,h,?_⟩;simp only[ag,ho];cases ok
   ·exact yJ (zOy hb)
   ·exact yJ hb
  ·exact h.elim
 case convert s d x=>
  simp only[AZ,ho]at h;obtain⟨v,hv,h⟩:=uA h;refine⟨v,h,?_⟩;simp only[ag,ho];exact yJ hv
 case binOp op t x y u=>
  simp only[AZ,ho]at h;split at h
  ·obtain⟨v,h1,h2,h⟩:=wZ h;refine⟨v,h,?_⟩;simp only[ag,ho];refine yJ ?_;simp only[bind,run_bind,h2];exact h1
  ·obtain⟨v,h1,h2,h⟩:=wZ h;refine⟨v,h,?_⟩;simp only[ag,ho];refine yJ ?_;simp only[bind,run_bind,h2];exact h1
  ·exact h.elim
 case call c=>
  simp only[AZ,ho]at h;split at h<;>first|exact h.elim|skip
  all_goals first|(exfalso;rename_i hh;cases hh;done)|skip
  rename_i args argTypes hh;cases hh;obtain⟨v,hv,h⟩:=wZ h;refine⟨v,h,?_⟩;simp only[ag,ho];exact yJ hv
 case entry x=>
  simp only[AZ,ho]at h;obtain⟨v,hv,h⟩:=h;refine⟨v,h,?_⟩;simp only[ag,ho];exact yJ hv
 all_goals(simp only[AZ,ho]at h)
def nk (P:ab) (s:Sem Next) (w:ae) (K:ac->ae->Prop):Prop:=
 match s.run P w with
 | .ok (.value v) w'=>K v w'
 | .ok .skip w'=>K ap w'
 | .ok (.enter f args) w'=>Calls P f args w' λe XN=>∃v,e=.returned v/\K v XN
 |_=>False
def Lz (w:ae) (o:Obj) (K:Nat->ae->Prop):Prop:=∀b w',b=w.heap.size->w'=w.alloc o->K b w'
def zero? (P:ab) (t:af):Option ac:=
 match P.info? t with
 |some i=>i.zero
 |none=>ba
def Hz (z:Array ac) (n:Nat):Array ac:=((dc n).map λj=>z.toList.getD (j % z.size) default).toArray
def YL (z:Array ac) (n:Nat):(Array.range n).map (z[·% z.size]!)=Hz z n:=by
 apply df;simp only[Hz,Array.toList_map,Array.toList_range];refine uc λj _=> ?_
 rw[Array.getElem!_eq_getD,CI,mu,Array.getElem?_toList]
def Mp (P:ab) (t:af) (len:Nat) (parts:Array (Nat×ac)):Option (af×Array ac):=
 match P.underlying t with
 |some (.slice e)=>
  match P.info? e with
  |some i=>
   if len*i.size>2 ^ 24 then ba else
   match(if len*i.size=0 then az #[]else i.zero.map Value.cells)with
   |some z=>(Instr.fill (λj=>az (j*i.size,i.size)) (Hz z (len*i.size)) parts.toList).map λcs=>(e,cs)
   |none=>ba
  |none=>ba
 |_=>ba
def vW (P:ab) (t:af):Option (af×Nat×Nat×Array ac):=
 match P.underlying t with
 |some (.slice e)=>
  match P.info? e with
  |some i=>i.zero.map λz=>(e,i.size,i.bytes,z.cells)
  |none=>ba
 |_=>ba
def gU (P:ab) (f:aw):Bool:=
 match P.funcs[f]? with
 | some fn => !fn.body.isNone && !(fn.name == "runtime.NumGoroutine")
 |none=>bv
def yQu (P:ab) (f:aw) (args:Array ac) (w:ae) (rt:af) (K:ac->ae->Prop):Prop:=
 Calls P f args w λe w'=>SH P rt λv=>e=.returned v/\K v w'
def Ext (P:ab) (f:aw) (args:Array ac) (w:ae) (v:ac) (w':ae):Prop:=(av f args).run P w=.ok (.value v) w'
def cI (P:ab) (o:ak) (ρ:Env) (w:ae) (K:ac->ae->Prop):Prop:=
 match o.op with
 | .alloc e=>
   match zero? P e with
   |some z=>Lz w (.cells z.cells e) λb w'=>K (.pointer (az ⟨b,0,ba⟩)) w'
   |none=>False
 | .box e x=>Lz w (.cells (ev ρ x).cells e) λb w'=>K (.pointer (az ⟨b,0,ba⟩)) w'
 | .buildSlice t len parts=>
   match Mp P t len (parts.map λ(i,x)=>(i,ev ρ x))with
   |some (e,cs)=>Lz w (.cells cs e) λb w'=>K (.slice (az ⟨b,0,ba⟩) len len) w'
   |none=>False
 | .makeMap _ ba=>Lz w (.map #[] 0) λb w'=>K (.map (az b)) w'
 | .makeSlice t l c=>
   match ev ρ l,ev ρ c with
   | .int _ l,.int _ c=>
     match vW P t with
     |some (e,sz,oD,z)=>(0<=l/\l<=c/\c<=9223372036854775807/\(oD:Int)*c<=2 ^ 48)/\
       Lz w (.cells (madeCells z (c.toNat*sz)) e) λb w'=>K (.slice (az ⟨b,0,ba⟩) l.toNat c.toNat) w'
     |none=>False
   |_,_=>False
 | .store t x v=>
   match ev ρ x with
   | .pointer p=>JQ p λa=>∃w',Hw P (storeVar t a (ev ρ v)) w w'/\K ap w'
   |_=>False
 | .mapUpdate t m k x=>∃w',Hw P (Instr.mapUpdate t (ev ρ m) (ev ρ k) (ev ρ x)) w w'/\K ap w'
 | .mapEntry t m k=>
   match yId P t with
   |some e=>Fj P e λv=>Dz (.int .i64) λs=>∃w',fJ P (Instr.mapEntry t (ev ρ m) (ev ρ k)) w (.tuple #[v,s]) w'/\K (.tuple #[v,s]) w'
   |none=>False
 | .entryStore t m s x=>∃w',Hw P (Instr.entryStore t (ev ρ m) (ev ρ s) (ev ρ x)) w w'/\K ap w'
 | .range t x=>
   match P.underlying t,ev ρ x with
   |some .string,.string s=>Lz w (.stringIter s 0) λb w'=>K (.pointer (az ⟨b,0,ba⟩)) w'
   |_,x=>Dz .ptr λv=>∃w',fJ P (Instr.range t x) w v w'/\K v w'
 | .next it bu=>
   (∃w',fJ P (Instr.next (ev ρ it) bu o.type) w (.tuple #[.bool bv]) w'/\K (.tuple #[.bool bv]) w')\/
   Dz (.int .i64) λk=>Dz (.int .i32) λv=>∃w',fJ P (Instr.next (ev ρ it) bu o.type) w (.tuple #[.bool bu,k,v]) w'/\K (.tuple #[.bool bu,k,v]) w'
 | .next it bv=>
   (∃w',fJ P (Instr.next (ev ρ it) bv o.type) w (.tuple #[.bool bv]) w'/\K (.tuple #[.bool bv]) w')\/
   ∃(k v:ac) (w':ae),fJ P (Instr.next (ev ρ it) bv o.type) w (.tuple #[.bool bu,k,v]) w'/\K (.tuple #[.bool bu,k,v]) w'
 | .convert s d x=>Fj P d λv=>∃w',fJ P (ay s d (ev ρ x)) w v w'/\K v w'
 | .call c=>
   match c.callee with
   | .value (.func f)=>bif gU P f then yQu P f (c.args.map (ev ρ)) w o.type K else SH P o.type λv=>∃w',Ext P f (c.args.map (ev ρ)) w v w'/\K v w'
   | .value x=>
     match ev ρ x with
     | .func (.func f) first cap=>gU P f=bu/\yQu P f (first++c.args.map (ev ρ)++cap) w o.type K
     |_=>False
   | .builtin .append=>Fj P o.type λv=>∃w',fJ P (ce c.argTypes o.type (c.args.map (ev ρ))) w v w'/\K v w'
   | .builtin .copy=>Dz (.int .i64) λv=>∃w',fJ P (cg c.argTypes o.type (c.args.map (ev ρ))) w v w'/\K v w'
   | .builtin .delete=>∃w',fJ P (Builtin.delete_ c.argTypes o.type (c.args.map (ev ρ))) w (.tuple #[]) w'/\K (.tuple #[]) w'
   | .builtin .clear=>∃w',fJ P (Builtin.clear_ c.argTypes o.type (c.args.map (ev ρ))) w (.tuple #[]) w'/\K (.tuple #[]) w'
   |_=>False
 |_=>False
def yG {P:ab} {s:Sem ac} {w w':ae} {v:ac} {K:ac->ae->Prop} (h:s.run P w= .ok v w') (hk:K v w'):nk P (do pure (Next.value (<- s))) w K:=by
 unfold nk;rw[yBj h];exact hk
def vF {P:ab} {s:Sem Unit} {w w':ae} {K:ac->ae->Prop} (h:s.run P w= .ok () w') (hk:K ap w'):nk P (do s;pure Next.skip) w K:=by
 unfold nk;rw[yKr h];exact hk
def zYh {P:ab} {f:aw} {args:Array ac} {w:ae} {rt:af} {K:ac->ae->Prop} (hb:gU P f=bu) (h:yQu P f args w rt K):nk P (av f args) w K:=by
 unfold gU at hb;split at hb
 ·rename_i fn FX;simp only[lr,Dp,Bool.not_eq_eq_eq_not,Bool.not_true]at hb;unfold nk;have:(av f args).run P w= .ok (.enter f args) w:=by
   simp only[av,bind,pure,run_bind,program,be,bg,FX,hb.1,hb.2,oR,if_false]
  rw[this];exact h.mono λe w' hh=>by
   obtain⟨v,hv,hk⟩:=yEn hh;exact⟨v,hv,hk⟩
 ·cases hb
def me {P:ab} {t:af} {z:ac} (h:zero? P t=az z) (w:ae):(zeroValue t).run P w= .ok z w:=by
 unfold zero? at h;split at h
 ·rename_i i hi;have IG:(typeInfo t).run P w= .ok i w:=by
   unfold typeInfo;show((Sem.program bo).bind _).run P w=_;simp only[bg,be,hi];rfl
  unfold zeroValue;simp only[bind,run_bind,IG,h];rfl
 ·cases h
def zTa {P:ab} {t:af} {v:ac} (w:ae):(newVar t v).run P w= .ok ⟨w.heap.size,0,ba⟩ (w.alloc (.cells v.cells t)):=rfl
def zIl {P:ab} {t:af} {i:TypeInfo} (h:P.info? t=az i) (w:ae):(typeInfo t).run P w= .ok i w:=by
 unfold typeInfo;show((Sem.program bo).bind _).run P w=_;simp only[bg,be,h];rfl
def nK {P:ab} {t:af} {len:Nat} {parts:Array (Nat×ac)} {e:af} {cs:Array ac} (h:Mp P t len parts=az (e,cs)) (w:ae):
 (Instr.buildSlice t len parts).run P w= .ok (.slice (az ⟨w.heap.size,0,ba⟩) len len) (w.alloc (.cells cs e)):=by
 unfold Mp at h;split at h<;>first|(cases h;done)|skip
 rename_i e' ht;split at h<;>first|(cases h;done)|skip
 rename_i i hi;split at h<;>first|(cases h;done)|skip
 rename_i hlen;split at h<;>first|(cases h;done)|skip
 rename_i z hz;simp only[bc,dk]at h;obtain⟨CN,HX,rfl,rfl⟩:=h;by_cases h0:len*i.size=0
 ·simp only[h0,if_true,cu]at hz;subst hz;simp only[Instr.buildSlice,bind,pure,run_bind,bg,be,run_underlying ht,run_sizeOf hi,ez hlen,fh h0,YL,HX];rfl
 ·simp only[h0,if_false,bc]at hz;obtain⟨z',RU,rfl⟩:=hz;have E8:∀w,(zeroValue e').run P w= .ok z' w:=λw=>me (by unfold zero?;rw[hi];exact RU) w
  simp only[Instr.buildSlice,bind,pure,run_bind,bg,be,run_underlying ht,run_sizeOf hi,ez hlen,ez h0,E8,YL,HX];rfl
def jI {P:ab} {t e:af} {sz oD:Nat} {z:Array ac} (h:vW P t=az (e,sz,oD,z)):
 ∃i zv,P.underlying t=az (.slice e)/\P.info? e=az i/\i.size=sz/\i.bytes=oD/\i.zero=az zv/\zv.cells=z:=by
 unfold vW at h;split at h<;>first|(cases h;done)|skip
 rename_i e' ht;split at h<;>first|(cases h;done)|skip
 rename_i i hi;simp only[bc,dk]at h;obtain⟨zv,XW,rfl,rfl,rfl,rfl⟩:=h;exact⟨i,zv,ht,hi,rfl,rfl,XW,rfl⟩
def wrap_i64 {x:Int} (h0: -9223372036854775808<=x) (h1:x<=9223372036854775807):dh.wrap x=x:=IntWalk.i64_in x ⟨h0,h1⟩
def zOf (P:ab) (n:Nat) (w:ae):(askRoom n).run P w= .ok () w:=by
 unfold askRoom;split<;>rfl
def zRi {P:ab} {t e:af} {sz oD:Nat} {z:Array ac} {k k':aj} {l c:Int} (h:vW P t=az (e,sz,oD,z))
 (hb:0<=l/\l<=c/\c<=9223372036854775807/\(oD:Int)*c<=2 ^ 48) (w:ae):
 (Instr.makeSlice t (.int k l) (.int k' c)).run P w= .ok (.slice (az ⟨w.heap.size,0,ba⟩) l.toNat c.toNat) (w.alloc (.cells (madeCells z (c.toNat*sz)) e)):=by
 obtain⟨i,zv,ht,hi,rfl,rfl,hz,rfl⟩:=jI h;obtain⟨h1,h2,h3,h4⟩:=hb;have wl:dh.wrap l=l:=wrap_i64 (by omega) (by omega);have wc:dh.wrap c=c:=wrap_i64 (by omega) (by omega);have CM:¬(((decide (c<0)||decide ((i.bytes:Int)*c>2 ^ 48))||decide (l<0)||decide (l>c))=bu):=by
  simp only[Og,tn,not_or];omega
 have E8:∀w,(zeroValue e).run P w= .ok zv w:=λw=>me (by unfold zero?;rw[hi];exact hz) w
 simp only[Instr.makeSlice,asInt,asIntOf,bind,pure,run_bind,bg,be,run_underlying ht,zIl hi,run_sizeOf hi,wl,wc];rw[ez CM];simp only[run_bind,zOf,run_sizeOf hi];by_cases h0:c.toNat*i.size=0
 ·simp only[h0,if_true,be,run_bind,madeCells];have e1:(Array.map (λx=>(#[]:Array ac)[x % (#[]:Array ac).size]!) (Array.range 0))= #[]:=by simp
  have e2:(Array.map (λx=>zv.cells[x % zv.cells.size]!) (Array.range 0))= #[]:=by simp
  rw[e1,e2];rfl
 ·simp only[ez h0,run_bind,E8,be,madeCells];rfl
def zXb {P:ab} {ρ:Env} {o:ak} {w:ae} {K:ac->ae->Prop} (h:cI P o ρ w K):nk P (ag (ev ρ) o) w K:=by
 cases ho:o.op
 case alloc e=>
  simp only[cI,ho]at h;split at h
  ·rename_i z hz;simp only[ag,ho];refine yG (v:= .pointer (az ⟨w.heap.size,0,ba⟩)) (w':=w.alloc (.cells z.cells e)) ?_ (h _ _ rfl rfl);simp only[Instr.alloc,bind,pure,run_bind,me hz,be,zTa]
  ·exact h.elim
 case box e x=>
  simp only[cI,ho]at h;simp only[ag,ho];exact yG (v:= .pointer (az ⟨w.heap.size,0,ba⟩)) (w':=w.alloc (.cells (ev ρ x).cells e)) rfl (h _ _ rfl rfl)
 case buildSlice t len parts=>
  simp only[cI,ho]at h;split at h
  ·rename_i e cs HX;simp only[ag,ho];exact yG (nK HX w) (h _ _ rfl rfl)
  ·exact h.elim
 case makeMap t r=>
  cases r with
  |some r=>simp only[cI,ho]at h
  |none=>
   simp only[cI,ho]at h;simp only[ag,ho];exact yG (v:= .map (az w.heap.size)) (w':=w.alloc (.map #[] 0)) rfl (h _ _ rfl rfl)
 case makeSlice t l c=>
  simp only[cI,ho]at h;split at h<;>first|exact h.elim|skip
  rename_i k l' k' c' hl hc;split at h<;>first|exact h.elim|skip
  rename_i e sz oD z hs;simp only[ag,ho,hl,hc];exact yG (zRi hs h.1 w) (h.2 _ _ rfl rfl)
 case store t x v=>
  simp only[cI,ho]at h;split at h<;>first|exact h.elim|skip
  rename_i p hx;obtain⟨a,rfl,w',hw,hk⟩:=sD h;simp only[ag,ho,hx];exact vF (w':=w') hw hk
 case mapUpdate t m k x=>
  simp only[cI,ho]at h;obtain⟨w',hw,hk⟩:=h;simp only[ag,ho];exact vF hw hk
 case mapEntry t m k=>
  simp only[cI,ho]at h;split at h<;>first|exact h.elim|skip
  obtain⟨v,h⟩:=uA h;obtain⟨s,w',hw,hk⟩:=wZ h;simp only[ag,ho];exact yG hw hk
 case entryStore t m s x=>
  simp only[cI,ho]at h;obtain⟨w',hw,hk⟩:=h;simp only[ag,ho];exact vF hw hk
 case range t x=>
  simp only[cI,ho]at h;split at h
  ·rename_i s ht hx;simp only[ag,ho];refine yG (v:= .pointer (az ⟨w.heap.size,0,ba⟩)) (w':=w.alloc (.stringIter s 0)) ?_ (h _ _ rfl rfl);rw[hx];simp only[Instr.range,bind,pure,run_bind,bg,run_underlying ht];rfl
  ·obtain⟨v,w',hw,hk⟩:=wZ h;simp only[ag,ho];exact yG hw hk
 case next it isString=>
  simp only[ag,ho];cases isString
  ·simp only[cI,ho]at h;rcases h with⟨w',hw,hk⟩|⟨k,v,w',hw,hk⟩
   ·exact yG hw hk
   ·exact yG hw hk
  ·simp only[cI,ho]at h;rcases h with⟨w',hw,hk⟩|h
   ·exact yG hw hk
   ·obtain⟨k,h⟩:=wZ h;obtain⟨v,w',hw,hk⟩:=wZ h;exact yG hw hk
 case convert s d x=>
  simp only[cI,ho]at h;obtain⟨v,w',hw,hk⟩:=uA h;simp only[ag,ho];exact yG hw hk
 case call c=>
  have tj:ag (ev ρ) o=(au (ev ρ) c o.type).bind λd=>invoke d.target d.args:=by
   simp only[ag,ho];rfl
  simp only[cI,ho]at h;split at h
  ·rename_i f hc;have jr:(ag (ev ρ) o)=av f (c.args.map (ev ρ)):=by
    rw[tj];unfold au;rw[hc];simp only[ev,Deferred.ofValue,pure,bg,invoke,Array.append_empty,Array.empty_append]
   rw[jr];revert h;cases hb:gU P f<;>intro h
   ·replace h:SH P o.type λv=>∃w',Ext P f (c.args.map (ev ρ)) w v w'/\K v w':=h
    obtain⟨v,w',hw,hk⟩:=yEn h;exact(by unfold nk;rw[show(av f (c.args.map (ev ρ))).run P w=_ from hw];exact hk)
   ·exact zYh hb h
  ·rename_i x hc;split at h<;>first|exact h.elim|skip
   rename_i f first cap hx
   have jr:(ag (ev ρ) o)=av f (first++c.args.map (ev ρ)++cap):=by
    rw[tj];unfold au;rw[hc];simp only[hx,Deferred.ofValue,pure,bg,invoke]
   rw[jr];exact zYh h.1 h.2
  all_goals first|exact h.elim|skip
  ·rename_i hc;have jr:ag (ev ρ) o=builtin .append c.argTypes o.type (c.args.map λ| .const _=>bu|_=>bv) (c.args.map (ev ρ)):=by
    rw[tj];unfold au;rw[hc];rfl
   rw[jr];obtain⟨v,w',hw,hk⟩:=uA h;exact yG hw hk
  ·rename_i hc;have jr:ag (ev ρ) o=builtin .copy c.argTypes o.type (c.args.map λ| .const _=>bu|_=>bv) (c.args.map (ev ρ)):=by
    rw[tj];unfold au;rw[hc];rfl
   rw[jr];obtain⟨v,w',hw,hk⟩:=wZ h;exact yG hw hk
  ·rename_i hc;have jr:ag (ev ρ) o=builtin .delete c.argTypes o.type (c.args.map λ| .const _=>bu|_=>bv) (c.args.map (ev ρ)):=by
    rw[tj];unfold au;rw[hc];rfl
   rw[jr];obtain⟨w',hw,hk⟩:=h;exact yG hw hk
  ·rename_i hc;have jr:ag (ev ρ) o=builtin .clear c.argTypes o.type (c.args.map λ| .const _=>bu|_=>bv) (c.args.map (ev ρ)):=by
    rw[tj];unfold au;rw[hc];rfl
   rw[jr];obtain⟨w',hw,hk⟩:=h;exact yG hw hk
 all_goals(simp only[cI,ho]at h)
end Cv
namespace Cv
open Go
def Pp:aq->Bool
 | .const (.pointer ba)=>bu
 |_=>bv
def UG (P:ab) (op:Op):Nat:=
 match op with
 | .load _ _=>1
 | .lookup _ _ _ _=>1
 | .convert s d _=>
   match P.underlying s,P.underlying d with
   |some .string,az (.slice _)=>2
   |some (.slice _),az .string=>1
   |_,_=>0
 | .binOp op t x y _=>
   match op,P.underlying t with
   | .eql,az (.pointer _)=>bif Pp y then 0 else 1
   | .neq,az (.pointer _)=>bif Pp y then 0 else 1
   |_,_=>0
 | .call c=>
   match c.callee with
   | .builtin .len=>
     match(c.argTypes[0]?).bind P.underlying with
     |some (.map _ _)=>1
     |_=>0
   | .builtin .cap=>0
   | .builtin .min=>0
   | .builtin .max=>0
   |_=>2
 | .alloc _=>2
 | .box _ _=>2
 | .buildSlice _ _ _=>2
 | .makeMap _ _=>2
 | .makeSlice _ _ _=>2
 | .store _ _ _=>2
 | .mapUpdate _ _ _ _=>2
 | .mapEntry _ _ _=>2
 | .entryStore _ _ _ _=>2
 | .range _ _=>2
 | .entry _=>1
 | .next _ _=>2
 |_=>0
def opV (P:ab) (o:ak) (ρ:Env) (w:ae) (K:ac->ae->Prop):Prop:=
 match UG P o.op with
 |0=>bR P o ρ λv=>K v w
 |1=>AZ P o ρ w λv=>K v w
 |_=>cI P o ρ w K
def wU {P:ab} {s:Sem Next} {w w':ae} {v:ac} {K:ac->ae->Prop} (h:s.run P w= .ok (.value v) w') (hk:K v w'):nk P s w K:=by
 unfold nk;rw[h];exact hk
def yJb {P:ab} {o:ak} {ρ:Env} {w:ae} {K:ac->ae->Prop} (h:opV P o ρ w K):nk P (ag (ev ρ) o) w K:=by
 unfold opV at h;split at h
 ·obtain⟨v,hk,hf⟩:=fX h;exact wU (hf w) hk
 ·obtain⟨v,hk,hf⟩:=z9u h;exact wU hf hk
 ·exact zXb h
def Xi (ops:List ak) (j:Nat):Option Nat:=
 match ops[j]? with
 |some o=>o.dst
 |none=>ba
def gd (c want:Bool) (Y N:Prop):Prop:=
 match c,want with
 |true,bu=>Y
 |false,bv=>Y
 |true,bv=>N
 |false,bu=>N
def Po (ops:List ak) (g:Option (Nat×Bool)) (ρ:Env) (Y N:Env->Prop):Prop:=
 match g with
 |none=>Y ρ
 |some (j,want)=>
  match Xi ops j with
  |none=>N ρ
  |some d=>
   match ρ d with
   | .bool c=>gd c want (Y (put ρ (az d) (.bool want))) (N (put ρ (az d) (.bool !want)))
   |_=>N ρ
def z4n {ρ:Env} {d:Nat} {v:ac} (h:ρ d=v):put ρ (az d) v=ρ:=by
 funext i;simp only[put];cases hb:cx i d
 ·rfl
 ·have:=jg hb;subst this;exact h.symm
@[reducible] def yR (a:Act):Env:=λi=>a.tmps.getD i ap
def vI (a:Act):ev (yR a)=a.eval:=by
 funext x;cases x<;>rfl
def mg {a:Act} {dst:Option Nat} {v:ac} (h:∀d,dst=az d->d<a.tmps.size):yR (a.put dst v)=put (yR a) dst v:=by
 cases dst with
 |none=>rfl
 |some d=>
  funext i;have:=h d rfl;simp only[yR,Act.put,put];cases hb:cx i d
  ·have jy:i≠d:=λe=>by subst e;simp at hb
   simp[CI,XL (Ne.symm jy)]
  ·have e:=jg hb;subst e;simp[CI,XM this]
def zIj (ops:List ak) (tmps:Array ac) (j:Nat):yielded ops.toArray tmps j=match Xi ops j with
 |none=>ba
 |some d=>match tmps[d]? with|some (.bool b)=>az b|_=>ba:=by
 unfold yielded Xi;simp only[Bc];cases ops[j]? with
 |none=>rfl
 |some o=>
  obtain⟨dst,op,ty,pos,after,g⟩:=o;cases dst with
  |none=>rfl
  |some d=>
   simp only[Option.bind_some];cases tmps[d]? with
   |none=>rfl
   |some v=>cases v<;>rfl
def lJ {ops:List ak} {o:ak} {a:Act} {Y N:Env->Prop} (h:Po ops o.guard (yR a) Y N):
 if cp o (yielded ops.toArray a.tmps)then Y (yR a)else N (yR a):=by
 unfold Po at h;unfold cp;split at h
 ·rename_i hg;rw[hg];exact h
 ·rename_i j want hg;rw[hg];have hy:=zIj ops a.tmps j;split at h
  ·rename_i hd;rw[hd]at hy;simp only[hy];simpa using h
  ·rename_i d hd;rw[hd]at hy;simp only[hy];have hv:yR a d=(a.tmps[d]?).getD ap:=by simp[yR,CI]
   rw[hv]at h;cases ht:a.tmps[d]? with
   |none=>
    rw[ht]at h;simpa[ap]using h
   |some v=>
    rw[ht]at h hv;simp only[zt]at h hv;cases v with
    |bool c=>
     simp only[]at h ⊢;have hs:∀b,c=b->put (yR a) (az d) (.bool b)=yR a:=λb hb=>z4n (by rw[hv,hb])
     cases c<;>cases want<;>simp only[gd,Bool.not_true,JZ]at h<;>rw[hs _ rfl]at h<;>simpa using h
    |_=>simpa using h
def P' (P:ab) (ops:List ak):List ak->Env->ae->(Env->ae->Prop)->Prop
 |[],ρ,w,K=>K ρ w
 |o::rest,ρ,w,K=>
  Po ops o.guard ρ (λρ=>opV P o ρ w λv w'=>P' P ops rest (put ρ o.dst v) w' K) (λρ=>P' P ops rest (put ρ o.dst ap) w K)
def Jz (n:Nat) (A:Nat->Bool) (ops:List ak):Prop:=∀o∈ops,∀d,o.dst=az d->d<n/\A d=bu
structure Good (n:Nat) (A:Nat->Bool) (e0:Env) (a:Act):Prop where
 size:a.tmps.size=n
 defers:a.defers=[]
 same:∀s,A s=bv->yR a s=e0 s
def z5p (a:Act) (d:Option Nat) (v:ac):(a.put d v).tmps.size=a.tmps.size/\(a.put d v).defers=a.defers:=by
 cases d<;>simp[Act.put]
def Good.mg {n:Nat} {A:Nat->Bool} {e0:Env} {a:Act} (h:Good n A e0 a) {dst:Option Nat} (hd:∀d,dst=az d->d<n/\A d=bu) (v:ac):
 yR (a.put dst v)=put (yR a) dst v:=Cv.mg λd oT=>by rw[h.size];exact(hd d oT).1
def Good.put {n:Nat} {A:Nat->Bool} {e0:Env} {a:Act} (h:Good n A e0 a) {dst:Option Nat} (hd:∀d,dst=az d->d<n/\A d=bu) (v:ac):Good n A e0 (a.put dst v):=by
 refine⟨(z5p _ _ _).1.trans h.size,(z5p _ _ _).2.trans h.defers,λs hs=> ?_⟩;rw[h.mg hd];cases dst with
 |none=>exact h.same s hs
 |some d=>
  simp only[Cv.put];cases hb:cx s d
  ·exact h.same s hs
  ·have e:=jg hb;subst e;have:=(hd s rfl).2;rw[hs]at this;cases this
def zFq {P:ab} {o:ak} {a:Act} {w:ae} {K:Act->ae->Prop} {Q:Exit->Act->ae->Prop}
 (h:nk P (ag a.eval o) w λv w'=>K (a.put o.dst v) w'):o.wp P a w K Q:=by
 unfold nk at h;unfold Oper.wp;split at h
 ·rename_i v w' hr;rw[hr];exact h
 ·rename_i w' hr;rw[hr];exact h
 ·rename_i f args w' hr;rw[hr];exact h.mono λe XN ⟨v,he,hk⟩=>by subst he;exact hk
 ·exact h.elim
def zSt {P:ab} {ops:List ak} {n:Nat} {A:Nat->Bool} {e0:Env} {Q:Exit->Act->ae->Prop} {K:Env->ae->Prop}
 (hQ:∀a w,Good n A e0 a->K (yR a) w->Q .normal a w):
 ∀(l:List ak) (a:Act) (w:ae),Jz n A l->Good n A e0 a->P' P ops l (yR a) w K->wpList P ops.toArray Q l a w
 |[],a,w,_,hg,h=>hQ a w hg h
 |o::l,a,w,hf,qn,h=>by
  have yb:=hf o iX;have hf':Jz n A l:=λo' oG=>hf o' (ji _ oG)
  have hg:=lJ h;have nx:∀{v:ac} {w:ae},P' P ops l (put (yR a) o.dst v) w K->wpList P ops.toArray Q l (a.put o.dst v) w:=λ{v w} hh=>
   zSt hQ l _ _ hf' (qn.put yb v) (by rw[qn.mg yb];exact hh)
  unfold wpList;split
  ·rename_i hw;rw[fh hw]at hg;left;refine zFq ?_;have:=yJb hg;rw[vI]at this;unfold nk at this ⊢;split at this
   ·exact nx this
   ·exact nx this
   ·exact this.mono λe XN ⟨v,he,hk⟩=>⟨v,he,nx hk⟩
   ·exact this
  ·rename_i hw;rw[ez hw]at hg;exact nx hg
end Cv
namespace Cv
open Go
def yUq (acc:List Nat) (o:ak):Nat:=
 o.after.toList.foldl (λs e=>bif co .any e then s|||2 ^ e.on|||acc.getD e.on 0 else s) 0
def gP:List ak->List Nat->List Nat
 |[],acc=>acc
 |o::rest,acc=>gP rest (acc++[yUq acc o])
def Bm (bf:List Nat) (i r:Nat):Bool:=(bf.getD i 0).testBit r
def Il (ops:List ak) (L:Nat->Prop):Prop:=∀i o,ops[i]?=az o->L i->∀e∈o.after,co .any e=bu->L e.on
def zXa {ops:List ak} {acc:List Nat} {L:Nat->Prop} (C0:∀k,L k->∀r,(acc.getD k 0).testBit r=bu->L r):
 ∀(l:List Edge) (s:Nat),(∀r,s.testBit r=bu->L r)->(∀e∈l,co .any e=bu->L e.on)->
  ∀r,(l.foldl (λs e=>bif co .any e then s|||2 ^ e.on|||acc.getD e.on 0 else s) s).testBit r=bu->L r
 |[],s,hs,_,r,h=>hs r h
 |e::l,s,hs,hl,r,h=>by
  refine zXa (ops:=ops) C0 l _ ?_ (λe' rl=>hl e' (ji _ rl)) r h;intro r hr;dsimp only at hr;cases hb:co .any e
  ·rw[hb]at hr;exact hs r hr
  ·have X8:=hl e (by simp) hb;rw[hb]at hr;simp only[cond_true,Nat.testBit_or,Nat.testBit_two_pow,Og,tn]at hr;rcases hr with(hr|hr)|hr
   ·exact hs r hr
   ·exact hr▸X8
   ·exact C0 _ X8 r hr
def An {ops:List ak} {L:Nat->Prop} (hc:Il ops L):∀(l:List ak) (acc:List Nat),(∀j,l[j]? =ops[acc.length+j]?)->
 (∀k o,k<acc.length->ops[k]? =az o->(∀e∈o.after,co .any e=bu->L e.on)->∀r,(acc.getD k 0).testBit r=bu->L r)->
 ∀k o,ops[k]? =az o->(∀e∈o.after,co .any e=bu->L e.on)->∀r,((gP l acc).getD k 0).testBit r=bu->L r
 |[],acc,hl,C0,k,o,ho,hd,r,hr=>by
  by_cases hk:k<acc.length
  ·exact C0 k o hk ho hd r hr
  ·exfalso;have:=hl (k-acc.length);rw[show acc.length+(k-acc.length)=k by omega,ho]at this;simp at this
 |o::l,acc,hl,C0,k,o',oG,hd,r,hr=>by
  refine An hc l (acc++[yUq acc o]) ?_ ?_ k o' oG hd r hr
  ·intro j;have:=hl (j+1);simp only[iv,iF,tz];rw[show acc.length+(0+1)+j=acc.length+(j+1)by omega];simpa using this
  ·intro k2 o2 oY OO AA r2 xo;have Uf:∀k,L k->∀r,(acc.getD k 0).testBit r=bu->L r:=by
    intro k3 hL r3 h3;by_cases IM:k3<acc.length
    ·cases ho3:ops[k3]? with
     |none=>
      exfalso;have:=hl 0;simp only[FE]at this;rw[XI]at ho3;have h4:acc.length<ops.length:=by
       rcases uz acc.length ops.length with h|h
       ·exact h
       ·rw[ui h]at this;simp at this
      omega
     |some o3=>exact C0 k3 o3 IM ho3 (hc k3 o3 ho3 hL) r3 h3
    ·simp[mu,ui (Nat.not_lt.1 IM)]at h3
   by_cases hk:k2<acc.length
   ·rw[mu,Eg hk,<- mu]at xo;exact C0 k2 o2 hk OO AA r2 xo
   ·have pk:k2=acc.length:=by simp at oY;omega
    subst pk;rw[mu,Ch (ju _)]at xo;simp only[JW,CG,zt]at xo;have h0:=hl 0;simp only[CG,FE]at h0;rw[OO]at h0;cases h0;exact zXa (ops:=ops) Uf _ 0 (by simp) (λe he hb=>AA e (i9 he) hb) r2 xo
def yAo {ops:List ak} {L:Nat->Prop} (hc:Il ops L) {i:Nat} {o:ak} (ho:ops[i]? =az o) (hd:∀e∈o.after,co .any e=bu->L e.on)
 {r:Nat} (h:Bm (gP ops []) i r=bu):L r:=
 An hc ops [] (by simp) (by simp) i o ho hd r h
@[reducible] def Mon:=Nat×(ae->Prop)
def jZ (bf:List Nat) (i:Nat) (M:List Mon):List Mon:=M.filter λm=> !Bm bf i m.1
def Fv (M:List Mon) (w:ae):Prop:=∀m∈M,m.2 w
def EK (P:ab) (ops:Array ak) (i:Nat) (K:Act->ae->Prop) (a:Act) (w:ae):Prop:=
 match ops[i]? with
 |none=>K a w
 |some o=>if cp o (yielded ops a.tmps)then nk P (ag a.eval o) w (λv w'=>K (a.put o.dst v) w')else K (a.put o.dst ap) w
def nk.mono {P:ab} {s:Sem Next} {w:ae} {K K':ac->ae->Prop} (h:nk P s w K) (hk:∀v w',K v w'->K' v w'):nk P s w K':=by
 unfold nk at*;split at h
 ·exact hk _ _ h
 ·exact hk _ _ h
 ·exact h.mono λe XN ⟨v,he,h⟩=>⟨v,he,hk _ _ h⟩
 ·exact h
def Wd {P:ab} {ops:Array ak} {i:Nat} {K K':Act->ae->Prop} {a:Act} {w:ae} (h:EK P ops i K a w) (hk:∀a w,K a w->K' a w):EK P ops i K' a w:=by
 unfold EK at*;split
 ·rename_i ho;simp only[ho]at h;exact hk _ _ h
 ·rename_i o ho;simp only[ho]at h;split
  ·rename_i hw;rw[fh hw]at h;exact h.mono λv w'=>hk _ _
  ·rename_i hw;rw[ez hw]at h;exact hk _ _ h
def Df (P:ab) (ops:Array ak) (bf:List Nat) (Q:Act->ae->Prop):Nat->List Mon->Array Bool->Act->ae->Prop
 |0,_,fu,a,w=>cm .any ops fu=[]/\Q a w
 |fuel+1,M,fu,a,w=>
  (cm .any ops fu=[]->Q a w)/\
  ∀i∈cm .any ops fu,EK P ops i (λa' w'=>Fv (jZ bf i M) w'/\Df P ops bf Q fuel (jZ bf i M) (fu.setIfInBounds i bu) a' w') a w
def zXs {bf:List Nat} {i:Nat} {M M':List Mon} (h:∀m∈M',m∈M):∀m∈jZ bf i M',m∈jZ bf i M:=by
 intro m hm;simp only[jZ,ug]at hm ⊢;exact⟨h m hm.1,hm.2⟩
def z4p {P:ab} {ops:Array ak} {bf:List Nat} {Q:Act->ae->Prop}:∀(fuel:Nat) {M M':List Mon} (fu:Array Bool) (a:Act) (w:ae),
 (∀m∈M',m∈M)->Df P ops bf Q fuel M fu a w->Df P ops bf Q fuel M' fu a w
 |0,_,_,_,_,_,_,h=>h
 |fuel+1,M,M',fu,a,w,hs,h=>⟨h.1,λi hi=>Wd (h.2 i hi) λa' w' hh=>
   ⟨λm hm=>hh.1 m (zXs hs m hm),z4p fuel _ _ _ (zXs hs) hh.2⟩⟩
def fB {P:ab} {ops:Array ak} {bf:List Nat} {Q:Act->ae->Prop} {Q':Exit->Act->ae->Prop} (hQ:∀a w,Q a w->Q' .normal a w):
 ∀(fuel:Nat) {M:List Mon} (fu:Array Bool) (a:Act) (w:ae),Df P ops bf Q fuel M fu a w->wpAny P .any ops Q' fuel fu a w
 |0,_,_,_,_,h=>⟨h.1,hQ _ _ h.2⟩
 |fuel+1,M,fu,a,w,h=>⟨λh0=>hQ _ _ (h.1 h0),λi hi=>by
   have:=h.2 i hi;unfold EK at this;unfold wpOp;split
   ·rename_i ho;simp only[ho]at this;exact fB hQ fuel _ _ _ this.2
   ·rename_i o ho;simp only[ho]at this;split
    ·rename_i hw;rw[fh hw]at this;exact .inl (zFq (this.mono λv w' hh=>fB hQ fuel _ _ _ hh.2))
    ·rename_i hw;rw[ez hw]at this;exact fB hQ fuel _ _ _ this.2⟩
def lI (P:ab) (ops:Array ak) (o:ak) (v:ac) (a:Act) (w:ae):Prop:=
 (cp o (yielded ops a.tmps)=bu/\(ag a.eval o).run P w=.ok (.value v) w)\/(cp o (yielded ops a.tmps)=bv/\v=ap)
def zXj {P:ab} {ops:Array ak} {i:Nat} {o:ak} {v:ac} {a:Act} {w:ae} {K:Act->ae->Prop} (hi:ops[i]? =az o) (h:lI P ops o v a w) (hk:K (a.put o.dst v) w):EK P ops i K a w:=by
 unfold EK;simp only[hi];rcases h with⟨hw,hr⟩|⟨hw,rfl⟩
 ·rw[fh hw];exact wU hr hk
 ·rw[ez (by rw[hw];simp)];exact hk
def yJz {fu:Array Bool} {i:Nat} (h:fu.getD i bu=bv):i<fu.size:=by
 rcases uz i fu.size with h'|h'
 ·exact h'
 ·simp[CI,HH h']at h
def qV (fu:Array Bool) (i:Nat):Prop:=fu.getD i bv=bu
def zJs {fu:Array Bool} {i j:Nat} (h:qV fu j):qV (fu.setIfInBounds i bu) j:=by
 unfold qV at*;by_cases Kj:i=j
 ·subst Kj;have:i<fu.size:=by
   rcases uz i fu.size with h'|h'
   ·exact h'
   ·simp[CI,HH h']at h
  simp[CI,XM this]
 ·simpa[CI,XL Kj]using h
def zKv {fu:Array Bool} {i j:Nat} (h:qV (fu.setIfInBounds i bu) j):j=i\/qV fu j:=by
 unfold qV at*;by_cases Kj:i=j
 ·exact .inl Kj.symm
 ·right;simpa[CI,XL Kj]using h
def zUs {fu:Array Bool} {i:Nat} (h:fu.getD i bu=bv):¬qV fu i:=by
 unfold qV;have:=yJz h;simp only[CI,RH this]at h ⊢;simp at h ⊢;exact h
def u0 {ops:List ak} {fu:Array Bool} (hc:Il ops (qV fu)) {i:Nat} (hi:i∈cm .any ops.toArray fu):Il ops (qV (fu.setIfInBounds i bu)):=by
 intro j o ho hj e he hb;rcases zKv hj with rfl|hj
 ·obtain⟨_,o',oG,te⟩:=mem_ready.1 hi;simp only[Bc]at oG;rw[ho]at oG;cases oG;exact zJs (te e he hb)
 ·exact zJs (hc j o ho hj e he hb)
def eR (ops:List ak) (bf:List Nat):Bool:=
 Region.noSelect ops.toArray && (dc ops.length).all λi=>(dc i).all λj=>
  match ops[i]?,ops[j]? with
  |some oi,az oj=>Bm bf i j||(oi.apart ops.toArray oj && oj.apart ops.toArray oi)
  |_,_=>bu
def z4j {ops:List ak} {bf:List Nat} (h:eR ops bf=bu) {i j:Nat} {oi oj:ak} (hi:ops[i]? =az oi) (hj:ops[j]? =az oj) (jy:i≠j)
 (h1:Bm bf i j=bv) (h2:Bm bf j i=bv):oi.apart ops.toArray oj=bu:=by
 simp only[eR,lr,Ef,Cd]at h;have lt:∀{k:Nat} {o:ak},ops[k]? =az o->k<ops.length:=λ{k o} hk=>by
  rcases uz k ops.length with h'|h'
  ·exact h'
  ·rw[ui h']at hk;cases hk
 rcases Nat.lt_or_gt_of_ne jy with gu|gu
 ·have:=h.2 j (lt hj) i gu;simp only[hi,hj,h2,LU,lr]at this;exact this.2
 ·have:=h.2 i (lt hi) j gu;simp only[hi,hj,h1,LU,lr]at this;exact this.1
def yUj {P:ab} {ops:Array ak} {o:ak} {v u:ac} {a:Act} {w:ae} {d:Option Tmp} (hs:∀cs b,o.op≠.select cs b) (hd:∀t,d=az t->t∉o.looksAt ops):
 lI P ops o v (a.put d u) w↔lI P ops o v a w:=by
 unfold lI;rw[execOp_put o hs a d u hd,wanted_put o a d u hd]
def yOg {P:ab} {ops:Array ak} {j:Nat} {oi oj:ak} {v:ac} (hj:ops[j]? =az oj) (Kl:oi.apart ops oj=bu) (hsj:∀cs b,oj.op≠.select cs b)
 {K:Act->ae->Prop} {a:Act} {w:ae} (h:EK P ops j K (a.put oi.dst v) w):
 EK P ops j (λa' w'=>(∃u,a'=a.put oj.dst u)/\K (a'.put oi.dst v) w') a w:=by
 obtain⟨h1,h2,h3⟩:=Oper.apart_spec Kl;unfold EK at*;simp only[hj]at*;rw[wanted_put oj a oi.dst v h1]at h;split
 ·rename_i hw;rw[fh hw]at h;rw[execOp_put oj hsj a oi.dst v h1]at h;refine h.mono λu w' hk=>⟨⟨u,rfl⟩,?_⟩
  rw[<- Act.put_comm a v u h2];exact hk
 ·rename_i hw;rw[ez hw]at h;exact⟨⟨_,rfl⟩,by rw[<- Act.put_comm a v ap h2];exact h⟩
def fQ {P:ab} {ops:List ak} {Q:Act->ae->Prop} (oX:eR ops (gP ops [])=bu) {r:Nat} {o:ak} {v:ac} (hr:ops[r]? =az o):
 ∀(fuel:Nat) (M:List Mon) (fu:Array Bool) (a:Act) (w:ae),Il ops (qV fu)->r∈cm .any ops.toArray fu->
  lI P ops.toArray o v a w->Fv M w->
  Df P ops.toArray (gP ops []) Q fuel ((r,λw=>lI P ops.toArray o v a w)::M) (fu.setIfInBounds r bu) (a.put o.dst v) w->
  Df P ops.toArray (gP ops []) Q (fuel+1) M fu a w:=by
 have hns:∀(i:Nat) (o:ak),ops[i]? =az o->∀cs b,o.op≠.select cs b:=by
  intro i o hi cs b;simp only[eR,lr]at oX;exact Region.noSelect_spec oX.1 i o cs b (i9 hi)
 intro fuel
 induction fuel with
 |zero=>
  intro M fu a w hc Ma hs hM H;refine⟨λh=>(by rw[h]at Ma;cases Ma),λi hi=> ?_⟩;by_cases Ki:i=r
  ·subst Ki;refine zXj (i9 hr) hs ⟨λm hm=>hM m (by simp only[jZ,ug]at hm;exact hm.1),?_⟩;exact H
  ·have:=ready_mono hi Ki;rw[H.1]at this;cases this
 |succ fuel ih=>
  intro M fu a w hc Ma hs hM H;refine⟨λh=>(by rw[h]at Ma;cases Ma),λi hi=> ?_⟩;by_cases Ki:i=r
  ·subst Ki;refine zXj (i9 hr) hs ⟨λm hm=>hM m (by simp only[jZ,ug]at hm;exact hm.1),?_⟩;refine z4p _ _ _ _ ?_ H;intro m hm;simp only[jZ,ug]at hm;exact ji _ hm.1
  ·have h1:=H.2 i (ready_mono hi Ki);obtain⟨aaL,oi,Se,te⟩:=mem_ready.1 hi;obtain⟨jr,o',oG,Ua⟩:=mem_ready.1 Ma;simp only[Bc]at Se oG;rw[hr]at oG;cases oG;have hL:∀(k:Nat) (ok:ak),ops[k]? =az ok->(∀e∈ok.after,co .any e=bu->fu.getD e.on bv=bu)->∀q,Bm (gP ops []) k q=bu->qV fu q:=
    λk ok hk hd q hq=>yAo hc hk hd hq
   have nri:Bm (gP ops []) i r=bv:=by
    cases hb:Bm (gP ops []) i r with
    |false=>rfl
    |true=>exact absurd (hL i oi Se te r hb) (zUs jr)
   have nir:Bm (gP ops []) r i=bv:=by
    cases hb:Bm (gP ops []) r i with
    |false=>rfl
    |true=>exact absurd (hL r o hr Ua i hb) (zUs aaL)
   have Kl:=z4j oX hr Se (Ne.symm Ki) nir nri;have h2:=yOg (i9 Se) Kl (hns i oi Se) h1;have aaS:=(Oper.apart_spec Kl).2.2;have Uh:jZ (gP ops []) i ((r,λw=>lI P ops.toArray o v a w)::M)=(r,λw=>lI P ops.toArray o v a w)::jZ (gP ops []) i M:=by
    simp[jZ,nri]
   refine Wd h2 λa' w' hh=> ?_
   obtain⟨⟨u,rfl⟩,hA,hB⟩:=hh;rw[Uh]at hA hB;have iP:∀w,lI P ops.toArray o v (a.put oi.dst u) w↔lI P ops.toArray o v a w:=λw=>yUj (hns r o hr) aaS
   refine⟨λm hm=>hA m (ji _ hm),?_⟩;have aaO:(λw=>lI P ops.toArray o v a w)=λw=>lI P ops.toArray o v (a.put oi.dst u) w:=by
    funext w;exact propext (iP w).symm
   rw[aaO]at hA hB;refine ih _ _ _ _ (u0 hc hi) (ready_mono Ma (Ne.symm Ki)) (hA _ iX) (λm hm=>hA m (ji _ hm)) ?_;rw[Array.setIfInBounds_comm _ _ Ki];exact hB
end Cv
namespace Cv
open Go
def ES (P:ab) (o:ak) (ρ:Env) (v:ac) (w:ae):Prop:=
 match o.op with
 | .load t x=>
   match ev ρ x with
   | .pointer p=>JQ p λa=>pY P t a w v
   |_=>False
 | .lookup t m k ok=>bN P (cr t (ev ρ m) (ev ρ k) ok) w v
 | .convert s d x=>bN P (ay s d (ev ρ x)) w v
 | .binOp op t x y _=>bN P (do am op t x y (ev ρ x) (ev ρ y);binOp op t (ev ρ x) (ev ρ y)) w v
 | .call {callee:= .builtin .len,args,argTypes}=>bN P (cf argTypes o.type (args.map (ev ρ))) w v
 | .entry x=>bN P (Instr.entry (ev ρ x)) w v
 |_=>False
def yLy {P:ab} {o:ak} {ρ:Env} {v:ac} {w:ae} (h:ES P o ρ v w):(ag (ev ρ) o).run P w= .ok (.value v) w:=by
 unfold ES at h;split at h
 ·rename_i t x ho;split at h
  ·rename_i p hx;obtain⟨a,rfl,h⟩:=sD h;simp only[ag,ho,hx];exact yJ h
  ·exact h.elim
 ·rename_i t m k ok ho;simp only[ag,ho];exact yJ h
 ·rename_i s d x ho;simp only[ag,ho];exact yJ h
 ·rename_i op t x y u ho;simp only[ag,ho];exact yJ h
 ·rename_i args argTypes ho;simp only[ag,ho];exact yJ h
 ·rename_i x ho;simp only[ag,ho];exact yJ h
 ·exact h.elim
def yAl {P:ab} {ρ:Env} {o:ak} {w:ae} {K:ac->Prop} (h:AZ P o ρ w K):∃v,K v/\ES P o ρ v w:=by
 cases ho:o.op
 case load t x=>
  simp only[AZ,ho]at h;split at h
  ·rename_i p hx;obtain⟨a,rfl,h⟩:=sD h;obtain⟨v,hv,h⟩:=uA h;refine⟨v,h,?_⟩;simp only[ES,ho,hx];exact hv
  ·exact h.elim
 case lookup t m k ok=>
  simp only[AZ,ho]at h;split at h
  ·rename_i e he;obtain⟨v,h⟩:=uA h;obtain⟨b,hb,h⟩:=wZ h;refine⟨_,h,?_⟩;simp only[ES,ho];cases ok
   ·exact zOy hb
   ·exact hb
  ·exact h.elim
 case convert s d x=>
  simp only[AZ,ho]at h;obtain⟨v,hv,h⟩:=uA h;refine⟨v,h,?_⟩;simp only[ES,ho];exact hv
 case binOp op t x y u=>
  simp only[AZ,ho]at h;split at h
  ·obtain⟨v,h1,h2,h⟩:=wZ h;refine⟨v,h,?_⟩;simp only[ES,ho,bN,bind,run_bind,h2];exact h1
  ·obtain⟨v,h1,h2,h⟩:=wZ h;refine⟨v,h,?_⟩;simp only[ES,ho,bN,bind,run_bind,h2];exact h1
  ·exact h.elim
 case call c=>
  simp only[AZ,ho]at h;split at h<;>first|exact h.elim|skip
  all_goals first|(exfalso;rename_i hh;cases hh;done)|skip
  rename_i args argTypes hh;cases hh;obtain⟨v,hv,h⟩:=wZ h;refine⟨v,h,?_⟩;simp only[ES,ho];exact hv
 case entry x=>
  simp only[AZ,ho]at h;obtain⟨v,hv,h⟩:=h;refine⟨v,h,?_⟩;simp only[ES,ho];exact hv
 all_goals(simp only[AZ,ho]at h)
def z8u:List Mon->ae->Prop->Prop
 |[],_,X=>X
 |m::ms,w,X=>m.2 w/\z8u ms w X
def zRj:∀{M:List Mon} {w:ae} {X:Prop},z8u M w X->Fv M w/\X
 |[],_,_,h=>⟨λm hm=>(by cases hm),h⟩
 |m::ms,w,X,h=>by
  obtain⟨h1,h2⟩:=h;obtain⟨h3,h4⟩:=zRj h2;refine⟨λm' hm=> ?_,h4⟩;rcases jx.1 hm with rfl|hm
  ·exact h1
  ·exact h3 _ hm
def W8:List Nat->(Nat->Prop)->Prop
 |[],_=>True
 |[e],f=>f e
 |e::es,f=>f e/\W8 es f
def Zr:∀{l:List Nat} {f:Nat->Prop},W8 l f->∀i∈l,f i
 |[],_,_,i,hi=>by cases hi
 |[e],f,h,i,hi=>by rcases ua.1 hi with rfl;exact h
 |e::e'::es,f,h,i,hi=>by
  rcases jx.1 hi with rfl|hi
  ·exact h.1
  ·exact Zr h.2 i hi
def yYg (P:ab) (ops:List ak) (i:Nat):Bool:=
 match ops[i]? with
 |some o=>match UG P o.op with
  |2=>bv
  |_=>bu
 |none=>bu
def Hy (P:ab) (ops:List ak) (bf:List Nat):Nat->Array Bool->List Mon->Env->ae->(Env->ae->Prop)->Prop
 |0,fu,_,ρ,w,K=>
  match cm .any ops.toArray fu with
  |[]=>K ρ w
  |_=>False
 |fuel+1,fu,M,ρ,w,K=>
  match cm .any ops.toArray fu with
  |[]=>K ρ w
  |r::rs=>
   match(r::rs).find? (yYg P ops)with
   |some i=>
    match ops[i]? with
    |none=>False
    |some o=>Po ops o.guard ρ
      (λρ'=>match UG P o.op with
        |0=>bR P o ρ' λv=>Hy P ops bf fuel (fu.setIfInBounds i bu) M (put ρ' o.dst v) w K
        |_=>AZ P o ρ' w λv=>Hy P ops bf fuel (fu.setIfInBounds i bu) ((i,ES P o ρ' v)::M) (put ρ' o.dst v) w K)
      (λρ'=>Hy P ops bf fuel (fu.setIfInBounds i bu) M (put ρ' o.dst ap) w K)
   |none=>W8 (r::rs) λi=>
    match ops[i]? with
    |none=>False
    |some o=>Po ops o.guard ρ
      (λρ'=>cI P o ρ' w λv w'=>z8u (jZ bf i M) w' (Hy P ops bf fuel (fu.setIfInBounds i bu) (jZ bf i M) (put ρ' o.dst v) w' K))
      (λρ'=>Hy P ops bf fuel (fu.setIfInBounds i bu) (jZ bf i M) (put ρ' o.dst ap) w K)
def m5 {n:Nat} {A:Nat->Bool} {l:List ak} (h:Jz n A l) {i:Nat} {o:ak} (ho:l[i]? =az o):∀d,o.dst=az d->d<n/\A d=bu:=
 h o (lh ho)
def m3 {P:ab} {ops:Array ak} {bf:List Nat} {Q:Act->ae->Prop} {i:Nat} {f:ae->Prop} (hf:∀w,f w):
 ∀(fuel:Nat) {M:List Mon} (fu:Array Bool) (a:Act) (w:ae),Df P ops bf Q fuel M fu a w->Df P ops bf Q fuel ((i,f)::M) fu a w
 |0,_,_,_,_,h=>h
 |fuel+1,M,fu,a,w,h=>⟨h.1,λj hj=>Wd (h.2 j hj) λa' w' hh=>by
   have hk:jZ bf j ((i,f)::M)=if Bm bf j i then jZ bf j M else(i,f)::jZ bf j M:=by
    simp only[jZ,Dm];cases Bm bf j i<;>simp
   rw[hk];cases Bm bf j i
   ·refine⟨λm hm=> ?_,m3 hf fuel _ _ _ hh.2⟩;simp only[oR,if_false,jx]at hm;rcases hm with rfl|hm
    ·exact hf w'
    ·exact hh.1 m hm
   ·exact hh⟩
def z5g {P:ab} {ops:Array ak} {bf:List Nat} {Q:Act->ae->Prop} {i:Nat} {f g:ae->Prop} (hfg:∀w,f w->g w):
 ∀(fuel:Nat) {M:List Mon} (fu:Array Bool) (a:Act) (w:ae),Df P ops bf Q fuel ((i,f)::M) fu a w->Df P ops bf Q fuel ((i,g)::M) fu a w
 |0,_,_,_,_,h=>h
 |fuel+1,M,fu,a,w,h=>⟨h.1,λj hj=>Wd (h.2 j hj) λa' w' hh=>by
   have hk:∀f:ae->Prop,jZ bf j ((i,f)::M)=if Bm bf j i then jZ bf j M else(i,f)::jZ bf j M:=by
    intro f;simp only[jZ,Dm];cases Bm bf j i<;>simp
   rw[hk]at hh ⊢;cases hb:Bm bf j i
   ·rw[hb]at hh;simp only[oR,if_false]at hh ⊢;refine⟨λm hm=> ?_,z5g hfg fuel _ _ _ hh.2⟩;rcases jx.1 hm with rfl|hm
    ·exact hfg w' (hh.1 _ iX)
    ·exact hh.1 m (ji _ hm)
   ·rw[hb]at hh;exact hh⟩
def yCa {P:ab} {ops:List ak} {n:Nat} {A:Nat->Bool} {e0:Env} {K:Env->ae->Prop} {Q:Act->ae->Prop} (oX:eR ops (gP ops [])=bu) (hf:Jz n A ops)
 (hQ:∀a w,Good n A e0 a->K (yR a) w->Q a w):
 ∀(fuel:Nat) (fu:Array Bool) (M:List Mon) (a:Act) (w:ae),Il ops (qV fu)->Fv M w->Good n A e0 a->
  Hy P ops (gP ops []) fuel fu M (yR a) w K->Df P ops.toArray (gP ops []) Q fuel M fu a w:=by
 intro fuel
 induction fuel with
 |zero=>
  intro fu M a w hc hM qn h;unfold Hy at h;split at h
  ·rename_i hr;exact⟨hr,hQ a w qn h⟩
  ·exact h.elim
 |succ fuel ih=>
  intro fu M a w hc hM qn h;unfold Hy at h;split at h
  ·rename_i hr;exact⟨λ_=>hQ a w qn h,λi hi=>by rw[hr]at hi;cases hi⟩
  ·rename_i r rs hr;have jy:cm .any ops.toArray fu≠[]:=by rw[hr];simp
   split at h
   ·rename_i i Gj;have hi:i∈cm .any ops.toArray fu:=by rw[hr];exact List.mem_of_find?_eq_some Gj
    split at h<;>first|exact h.elim|skip
    rename_i o ho;have zj:∀v,yR (a.put o.dst v)=put (yR a) o.dst v:=λv=>qn.mg (m5 hf ho) v
    have hg:=lJ h;have nx:∀{M:List Mon} {v:ac},Fv M w->Hy P ops (gP ops []) fuel (fu.setIfInBounds i bu) M (put (yR a) o.dst v) w K->
     Df P ops.toArray (gP ops []) Q fuel M (fu.setIfInBounds i bu) (a.put o.dst v) w:=λ{M v} hM hh=>
     ih _ _ _ _ (u0 hc hi) hM (qn.put (m5 hf ho) _) (by rw[zj];exact hh)
    by_cases hw:cp o (yielded ops.toArray a.tmps)=bu
    ·rw[fh hw]at hg;split at hg
     ·obtain⟨v,hk,uv⟩:=fX hg;rw[vI]at uv;have hs:∀w,lI P ops.toArray o v a w:=λw=> .inl ⟨hw,uv w⟩
      exact fQ oX ho fuel M fu a w hc hi (hs w) hM (m3 hs fuel _ _ _ (nx hM hk))
     ·obtain⟨v,hk,lp⟩:=yAl hg;have hw':∀w,ES P o (yR a) v w->lI P ops.toArray o v a w:=λw lp=> .inl ⟨hw,by rw[<- vI];exact yLy lp⟩
      refine fQ oX ho fuel M fu a w hc hi (hw' w lp) hM (z5g hw' fuel _ _ _ (nx ?_ hk));intro m hm;rcases jx.1 hm with rfl|hm
      ·exact lp
      ·exact hM m hm
    ·rw[ez hw]at hg;have hs:∀w,lI P ops.toArray o ap a w:=λw=> .inr ⟨i9 hw,rfl⟩
     exact fQ oX ho fuel M fu a w hc hi (hs w) hM (m3 hs fuel _ _ _ (nx hM hg))
   ·refine⟨λh0=>absurd h0 jy,λi hi=> ?_⟩;have h1:=Zr h i (by rw[<- hr];exact hi);split at h1<;>first|exact h1.elim|skip
    rename_i o ho;have zj:∀v,yR (a.put o.dst v)=put (yR a) o.dst v:=λv=>qn.mg (m5 hf ho) v
    have hg:=lJ h1;unfold EK;simp only[Bc,ho];by_cases hw:cp o (yielded ops.toArray a.tmps)=bu
    ·rw[fh hw]at hg ⊢;have BZ:=zXb hg;rw[vI]at BZ;refine BZ.mono λv w' hh=> ?_
     obtain⟨Dy,hh⟩:=zRj hh;exact⟨Dy,ih _ _ _ _ (u0 hc hi) Dy (qn.put (m5 hf ho) _) (by rw[zj];exact hh)⟩
    ·rw[ez hw]at hg ⊢;have Dy:Fv (jZ (gP ops []) i M) w:=λm hm=>hM m (by simp only[jZ,ug]at hm;exact hm.1)
     exact⟨Dy,ih _ _ _ _ (u0 hc hi) Dy (qn.put (m5 hf ho) _) (by rw[zj];exact hg)⟩
end Cv
namespace Cv
open Go
structure Rs where
 ι:Type
 SK:ι->List (Nat×ac)
 fix:List Nat
def JS:List (Nat×ac)->Env->Prop
 |[],_=>True
 |[p],ρ=>ρ p.1=p.2
 |p::l,ρ=>ρ p.1=p.2/\JS l ρ
def EI {p:Nat×ac} {l:List (Nat×ac)} {ρ:Env}:JS (p::l) ρ↔ρ p.1=p.2/\JS l ρ:=by
 cases l<;>simp[JS]
def Xo:List (Nat×ac)->Env->Env
 |[],ρ=>ρ
 |p::l,ρ=>put (Xo l ρ) (az p.1) p.2
def zWc:∀{l:List (Nat×ac)} {ρ:Env},JS l ρ->Xo l ρ=ρ
 |[],_,_=>rfl
 |p::l,ρ,h=>by
  have h:=EI.1 h;simp only[Xo];rw[zWc h.2];exact z4n h.1
def rH (s:Nat):List Nat->Bool
 |[]=>bv
 |x::l=>bif cx s x then bu else rH s l
def sc {s:Nat}:∀{l:List Nat},rH s l=bu↔s∈l
 |[]=>by simp[rH]
 |x::l=>by
  simp only[rH];cases hb:cx s x
  ·have jy:s≠x:=λe=>by subst e;simp at hb
   simp[sc,jy]
  ·have:=jg hb;simp[this]
def ySk (fix:List Nat) (ρ j:Env):Env:=λs=>bif rH s fix then ρ s else j s
def yAd {fix:List Nat} {ρ j:Env} (h:∀s∈fix,j s=ρ s):ySk fix ρ j=j:=by
 funext s;simp only[ySk];cases hb:rH s fix
 ·rfl
 ·exact(h s (sc.1 hb)).symm
def um:Code->List Nat
 | .region _ ops _=>ops.toList.filterMap (·.dst)
 | .seq a b=>um a++um b
 | .cond _ a b=>um a++um b
 | .block _ a=>um a
 | .loop a=>um a
 |_=>[]
def nL:Code->Nat
 | .seq a b=>nL a+nL b
 | .cond _ a b=>nL a+nL b
 | .block _ a=>nL a
 | .loop a=>nL a+1
 |_=>0
def y1o (next:Env->ae->Prop) (Q:Exit->Env->ae->Prop):Exit->Env->ae->Prop
 | .normal,ρ,w=>next ρ w
 |e,ρ,w=>Q e ρ w
def yUd (id:Nat) (Q:Exit->Env->ae->Prop):Exit->Env->ae->Prop
 | .exit FO,ρ,w=>bif cx FO id then Q .normal ρ w else Q (.exit FO) ρ w
 |e,ρ,w=>Q e ρ w
def dp (t:Bool) (A B:Prop):Prop:=
 match t with
 |true=>A
 |false=>B
def dp.mk {t:Bool} {A B:Prop} (h1:t=bu->A) (h2:t=bv->B):dp t A B:=by
 cases t
 ·exact h2 rfl
 ·exact h1 rfl
def Xl (w:ae) (K:ae->Prop):Prop:=∀w',w'=w.drew->K w'
def Fk (P:ab):List Rs->Code->(Exit->Env->ae->Prop)->Env->ae->Prop
 |_,.skip,Q,ρ,w=>Q .normal ρ w
 |an,.seq a b,Q,ρ,w=>Fk P (an.take (nL a)) a (y1o (λρ w=>Fk P (an.drop (nL a)) b Q ρ w) Q) ρ w
 |an,.cond c a b,Q,ρ,w=>
  match ev ρ c with
  | .bool t=>dp t (Fk P (an.take (nL a)) a Q ρ w) (Fk P (an.drop (nL a)) b Q ρ w)
  |_=>False
 |an,.block id a,Q,ρ,w=>Fk P an a (yUd id Q) ρ w
 |an,.loop a,Q,ρ,w=>
  match an with
  |[]=>False
  |x::rest=>∃(I:x.ι->ae->Prop) (μ:x.ι->ae->Nat),(∃i0,JS (x.SK i0) ρ/\I i0 w)/\
    ∀(j:Env) (i:x.ι) (w1:ae),I i w1->Fk P rest a (y1o (λρ' w'=>∃i',JS (x.SK i') ρ'/\I i' w'/\μ i' w'<μ i w1) Q) (Xo (x.SK i) (ySk x.fix ρ j)) w1
 |_,.exit id,Q,ρ,w=>Q (.exit id) ρ w
 |_,.ret,Q,ρ,w=>Q .ret ρ w
 |_,.region _ ops d,Q,ρ,w=>bif d then Xl w λw=>Hy P ops.toList (gP ops.toList []) ops.toList.length (de ops.toList.length bv) [] ρ w (Q .normal)
    else P' P ops.toList ops.toList ρ w (Q .normal)
 |_,_,_,_,_=>False
def xl (n:Nat):Code->Bool
 | .region _ ops d=>(ops.toList.all λo=>match o.dst with|none=>bu|some d=>cy d n) && (bif d then eR ops.toList (gP ops.toList [])else bu)
 | .seq a b=>xl n a && xl n b
 | .cond _ a b=>xl n a && xl n b
 | .block _ a=>xl n a
 | .loop a=>xl n a
 |_=>bu
def okF:List Rs->Code->Bool
 |an,.seq a b=>okF (an.take (nL a)) a && okF (an.drop (nL a)) b
 |an,.cond _ a b=>okF (an.take (nL a)) a && okF (an.drop (nL a)) b
 |an,.block _ a=>okF an a
 |an,.loop a=>match an with
  |[]=>bv
  |x::rest=>(x.fix.all λs=> !rH s (um a)) && okF rest a
 |_,_=>bu
def z4b {n:Nat} {A:Nat->Bool} {ops:List ak} (h:(ops.all λo=>match o.dst with|none=>bu|some d=>cy d n)=bu) (hA:∀s∈ops.filterMap (·.dst),A s=bu):Jz n A ops:=by
 intro o ho d hd;have:=Ef.1 h o ho;rw[hd]at this;exact⟨by simpa[yk]using this,hA d (Om.2 ⟨o,ho,hd⟩)⟩
def Xg (n:Nat) (A:Nat->Bool) (e0:Env) (Q:Exit->Env->ae->Prop):Exit->Act->ae->Prop:=λe a w=>Good n A e0 a/\Q e (yR a) w
def yLv {P:ab} (hm:P.follows .mixedOrders=bu) {n:Nat}:∀(c:Code) (an:List Rs) (Q:Exit->Env->ae->Prop) (A:Nat->Bool) (e0:Env) (a:Act) (w:ae),
 xl n c=bu->okF an c=bu->(∀s∈um c,A s=bu)->Good n A e0 a->Fk P an c Q (yR a) w->c.wp P (Xg n A e0 Q) a w:=by
 intro c
 induction c with
 |skip=>intro an Q A e0 a w _ _ _ hg h;exact wp_skip ⟨hg,h⟩
 |region id ops d=>
  intro an Q A e0 a w hc _ hA hg h;simp only[xl,lr]at hc;have yb:=z4b (A:=A) hc.1 hA;cases d
  ·refine wp_region_list ?_;exact zSt (Q:=Xg n A e0 Q) (K:=Q .normal) (λa w hg h=>⟨hg,h⟩) ops.toList a w yb hg h
  ·refine wp_region_any hm ?_;have h':=h _ rfl;have oX:eR ops.toList (gP ops.toList [])=bu:=hc.2;refine fB (Q:=λa w=>Xg n A e0 Q .normal a w) (λ_ _ h=>h) ops.size _ _ _ (M:=[]) (bf:=gP ops.toList []) ?_;have AY:Il ops.toList (qV (de ops.toList.length bv)):=by
    intro i o ho hi;exfalso;unfold qV at hi;simp[CI]at hi;rw[XH]at hi;split at hi<;>simp at hi
   have:=yCa (P:=P) (K:=Q .normal) (Q:=λa w=>Xg n A e0 Q .normal a w) oX yb (λa w hg h=>⟨hg,h⟩) ops.toList.length _ [] a _ AY (λm hm=>by cases hm) hg h';simpa using this
 |seq x y E7 EZ=>
  intro an Q A e0 a w hc hf hA hg h;simp only[xl,okF,lr,um,oK]at hc hf hA;refine wp_seq (ax (E7 _ _ A e0 a w hc.1 hf.1 (λs hs=>hA s (.inl hs)) hg h) ?_);rintro e a' w' ⟨qh,h'⟩;cases e<;>first|exact EZ _ _ A e0 a' w' hc.2 hf.2 (λs hs=>hA s (.inr hs)) qh h'|exact⟨qh,h'⟩
 |cond c x y E7 EZ=>
  intro an Q A e0 a w hc hf hA hg h;simp only[xl,okF,lr,um,oK]at hc hf hA;simp only[Fk]at h;rw[vI]at h;split at h
  ·rename_i t ht;refine wp_cond_split ht (λe=> ?_) (λe=> ?_)
   ·subst e;exact E7 _ _ A e0 a w hc.1 hf.1 (λs hs=>hA s (.inl hs)) hg h
   ·subst e;exact EZ _ _ A e0 a w hc.2 hf.2 (λs hs=>hA s (.inr hs)) hg h
  ·exact h.elim
 |block id x ih=>
  intro an Q A e0 a w hc hf hA hg h;refine wp_block (ax (ih an _ A e0 a w hc hf hA hg h) ?_);rintro e a' w' ⟨qh,h'⟩;cases e<;>first|exact⟨qh,h'⟩|skip
  rename_i FO;simp only[Exit.inBlock];simp only[yUd]at h';split
  ·rename_i heq;subst heq;rw[Nat.beq_refl]at h';exact⟨qh,h'⟩
  ·rename_i jy;have hb:cx FO id=bv:=by
    cases hb:cx FO id with
    |false=>rfl
    |true=>exact absurd (jg hb) jy
   rw[hb]at h';exact⟨qh,h'⟩
 |loop x ih=>
  intro an Q A e0 a w hc hf hA hg h;cases an with
  |nil=>exact h.elim
  |cons an rest=>
   simp only[okF,lr]at hf;obtain⟨I,μ,⟨i0,X2,hi0⟩,tx⟩:=h;refine wp_loop_ghost (λm a' w'=>Good n A e0 a'/\(∀s∈an.fix,yR a' s=yR a s)/\∃i,JS (an.SK i) (yR a')/\I i w'/\μ i w'=m) (μ i0 w) ⟨hg,λ_ _=>rfl,i0,X2,hi0,rfl⟩ ?_;rintro m a' w' ⟨qh,ED,i,aaC,hI,rfl⟩;have h1:=tx (yR a') i w' hI;rw[yAd ED,zWc aaC]at h1;have Sr:Good n (λs=>A s && rH s (um x)) (yR a') a':=⟨qh.size,qh.defers,λ_ _=>rfl⟩
   refine ax (ih rest _ (λs=>A s && rH s (um x)) (yR a') a' w' hc hf.2 (λs hs=>by rw[hA s hs,sc.2 hs];rfl) Sr h1) ?_;rintro e a2 w2 ⟨Az,h2⟩;have Kk:Good n A e0 a2:=⟨Az.size,Az.defers,λs hs=>by rw[Az.same s (by simp[hs]),qh.same s hs]⟩
   cases e<;>first|exact⟨Kk,h2⟩|skip
   obtain⟨i',iP,hI',gu⟩:=h2;refine⟨_,gu,Kk,λs hs=> ?_,i',iP,hI',rfl⟩;have:=Ef.1 hf.1 s hs;rw[Az.same s (by simp at this;simp[this]),ED s hs]
 |exit id=>intro an Q A e0 a w _ _ _ hg h;exact wp_exit ⟨hg,h⟩
 |ret=>intro an Q A e0 a w _ _ _ hg h;exact wp_ret ⟨hg,h⟩
 |rangeFunc f ps x y E7 EZ=>intro an Q A e0 a w _ _ _ hg h;exact h.elim
 |scope x ih=>intro an Q A e0 a w _ _ _ hg h;exact h.elim
 |label l=>intro an Q A e0 a w _ _ _ hg h;exact h.elim
 |goto l=>intro an Q A e0 a w _ _ _ hg h;exact h.elim
 |refuse s=>intro an Q A e0 a w _ _ _ hg h;exact h.elim
end Cv
namespace Cv
open Go
def bs (l:List Nat):ByteArray:=⟨(l.map Nat.toUInt8).toArray⟩
def LO (P:ab):List ResultVar->Env->ae->(List ac->Prop)->Prop
 |[],_,_,K=>K []
 | .tmp t::rs,ρ,w,K=>LO P rs ρ w λvs=>K (ρ t::vs)
 | .cell a t::rs,ρ,w,K=>
   match ρ a with
   | .pointer p=>JQ p λad=>Fj P t λv=>pY P t ad w v/\LO P rs ρ w λvs=>K (v::vs)
   |_=>False
def Ij:List ac->ac
 |[v]=>v
 |vs=> .tuple vs.toArray
def WS (P:ab) (fn:Func) (R:Ending->ae->Prop):Exit->Env->ae->Prop
 | .normal,ρ,w=>LO P fn.results.toList ρ w λvs=>R (.returned (Ij vs)) w
 | .ret,ρ,w=>LO P fn.results.toList ρ w λvs=>R (.returned (Ij vs)) w
 |_,_,_=>False
def gF (args:List ac):Env:=λi=>args.getD i ap
def It (tmps:Array ac):ResultVar->Sem ac
 | .tmp t=>pure (tmps.getD t ap)
 | .cell a t=>(asAddr (tmps.getD a ap)).bind λad=>loadVar t ad
def ZJ {P:ab} {tmps:Array ac} {w:ae}:∀{rs:List ResultVar} {K:List ac->Prop},LO P rs (λi=>tmps.getD i ap) w K->
 ∃vs,(rs.mapM (It tmps)).run P w= .ok vs w/\K vs
 |[],K,h=>⟨[],rfl,h⟩
 | .tmp t::rs,K,h=>by
   obtain⟨vs,h1,h3⟩:=ZJ (rs:=rs) h;refine⟨_::vs,?_,h3⟩;simp only[dd,It,bind,pure,run_bind,bg,be]at h1 ⊢;rw[h1]
 | .cell a t::rs,K,h=>by
   simp only[LO]at h;split at h
   ·rename_i p hp;obtain⟨ad,rfl,h⟩:=sD h;obtain⟨v,hv,h⟩:=uA h;obtain⟨vs,h1,h3⟩:=ZJ (rs:=rs) h;refine⟨v::vs,?_,h3⟩;simp only[dd,It,bind,pure,run_bind,bg,be,hp,asAddr]at h1 ⊢;rw[hv];simp only[h1]
   ·exact h.elim
def zOx {P:ab} {tmps:Array ac} {w:ae} {vs:List ac} {rs:List ResultVar} (h:(rs.mapM (It tmps)).run P w= .ok vs w) (F:ResultVar->Sem ac) (hF:∀r,F r=It tmps r):
 ((rs.mapM F).bind λvs=>bo (if h:vs.toArray.size=1 then vs.toArray[0]else .tuple vs.toArray)).run P w= .ok (Ij vs) w:=by
 obtain rfl:F=It tmps:=funext hF;rw[run_bind,h];simp only[be];cases vs with
 |nil=>rfl
 |cons v vs=>
  cases vs with
  |nil=>rfl
  |cons u us=>simp[Ij]
def zOv {P:ab} {fn:Func} {tmps:Array ac} {w:ae} {K:ac->Prop} (h:LO P fn.results.toList (λi=>tmps.getD i ap) w λvs=>K (Ij vs)):
 ∃v,(results fn tmps).run P w= .ok v w/\K v:=by
 obtain⟨vs,h1,h3⟩:=ZJ h;refine⟨Ij vs,?_,h3⟩;unfold results;rw[Array.mapM_eq_mapM_toList,map_eq_pure_bind,bind_assoc];exact zOx h1 _ (λr=>by cases r<;>rfl)
def ux {P:ab} {f:aw} {fn:Func} {c:Code} {args:List ac} {w:ae} {R:Ending->ae->Prop} (hm:P.follows .mixedOrders=bu)
 (hf:P.funcs[f]? =az fn) (hb:fn.body=az c) (an:List Rs) (oX:xl fn.ntmps c=bu) (Mf:okF an c=bu) (aaA:cz args.length fn.ntmps=bu)
 (h:Fk P an c (WS P fn R) (gF args) w):Calls P f args.toArray w R:=by
 have pg:=Cg aaA;refine calls_of_wp hf hb ?_;have hg:Good fn.ntmps (λ_=>bu) (gF args) {tmps:=args.toArray++de (fn.ntmps-args.toArray.size) ap,defers:=[]}:=
  ⟨by simp;omega,rfl,λs hs=>by cases hs⟩
 have MJ:yR {tmps:=args.toArray++de (fn.ntmps-args.toArray.size) ap,defers:=[]}=gF args:=by
  funext i;simp only[yR,gF,CI,mu,Array.getElem?_append];split
  ·simp
  ·rename_i gu;simp at gu;rw[ui gu,XH];split<;>rfl
 refine ax (yLv hm c an _ (λ_=>bu) (gF args) _ w oX Mf (λ_ _=>rfl) hg (MJ▸h)) ?_;rintro e a' w' ⟨qh,h'⟩;cases e<;>first|exact h'.elim|skip
 ·obtain⟨v,hv,hk⟩:=zOv (K:=λv=>R (.returned v) w') h';exact⟨qh.defers,v,hv,hk⟩
 ·obtain⟨v,hv,hk⟩:=zOv (K:=λv=>R (.returned v) w') h';exact⟨qh.defers,v,hv,hk⟩
def zOi {P:ab} {f:aw} {fn:Func} {c:Code} {args:List ac} {w:ae} {R:Ending->ae->Prop} {V:Prop} (hm:P.follows .mixedOrders=bu)
 (hf:P.funcs[f]? =az fn) (hb:fn.body=az c) (an:List Rs) (oX:xl fn.ntmps c=bu) (Mf:okF an c=bu) (pg:cz args.length fn.ntmps=bu)
 (e:V=Fk P an c (WS P fn R) (gF args) w) (h:V):Calls P f args.toArray w R:=
 ux hm hf hb an oX Mf pg (e▸h)
end Cv
namespace Cv
open Go Go.RowKit
@[reducible] def PH:=Nat->Option Obj
@[reducible] def HP:=PH->Prop
def pe:PH:=λ_=>ba
def one (b:Nat) (o:Obj):PH:=λx=>if x=b then az o else ba
def Dj (g h:PH):Prop:=∀b,g b=ba\/h b=ba
def Sub (h:PH) (w:ae):Prop:=∀b o,h b=az o->w.heap[b]?=az o
def un (g h:PH):PH:=λb=>match g b with|some o=>az o|none=>h b
def Dj.symm {g h:PH} (d:Dj g h):Dj h g:=λb=>(d b).symm
def Dj.pe (h:PH):Dj pe h:=λ_=> .inl rfl
def yIl {g g' h:PH} (d:Dj g h) (d':Dj g' h):Dj (un g g') h:=λb=>by
 rcases d b with e|e
 ·rcases d' b with e'|e'
  ·left;simp[un,e,e']
  ·exact .inr e'
 ·exact .inr e
def zSy {g g' h:PH} (d:Dj (un g g') h) (dg:Dj g g'):Dj g h/\Dj g' h:=by
 refine⟨λb=> ?_,λb=> ?_⟩
 ·rcases d b with e|e
  ·left;simp only[un]at e;cases hg:g b with
   |none=>rfl
   |some o=>rw[hg]at e;cases e
  ·exact .inr e
 ·rcases d b with e|e
  ·left;simp only[un]at e;cases hg:g b with
   |none=>rw[hg]at e;exact e
   |some o=>rw[hg]at e;cases e
  ·exact .inr e
def yNz {g h:PH} {w:ae} (a:Sub g w) (b:Sub h w):Sub (un g h) w:=λx o e=>by
 simp only[un]at e;cases hg:g x with
 |some o'=>rw[hg]at e;cases e;exact a x _ hg
 |none=>rw[hg]at e;exact b x o e
def yLg {g h:PH} {w:ae} (s:Sub (un g h) w) (d:Dj g h):Sub g w/\Sub h w:=by
 refine⟨λx o e=>s x o (by simp[un,e]),λx o e=>s x o ?_⟩;rcases d x with e'|e'
 ·simp[un,e',e]
 ·rw[e]at e';cases e'
def Sub.pe (w:ae):Sub Cv.pe w:=λ_ _ e=>by cases e
def Sub.lt {h:PH} {w:ae} (s:Sub h w) {b:Nat} (hb:h b≠ba):b<w.heap.size:=by
 cases e:h b with
 |none=>exact absurd e hb
 |some o=>
  have:=s b o e;rcases uz b w.heap.size with h'|h'
  ·exact h'
  ·rw[HH h']at this;cases this
structure Ko where
 os:Os
 tape:Nat->Question->Nat
 output:Array (Nat×ByteArray)
def ko (w:ae):Ko:=⟨w.os,w.tape,w.output⟩
def Kon (k:Ko) (w:ae):Prop:=w.os=k.os/\w.tape=k.tape/\w.output=k.output
inductive Hs (w:ae):List HP->List PH->Prop
 |nil:Hs w [] []
 |cons {A:HP} {h:PH} {L:List HP} {hs:List PH}:A h->Sub h w->(∀g∈hs,Dj h g)->Hs w L hs->Hs w (A::L) (h::hs)
def Hp (k:Ko) (w:ae) (L:List HP):Prop:=Kon k w/\∃hs,Hs w L hs
def Sat (w:ae) (A:HP):Prop:=∃h,A h/\Sub h w
def Hs.perm {w:ae} {L L':List HP} (p:L.Perm L'):∀{hs:List PH},Hs w L hs->∃iP,Hs w L' iP/\hs.Perm iP:=by
 induction p with
 |nil=>intro hs h;cases h;exact⟨[],.nil,.nil⟩
 |cons A _ ih=>
  intro hs h;cases h with
  |cons ha jb hd hr=>
   obtain⟨iP,h1,h2⟩:=ih hr;exact⟨_,.cons ha jb (λg hg=>hd g (h2.mem_iff.2 hg)) h1,.cons _ h2⟩
 |swap A B L=>
  intro hs h;cases h with
  |cons hb hbs BD hr=>
   cases hr with
   |cons ha has had hr=>
    refine⟨_,.cons ha has ?_ (.cons hb hbs (λg hg=>BD g (ji _ hg)) hr),.swap _ _ _⟩;intro g hg;rcases jx.1 hg with rfl|hg
    ·exact(BD _ iX).symm
    ·exact had g hg
 |trans _ _ XV XU=>
  intro hs h;obtain⟨ud,h1,p1⟩:=XV h;obtain⟨yu,h2,p2⟩:=XU h1;exact⟨yu,h2,p1.trans p2⟩
def Hp.perm {k:Ko} {w:ae} {L L':List HP} (H:Hp k w L) (p:L.Perm L'):Hp k w L':=
 ⟨H.1,let⟨_,h⟩:=H.2;let⟨iP,h',_⟩:=h.perm p;⟨iP,h'⟩⟩
def Hp.drop {k:Ko} {w:ae} {A:HP} {L:List HP} (H:Hp k w (A::L)):Hp k w L:=by
 obtain⟨hk,hs,hh⟩:=H;cases hh with
 |cons _ _ _ hr=>exact⟨hk,_,hr⟩
def Hp.sat {k:Ko} {w:ae} {A:HP} {L:List HP} (H:Hp k w (A::L)):Sat w A:=by
 obtain⟨hk,hs,hh⟩:=H;cases hh with
 |cons ha jb _ _=>exact⟨_,ha,jb⟩
def Hp.imp {k:Ko} {w:ae} {A B:HP} {L:List HP} (H:Hp k w (A::L)) (h:∀x,A x->B x):Hp k w (B::L):=by
 obtain⟨hk,hs,hh⟩:=H;cases hh with
 |cons ha jb hd hr=>exact⟨hk,_,.cons (h _ ha) jb hd hr⟩
def pt (b:Nat) (o:Obj):HP:=λh=>h=one b o
def hPu (p:Prop):HP:=λh=>p/\h=pe
def SB (A B:HP):HP:=λh=>∃g g',A g/\B g'/\Dj g g'/\h=un g g'
def hS:List HP->HP
 |[]=>λh=>h=pe
 |[A]=>A
 |A::L=>SB A (hS L)
def gV {k:Ko} {w:ae} {p:Prop} {L:List HP}:Hp k w (hPu p::L)↔p/\Hp k w L:=by
 constructor
 ·rintro⟨hk,hs,hh⟩;cases hh with
  |cons ha jb hd hr=>exact⟨ha.1,hk,_,hr⟩
 ·rintro⟨hp,hk,hs,hh⟩;exact⟨hk,_,.cons ⟨hp,rfl⟩ (Sub.pe w) (λg _=>Dj.pe g) hh⟩
def uw {k:Ko} {w:ae} {A B:HP} {L:List HP}:Hp k w (SB A B::L)↔Hp k w (A::B::L):=by
 constructor
 ·rintro⟨hk,hs,hh⟩;cases hh with
  |cons ha jb hd hr=>
   obtain⟨g,g',h1,h2,h3,rfl⟩:=ha;obtain⟨s1,s2⟩:=yLg jb h3;refine⟨hk,_,.cons h1 s1 ?_ (.cons h2 s2 (λx hx=>(zSy (hd x hx) h3).2) hr)⟩;intro x hx;rcases jx.1 hx with rfl|hx
   ·exact h3
   ·exact(zSy (hd x hx) h3).1
 ·rintro⟨hk,hs,hh⟩;cases hh with
  |cons h1 s1 d1 hr=>
   cases hr with
   |cons h2 s2 d2 hr=>
    exact⟨hk,_,.cons ⟨_,_,h1,h2,d1 _ iX,rfl⟩ (yNz s1 s2) (λx hx=>yIl (d1 x (ji _ hx)) (d2 x hx)) hr⟩
def yNo {k:Ko} {w:ae} {L:List HP}:Hp k w (hS []::L)↔Hp k w L:=by
 have e:hS []=hPu True:=by funext h;simp[hS,hPu]
 rw[e,gV];exact⟨λh=>h.2,λh=>⟨trivial,h⟩⟩
def yQz {k:Ko} {w:ae} {A B:HP} {l L:List HP}:Hp k w (hS (A::B::l)::L)↔Hp k w (A::hS (B::l)::L):=uw
def Hp.swap {k:Ko} {w:ae} {A B:HP} {L:List HP} (H:Hp k w (A::B::L)):Hp k w (B::A::L):=H.perm (.swap _ _ _)
def Hp.cons {k:Ko} {w:ae} {A:HP} {L L':List HP} (H:Hp k w (A::L)) (p:L.Perm L'):Hp k w (A::L'):=H.perm (.cons _ p)
def qw {k:Ko} {w:ae}:∀{l L:List HP},Hp k w (hS l::L)↔Hp k w (l++L)
 |[],L=>yNo
 |[A],L=>Iff.rfl
 |A::B::l,L=>by
  rw[yQz];constructor
  ·intro h;have h1:=(qw (l:=B::l) (L:=A::L)).1 h.swap;refine h1.perm ?_;exact mo
  ·intro h;have h1:Hp k w ((B::l)++(A::L)):=h.perm (mo (l₁:=B::l)).symm;exact((qw (l:=B::l) (L:=A::L)).2 h1).swap
def Hs.move {w w':ae} (h:∀(x:PH),Sub x w->Sub x w'):∀{L:List HP} {hs:List PH},Hs w L hs->Hs w' L hs
 |_,_,.nil=> .nil
 |_,_,.cons ha jb hd hr=> .cons ha (h _ jb) hd (hr.move h)
def zLi {w w':ae} (h:Below w.heap.size w w') {x:PH} (s:Sub x w):Sub x w':=λb o e=>by
 rw[h.block b (s.lt (by rw[e];simp))];exact s b o e
def zWi {k:Ko} {B:Nat} {w w':ae} (h:Below B w w') (hk:Kon k w):Kon k w':=⟨h.os.trans hk.1,h.tape.trans hk.2.1,h.output.trans hk.2.2⟩
def Hp.below {k:Ko} {w w':ae} {L:List HP} (H:Hp k w L) (h:Below w.heap.size w w'):Hp k w' L:=
 ⟨zWi h H.1,let⟨hs,hh⟩:=H.2;⟨hs,hh.move λ_ s=>zLi h s⟩⟩
def Sat.below {w w':ae} {A:HP} (H:Sat w A) (h:Below w.heap.size w w'):Sat w' A:=let⟨x,a,s⟩:=H;⟨x,a,zLi h s⟩
def Hp.drew {k:Ko} {w:ae} {L:List HP} (H:Hp k w L):Hp k w.drew L:=H.below ((Below.refl _ _).drew)
def Hp.new {k:Ko} {w:ae} {L:List HP} (H:Hp k w L) (o:Obj):Hp k (w.alloc o) (pt w.heap.size o::L):=by
 have hb:Below w.heap.size w (w.alloc o):=(Below.refl _ _).alloc (ju _) o;obtain⟨hk,hs,hh⟩:=H;refine⟨zWi hb hk,_,.cons rfl ?_ ?_ (hh.move λ_ s=>zLi hb s)⟩
 ·intro b o' e;simp only[one]at e;split at e
  ·rename_i AD;subst AD;cases e;exact heap_alloc_new w o
  ·cases e
 ·intro g hg;have jb:∀{L:List HP} {hs:List PH},Hs w L hs->∀g∈hs,Sub g w:=by
   intro L hs hh
   induction hh with
   |nil=>intro g hg;cases hg
   |cons _ hs _ _ ih=>
    intro g hg;rcases jx.1 hg with rfl|hg
    ·exact hs
    ·exact ih g hg
  intro b;by_cases AD:b=w.heap.size
  ·right;cases hgb:g b with
   |none=>rfl
   |some o'=>
    have:=(jb hh g hg).lt (b:=b) (by rw[hgb];simp);omega
  ·left;simp[one,AD]
def World.ja (w:ae) (b:Nat) (o:Obj):ae:={w with heap:=w.heap.setIfInBounds b o}
def Hp.get {k:Ko} {w:ae} {b:Nat} {o:Obj} {L:List HP} (H:Hp k w (pt b o::L)):w.heap[b]? =az o:=by
 obtain⟨h,rfl,s⟩:=H.sat;exact s b o (by simp[one])
def Hp.yz {k:Ko} {w:ae} {b:Nat} {o:Obj} {L:List HP} (H:Hp k w (pt b o::L)) (o':Obj):Hp k (World.ja w b o') (pt b o'::L):=by
 have km:=H.get;obtain⟨hk,hs,hh⟩:=H;cases hh with
 |cons ha jb hd hr=>
  cases ha;have gu:b<w.heap.size:=jb.lt (b:=b) (by simp[one]);rename_i hs;have s0:Sub (one b o') (World.ja w b o'):=by
   intro x o2 e;simp only[one]at e;split at e
   ·rename_i hx;subst hx;cases e;simp[World.ja,XM gu]
   ·cases e
  have d0:∀g∈hs,Dj (one b o') g:=by
   intro g hg x;rcases hd g hg x with e|e
   ·left;simp only[one]at e ⊢;split at e<;>simp_all
   ·exact .inr e
  have key:∀{L:List HP} {hs:List PH},Hs w L hs->(∀g∈hs,Dj (one b o) g)->Hs (World.ja w b o') L hs:=by
   intro L hs hh
   induction hh with
   |nil=>intro _;exact .nil
   |cons ha iP oT _ ih=>
    intro HW;refine .cons ha ?_ oT (ih λg hg=>HW g (ji _ hg));intro x o2 e;have jy:x≠b:=by
     intro hx;subst hx;rcases HW _ iX x with e'|e'
     ·simp[one]at e'
     ·rw[e]at e';cases e'
    simp only[World.ja];rw[XL (Ne.symm jy)];exact iP x o2 e
  exact⟨hk,_,.cons rfl s0 d0 (key hr hd)⟩
def base (w0:ae):HP:=λh=>h=λb=>w0.heap[b]?
def Hp.start (w:ae):Hp (Cv.ko w) w [base w]:=⟨⟨rfl,rfl,rfl⟩,_,.cons rfl (λ_ _ e=>e) (λg hg=>by cases hg) .nil⟩
end Cv
namespace Cv
open Go Go.RowKit
def h9 (b o n:Nat):(⟨b,o,ba⟩:ao).add n=⟨b,o+n,ba⟩:=by
 unfold Addr.add;split
 ·rename_i h;subst h;rfl
 ·rfl
def Cz (P:ab) (t:af):Bool:=
 match P.underlying t with
 |some (.struct _)=>bv
 |some (.array _ _)=>bv
 |some _=>bu
 |none=>bv
def EO (P:ab) (t:af):Option Nat:=
 match P.underlying t with
 |some (.struct _)=>(P.info? t).map λ(x:TypeInfo)=>x.size
 |some (.array _ _)=>(P.info? t).map λ(x:TypeInfo)=>x.size
 |_=>ba
def nB {P:ab} {t:af} (h:Cz P t=bu) (w:ae):(isAgg t).run P w= .ok bv w:=by
 unfold Cz at h;cases hd:P.underlying t with
 |none=>rw[hd]at h;cases h
 |some d=>
  rw[hd]at h;unfold isAgg;simp only[bind,run_bind,run_underlying hd];cases d<;>first|rfl|(simp at h)
def aC {P:ab} {t:af} {n:Nat} (h:EO P t=az n) (w:ae):(isAgg t).run P w= .ok bu w/\(Go.sizeOf t).run P w= .ok n w:=by
 unfold EO at h;cases hd:P.underlying t with
 |none=>rw[hd]at h;cases h
 |some d=>
  rw[hd]at h;cases d<;>simp only[reduceCtorEq]at h
  all_goals
   cases hi:P.info? t with
   |none=>rw[hi]at h;cases h
   |some i=>
    rw[hi]at h;simp only[wg,cu]at h;subst h;refine⟨?_,run_sizeOf hi w⟩;unfold isAgg;simp only[bind,run_bind,run_underlying hd];rfl
def z3w {P:ab} {w:ae} {a:ao} {v:ac} (h:w.cell? a=az v):(load a).run P w= .ok v w:=by
 simp only[load,be,h]
def Wp {w:ae} {b o:Nat} {l:List ac} {T:af} {fr:Nat×Nat} (hb:w.heap[b]? =az (.cells l.toArray T fr)):w.cell? ⟨b,o,ba⟩=l[o]? :=by
 simp[World.cell?,hb]
def vY {P:ab} {t:af} {w:ae} {b o:Nat} {l:List ac} {T:af} {fr:Nat×Nat} {v:ac} (hs:Cz P t=bu)
 (hb:w.heap[b]? =az (.cells l.toArray T fr)) (hc:l[o]? =az v):pY P t ⟨b,o,ba⟩ w v:=by
 unfold pY loadVar;simp only[bind,run_bind,nB hs,oR,if_false];exact z3w ((Wp hb).trans hc)
def pS {P:ab} {w:ae} {b o:Nat} {l:List ac} {T:af} {fr:Nat×Nat} (hb:w.heap[b]? =az (.cells l.toArray T fr)):
 ∀(n i:Nat) (acc:Array ac),o+i+n<=l.length->(loadCellsFrom ⟨b,o,ba⟩ i n acc).run P w= .ok (acc++((l.drop (o+i)).take n).toArray) w
 |0,i,acc,_=>by simp[loadCellsFrom,pure,be]
 |n+1,i,acc,h=>by
  have gu:o+i<l.length:=by omega
  have hc:w.cell? ⟨b,o+i,ba⟩=az l[o+i]:=by rw[Wp hb];exact vd gu
  unfold loadCellsFrom;simp only[bind,run_bind,h9,z3w hc];rw[pS hb n (i+1) _ (by omega)];congr 1;rw[CH gu,u'];simp[Dh]
def fF {P:ab} {w:ae} {b o n:Nat} {l:List ac} {T:af} {fr:Nat×Nat} (hb:w.heap[b]? =az (.cells l.toArray T fr)) (h:o+n<=l.length):
 (loadCells ⟨b,o,ba⟩ n).run P w= .ok ((l.drop o).take n).toArray w:=by
 unfold loadCells;rw[pS hb n 0 #[] (by omega)];simp
def V0 {P:ab} {t:af} {w:ae} {b o n:Nat} {l vs:List ac} {T:af} {fr:Nat×Nat} (hs:EO P t=az n)
 (hb:w.heap[b]? =az (.cells l.toArray T fr)) (hc:(l.drop o).take n=vs) (hl:vs.length=n):pY P t ⟨b,o,ba⟩ w (.agg vs.toArray):=by
 unfold pY loadVar;have hlen:o+n<=l.length\/n=0:=by
  subst hc;simp only[nn,pd]at hl;omega
 simp only[bind,run_bind,(aC hs w).1,if_true,(aC hs w).2];rcases hlen with hlen|h0
 ·rw[fF hb hlen,hc];rfl
 ·subst h0;have:vs=[]:=xq hl;subst this;rfl
def _root_.Go.Value.oq:ac->Bool
 | .agg _=>bv
 | .tuple _=>bv
 |_=>bu
def kx (l:List ac) (o:Nat) (vs:List ac):List ac:=l.take o++vs++l.drop (o+vs.length)
def yIz (w:ae) (b:Nat) (x y:Obj):World.ja (World.ja w b x) b y=World.ja w b y:=by
 simp[World.ja,Array.setIfInBounds_setIfInBounds]
def z8x {P:ab} {w:ae} {b o:Nat} {l:List ac} {T:af} {v:ac} (hb:w.heap[b]? =az (.cells l.toArray T (0,0))) (ho:o<l.length) (hv:v.oq=bu):
 (store ⟨b,o,ba⟩ v).run P w= .ok () (World.ja w b (.cells (l.set o v).toArray T (0,0))):=by
 have hc:w.cell? ⟨b,o,ba⟩=az l[o]:=by rw[Wp hb];exact vd ho
 have hf:w.frozen? ⟨b,o,ba⟩=bv:=by simp[World.frozen?,hb]
 have qj:w.setCell ⟨b,o,ba⟩ v=World.ja w b (.cells (l.set o v).toArray T (0,0)):=by
  unfold World.setCell World.ja;congr 1;apply Rx;intro i;rw[Array.getElem?_modify,RJ];have gu:b<w.heap.size:=by
   rcases uz b w.heap.size with h|h
   ·exact h
   ·rw[HH h]at hb;cases hb
  by_cases hi:b=i
  ·subst hi;have ni:w.heap[b]= .cells l.toArray T (0,0):=by rw[RH gu]at hb;exact cw hb
   simp[gu,ni]
  ·simp[hi]
 unfold store;cases v<;>first|(cases hv;done)|(simp only[be,hc,hf,oR,if_false,qj])
def UK {l:List ac} {p:Nat} {v:ac} {vs:List ac} (h:p<l.length):kx (l.set p v) (p+1) vs=kx l p (v::vs):=by
 have h1:(l.set p v).take (p+1)=l.take p++[v]:=by
  rw[Ov,fh h];rw[List.take_append,nn];simp[FG (Nat.le_of_lt h),List.take_take]
 have h2:(l.set p v).drop (p+1+vs.length)=l.drop (p+(v::vs).length):=by
  rw[List.drop_set_of_lt (by omega)];congr 1;simp only[iF];omega
 simp only[kx,h1,h2,jd,RC]
def vK {P:ab} {b:Nat} {T:af}:∀(vs:List ac) (i o:Nat) (l:List ac) (w:ae),w.heap[b]? =az (.cells l.toArray T (0,0))->o+i+vs.length<=l.length->
 (∀v∈vs,v.oq=bu)->(storeCells ⟨b,o,ba⟩ vs i).run P w= .ok () (World.ja w b (.cells (kx l (o+i) vs).toArray T (0,0)))
 |[],i,o,l,w,hb,h,_=>by
  have gu:b<w.heap.size:=by
   rcases uz b w.heap.size with h|h
   ·exact h
   ·rw[HH h]at hb;cases hb
  have:World.ja w b (.cells (kx l (o+i) []).toArray T (0,0))=w:=by
   have e:kx l (o+i) []=l:=by simp[kx]
   rw[e];unfold World.ja;have:w.heap.setIfInBounds b (.cells l.toArray T (0,0))=w.heap:=by
    apply Rx;intro j;rw[RJ];split
    ·rename_i hj;subst hj;rw[hb]
    ·rfl
   rw[this]
  unfold storeCells;rw[this];rfl
 |v::vs,i,o,l,w,hb,h,hv=>by
  have gu:b<w.heap.size:=by
   rcases uz b w.heap.size with h|h
   ·exact h
   ·rw[HH h]at hb;cases hb
  simp only[iF]at h;unfold storeCells;simp only[bind,run_bind,h9,z8x hb (show o+i<l.length by omega) (hv v iX)];have AD:(World.ja w b (.cells (l.set (o+i) v).toArray T (0,0))).heap[b]? =az (.cells (l.set (o+i) v).toArray T (0,0)):=by
   simp[World.ja,XM gu]
  rw[vK vs (i+1) o (l.set (o+i) v) _ AD (by rw[qm];omega) (λu hu=>hv u (ji _ hu)),yIz];rw[show o+(i+1)=o+i+1 by omega,UK (show o+i<l.length by omega)]
end Cv
namespace Cv
open Go Go.RowKit
def ou (e sz:Nat) (a:Option ao) (n k:Nat) (xs:List ac):HP:=λh=>
 (a=ba/\n=0/\k=0/\xs=[]/\h=pe)\/
 ∃b r,a=az ⟨b,0,ba⟩/\h=one b (.cells (xs++r).toArray e)/\xs.length=n*sz/\(xs++r).length=k*sz/\n<=k
def FK (sz:Nat) (a:Option ao) (n k:Nat) (xs:List ac):HP:=λh=>
 (n=0/\xs=[]/\h=pe)\/
 ∃(b o:Nat) (l:List ac) (T:af) (fr:Nat×Nat),a=az ⟨b,o,ba⟩/\h=one b (.cells l.toArray T fr)/\(l.drop o).take (n*sz)=xs/\xs.length=n*sz/\n<=k
def nA {e sz:Nat} {a:Option ao} {n k:Nat} {xs:List ac} {h:PH} (H:ou e sz a n k xs h):FK sz a n k xs h:=by
 rcases H with⟨rfl,rfl,rfl,rfl,rfl⟩|⟨b,r,rfl,rfl,h1,h2,h3⟩
 ·exact .inl ⟨rfl,rfl,rfl⟩
 ·right;exact⟨b,0,_,e,_,rfl,rfl,by rw[Ee,<- h1];simp,h1,h3⟩
def Hp.I0 {k:Ko} {w:ae} {e sz:Nat} {a:Option ao} {n c:Nat} {xs:List ac} {L:List HP} (H:Hp k w (ou e sz a n c xs::L)):Sat w (FK sz a n c xs):=by
 obtain⟨h,hh,s⟩:=H.sat;exact⟨h,nA hh,s⟩
def Hp.oE {k:Ko} {w:ae} {e sz:Nat} {a:Option ao} {n c:Nat} {xs:List ac} {L:List HP} (H:Hp k w (ou e sz a n c xs::L)):
 (a=ba/\n=0/\c=0/\xs=[]/\Hp k w L)\/
 ∃b r,a=az ⟨b,0,ba⟩/\xs.length=n*sz/\(xs++r).length=c*sz/\n<=c/\Hp k w (pt b (.cells (xs++r).toArray e)::L):=by
 obtain⟨hk,hs,hh⟩:=H;cases hh with
 |cons ha jb hd hr=>
  rcases ha with⟨h1,h2,h3,h4,h5⟩|⟨b,r,h1,h2,h3,h4,h5⟩
  ·exact .inl ⟨h1,h2,h3,h4,hk,_,hr⟩
  ·subst h2;exact .inr ⟨b,r,h1,h3,h4,h5,hk,_,.cons rfl jb hd hr⟩
def Hp.AH {k:Ko} {w:ae} {e sz b n c:Nat} {xs r:List ac} {L:List HP} (H:Hp k w (pt b (.cells (xs++r).toArray e)::L)) (h1:xs.length=n*sz) (h2:(xs++r).length=c*sz) (h3:n<=c):
 Hp k w (ou e sz (az ⟨b,0,ba⟩) n c xs::L):=H.imp λx hx=> .inr ⟨b,r,rfl,hx,h1,h2,h3⟩
def yIf (e sz:Nat):ou e sz ba 0 0 [] pe:= .inl ⟨rfl,rfl,rfl,rfl,rfl⟩
def Hp.nil {k:Ko} {w:ae} {L:List HP} (e sz:Nat) (H:Hp k w L):Hp k w (ou e sz ba 0 0 []::L):=
 ((@gV k w True L).2 ⟨trivial,H⟩).imp λx hx=>by rw[hx.2];exact yIf e sz
def Hp.lit {k:Ko} {w:ae} {b e sz n:Nat} {l:List ac} {L:List HP} (H:Hp k w (pt b (.cells l.toArray e)::L)) (hl:l.length=n*sz):Hp k w (ou e sz (az ⟨b,0,ba⟩) n n l::L):=
 H.imp λx hx=> .inr ⟨b,[],rfl,by rw[hx,oJ],hl,i9 hl,ju _⟩
def UT {e sz:Nat} {a:Option ao} {n k:Nat} {xs:List ac} {h:PH} (H:ou e sz a n k xs h):xs.length=n*sz/\n<=k:=by
 rcases H with⟨rfl,rfl,rfl,rfl,rfl⟩|⟨b,r,rfl,rfl,h1,h2,h3⟩
 ·simp
 ·exact⟨h1,h3⟩
def Hp.len {k:Ko} {w:ae} {e sz:Nat} {a:Option ao} {n c:Nat} {xs:List ac} {L:List HP} (H:Hp k w (ou e sz a n c xs::L)):xs.length=n*sz/\n<=c:=by
 obtain⟨h,hh,s⟩:=H.sat;exact UT hh
def yFm {w:ae} {sz:Nat} {a:Option ao} {n k:Nat} {xs:List ac} (H:Sat w (FK sz a n k xs)):xs.length=n*sz:=by
 obtain⟨h,hh,s⟩:=H;rcases hh with⟨rfl,rfl,_⟩|⟨b,o,l,T,fr,rfl,rfl,h1,h2,_⟩
 ·simp
 ·exact h2
def Lr {w:ae} {sz:Nat} {a:Option ao} {n k:Nat} {xs:List ac} (H:Sat w (FK sz a n k xs)) (hn:0<n):
 ∃(b o:Nat) (l:List ac) (T:af) (fr:Nat×Nat),a=az ⟨b,o,ba⟩/\w.heap[b]? =az (.cells l.toArray T fr)/\(l.drop o).take (n*sz)=xs:=by
 obtain⟨h,hh,s⟩:=H;rcases hh with⟨rfl,rfl,_⟩|⟨b,o,l,T,fr,rfl,rfl,h1,h2,_⟩
 ·omega
 ·exact⟨b,o,l,T,fr,rfl,s b _ (by simp[one]),h1⟩
def zXf (m:Nat) (hm:256<=m):∀(r c:Nat),c<=2*m->Builtin.growBy m r c<=2*m
 |0,c,h=>h
 |r+1,c,h=>by
  unfold Builtin.growBy;split
  ·exact h
  ·exact zXf m hm r _ (by omega)
def zSk {need cap:Nat} (h:cap<need):Builtin.nextslicecap need cap<=2*need:=by
 unfold Builtin.nextslicecap;split
 ·omega
 ·split
  ·omega
  ·exact zXf need (by omega) 4 cap (by omega)
def Src (sz:Nat) (w:ae) (x:ac) (m:Nat) (ys:List ac):Prop:=
 (∃a k,x=.slice a m k/\Sat w (FK sz a m k ys))\/(∃s:ByteArray,x=.string s/\sz=1/\m=s.size/\ys=s.data.toList.map λb=> .int .u8 b.toNat)
def PE {P:ab} {sz:Nat} {w:ae} {x:ac} {m:Nat} {ys:List ac} (h:Src sz w x m ys):
 (Builtin.lenOf x).run P w= .ok m w/\(bz sz m x).run P w= .ok ys.toArray w/\ys.length=m*sz:=by
 rcases h with⟨a,k,rfl,H⟩|⟨s,rfl,rfl,rfl,rfl⟩
 ·refine⟨rfl,?_,yFm H⟩;have hl:=yFm H;obtain⟨h,hh,s⟩:=H;rcases hh with⟨rfl,rfl,_⟩|⟨b,o,l,T,fr,rfl,rfl,h1,h2,_⟩
  ·cases a with
   |none=>rfl
   |some a=>simp[bz,loadCells,loadCellsFrom,pure,be]
  ·have hb:=s b _ (show one b _ b=_ by simp[one];rfl);unfold bz;by_cases h0:m*sz=0
   ·rw[h0]at h1 hl ⊢;have:ys=[]:=xq hl;subst this;rfl
   ·have:o+m*sz<=l.length:=by
     rw[<- h1,nn,pd]at h2;omega
    rw[fF hb this,h1]
 ·refine⟨rfl,?_,by simp⟩;simp only[bz];have:s.extract 0 s.size=s:=by simp
  rw[this];simp only[pure,be];congr 1;apply df;simp
def Ly (P:ab) (t:af):Bool:=
 match P.underlying t with
 |some (.slice _)=>bu
 |some .string=>bu
 |_=>bv
def YR {P:ab} {t:af} (h:Ly P t=bu):(∃e,P.underlying t=az (.slice e))\/P.underlying t=az .string:=by
 unfold Ly at h;cases hd:P.underlying t with
 |none=>rw[hd]at h;cases h
 |some d=>
  rw[hd]at h;cases d<;>first|exact .inl ⟨_,rfl⟩|exact .inr rfl|(cases h)
def Hp.append {P:ab} {k:Ko} {w:ae} {L:List HP} {t1 t2 rt e sz oD:Nat} {z:Array ac} (hi:vW P t1=az (e,sz,oD,z)) (h2:Ly P t2=bu) {a:Option ao} {n c:Nat} {xs:List ac}
 (H:Hp k w (ou e sz a n c xs::L)) {x:ac} {m:Nat} {ys:List ac} (hx:Src sz w x m ys) (hv:∀v∈ys,v.oq=bu) (hz:z.size=sz) (Fh:0<oD) (hb:(n+m)*oD<=140737488355328):
 ∃a' c' w',fJ P (ce #[t1,t2] rt #[.slice a n c,x]) w (.slice a' (n+m) c') w'/\Hp k w' (ou e sz a' (n+m) c' (xs++ys)::L):=by
 obtain⟨i,zv,q1,q2,rfl,rfl,q5,rfl⟩:=jI hi;obtain⟨r1,r2,BU⟩:=PE (P:=P) hx;obtain⟨KT,hnc⟩:=H.len;have hnm:n+m<=140737488355328:=tm (Nat.le_mul_of_pos_right _ Fh) hb;have AK:(n+m)*i.size=n*i.size+m*i.size:=zq _ _ _;by_cases td:n+m<=c
 ·--zI the capacity
  rcases H.oE with⟨rfl,rfl,rfl,rfl,H0⟩|⟨b,r,rfl,h3,h4,h5,H0⟩
  ·have hm:m=0:=by omega
   subst hm;have HO:ys=[]:=xq (i9 BU);subst HO;refine⟨ba,0,w,?_,i9 H⟩;unfold fJ ce;rcases YR h2 with⟨e2,hd⟩|hd<;>
   simp only[Bc,CG,Bd,bind,pure,run_bind,bg,be,run_underlying q1,run_sizeOf q2,run_underlying hd,oR,if_false,r1,r2,FE,ju,if_true,JZ]
  ·have Gd:n*i.size+ys.length<=(xs++r).length:=by
    rw[h4,BU,<- AK];exact xj _ td
   have lp:=vK (P:=P) ys 0 (n*i.size) (xs++r) w H0.get (by omega) hv;simp only[FE]at lp;have CV:kx (xs++r) (n*i.size) ys=(xs++ys)++r.drop ys.length:=by
    simp only[kx];rw[<- h3,JY,LZ];simp
   rw[CV]at lp;refine⟨az ⟨b,0,ba⟩,c,_,?_,(H0.yz _).AH (r:=r.drop ys.length) (by rw[iv,h3,BU,AK]) ?_ td⟩
   ·unfold fJ ce;rcases YR h2 with⟨e2,hd⟩|hd<;>
    simp only[Bc,CG,Bd,bind,pure,run_bind,bg,be,run_underlying q1,run_sizeOf q2,run_underlying hd,oR,if_false,r1,r2,td,if_true,h9,nq,lp,JZ]
   ·rw[<- h4];simp only[iv,pd]at Gd ⊢;omega
 ·have CM:¬(((n+m:Nat):Int)>dh.max/\(False\/i.bytes=0)):=by
   rintro⟨_,h|h⟩
   ·exact h
   ·omega
  have Cm:¬(Builtin.nextslicecap (n+m) c*i.bytes>2 ^ 48):=by
   have:=zSk (need:=n+m) (cap:=c) (by omega);have:=xj i.bytes this;have e:2*(n+m)*i.bytes=2*((n+m)*i.bytes):=by rw[Nat.mul_assoc]
   omega
  have hold:(bz i.size n (.slice a n c)).run P w= .ok xs.toArray w:=(PE (P:=P) (.inl ⟨a,c,rfl,H.I0⟩)).2.1;have E8:∀w,(zeroValue e).run P w= .ok zv w:=λw=>me (by unfold zero?;rw[q2];exact q5) w
  have IG:∀w,(typeInfo e).run P w= .ok i w:=λw=>zIl q2 w
  generalize I':(Question.appendCap (n+m) c e).cut (w.tape w.drawn (.appendCap (n+m) c e))=nc;have Me:n+m<=nc:=by
   rw[<- I'];simp only[Question.cut];omega
  have r2':(bz i.size m x).run P w.drew= .ok ys.toArray w.drew:=by
   have HQ:Src i.size w.drew x m ys:=by
    rcases hx with⟨a,kk,rfl,H⟩|h
    ·exact .inl ⟨a,kk,rfl,H.below ((Below.refl _ _).drew)⟩
    ·exact .inr h
   exact(PE (P:=P) HQ).2.1
  have Ue:(bz i.size n (.slice a n c)).run P w.drew= .ok xs.toArray w.drew:=(PE (P:=P) (.inl ⟨a,c,rfl,H.I0.below ((Below.refl _ _).drew)⟩)).2.1;have hch:(choose (.appendCap (n+m) c e)).run P w= .ok nc w.drew:=by
   simp only[choose,be,Question.forced,oR,if_false,I'];rfl
  have I7:=(H.drop.drew).new (.cells (xs++(ys++(cd zv.cells (nc-(n+m))).toList)).toArray e);have hlen:(ys++(cd zv.cells (nc-(n+m))).toList).length=m*i.size+(nc-(n+m))*i.size:=by
   rw[iv,BU,J8,size_zeroCells,hz]
  have F':xs.toArray++ys.toArray++cd zv.cells (nc-(n+m))=(xs++(ys++(cd zv.cells (nc-(n+m))).toList)).toArray:=by
   apply df;simp
  refine⟨az ⟨w.drew.heap.size,0,ba⟩,nc,w.drew.alloc (.cells (xs++(ys++(cd zv.cells (nc-(n+m))).toList)).toArray e),?_,?_⟩
  ·unfold fJ ce;rcases YR h2 with⟨e2,hd⟩|hd<;>
   simp only[Bc,CG,Bd,bind,pure,run_bind,bg,be,run_underlying q1,run_sizeOf q2,run_underlying hd,oR,if_false,r1,td,IG,CM,Cm,hch,zOf,Ue,r2',E8,JZ,if_true,F',newRow,newObj]
   all_goals rfl
  ·have:=Hp.AH (c:=nc) (n:=n+m) (sz:=i.size) (xs:=xs++ys) (r:=(cd zv.cells (nc-(n+m))).toList) (by rw[jd];exact I7) (by rw[iv,KT,BU,AK]) ?_ Me
   ·exact this
   ·rw[jd,iv,hlen,KT,<- zq,<- zq];congr 1;omega
end Cv
namespace Sx
@[reducible] def dl.{u} {α:Sort u} (x:α):Prop:=x=x
open Go Go.RowKit Cv
inductive D where
 |v (x:ac)
 |ro (sz:Nat) (fa:List (List D))
inductive V where
 |top
 |d (x:D)
 |nm (n off:Nat)
 |el (n sz i f:Nat)
 |re (sz:Nat) (fa:List (List D)) (i f:Nat)
 |na (n off i:Nat)
 |own (n:Nat)
 |mp (n:Nat)
 |sub (n i:Nat)
 |agg (l:List V)
 |je (l:List V)
 |fn (f:Nat) (first cap:List V)
 |zy (t:Nat) (x:V)
inductive fq:Type 1 where
 |gone
 |AJ
 |cells (vs:List V) (t:af)
 |own (t sz:Nat) (fa:List (List D))
 |kq (sz:Nat) (fa:List (List D))
 |HL (t:af) (fa:List (List D))
 |vec (ds:List D) (t:af)
 |map (es:List (ac×List D))
 |CT (es:List (ac×List D)) (kv:ac) (b:Int)
 |iter (s:ByteArray) (pos:Nat)
 |rh (T:Type) (m:Nat) (iz:T->Nat->fq) (x:T)
 |kj (t:Nat) (T:Type) (m:Nat) (iz:T->Nat->fq) (l:List T) (hole:Option Nat)
 |uf (q:Bool) (t sz:Nat) (fa:List (List D)) (i f:Nat) (b:Bool) (m:Option Nat)
@[reducible] def Hd:=ac×List ac
structure Ev where
 F:PH
 gj:List Hd
def xp (F G:PH):Prop:=∀b o,F b=az o->G b=az o
def Ev.le (E E':Ev):Prop:=xp E.F E'.F/\E.gj<+:E'.gj
def xp.refl (F:PH):xp F F:=λ_ _ h=>h
def xp.trans {F G H:PH} (a:xp F G) (b:xp G H):xp F H:=λx o h=>b x o (a x o h)
def Ev.le.refl (E:Ev):E.le E:=⟨xp.refl _,J1 _⟩
def Ev.le.trans {E E' E2:Ev} (a:E.le E') (b:E'.le E2):E.le E2:=⟨a.1.trans b.1,a.2.trans b.2⟩
def UQ {α:Type} {l l':List α} (h:l<+:l') {n:Nat} {x:α} (e:l[n]? =az x):l'[n]? =az x:=by
 obtain⟨t,rfl⟩:=h;rw[Eg]
 ·exact e
 ·exact(jm.1 e).1
def Ev.le.get {E E':Ev} (a:E.le E') {n:Nat} {x:Hd} (e:E.gj[n]? =az x):E'.gj[n]? =az x:=UQ a.2 e
mutual
def DR (F:PH):D->ac->Prop
 | .v x,y=>y=x/\x.oq=bu
 | .ro sz fa,y=>∃a c,y= .slice a fa.length c/\fa.length<=c/\(∀el∈fa,el.length=sz)/\
    (fa=[]\/∃(b o:Nat) (l:List ac) (T:af) (fr:Nat×Nat),a=az ⟨b,o,ba⟩/\F b=az (.cells l.toArray T fr)/\BJ F fa (l.drop o))
def iB (F:PH):List D->List ac->Prop
 |[],l=>l=[]
 |d::ds,l=>∃x xs,l=x::xs/\DR F d x/\iB F ds xs
def BJ (F:PH):Q_ D->List ac->Prop
 |[],_=>True
 |el::fa,l=>∃l1 l2,l=l1++l2/\iB F el l1/\BJ F fa l2
end
mutual
theorem DR.mono {F G:PH} (h:xp F G):∀{d:D} {y:ac},DR F d y->DR G d y
 | .v x,y,e=>by simpa only[DR]using e
 | .ro sz fa,y,e=>by
   simp only[DR]at e ⊢;obtain⟨a,c,h1,h2,h3,h4⟩:=e;refine⟨a,c,h1,h2,h3,?_⟩;rcases h4 with h4|⟨b,o,l,T,fr,q1,q2,q3⟩
   ·exact .inl h4
   ·exact .inr ⟨b,o,l,T,fr,q1,h _ _ q2,BJ.mono h q3⟩
theorem iB.mono {F G:PH} (h:xp F G):∀{ds:List D} {l:List ac},iB F ds l->iB G ds l
 |[],l,e=>by simpa only[iB]using e
 |d::ds,l,e=>by
  simp only[iB]at e ⊢;obtain⟨x,xs,h1,h2,h3⟩:=e;exact⟨x,xs,h1,DR.mono h h2,iB.mono h h3⟩
theorem BJ.mono {F G:PH} (h:xp F G):∀{fa:List (List D)} {l:List ac},BJ F fa l->BJ G fa l
 |[],l,e=>by simp only[BJ]
 |el::fa,l,e=>by
  simp only[BJ]at e ⊢;obtain⟨x,xs,h1,h2,h3⟩:=e;exact⟨x,xs,h1,iB.mono h h2,BJ.mono h h3⟩
end
mutual
def VR (E:Ev):V->ac->Prop
 | .top,_=>True
 | .d d,y=>DR E.F d y
 | .nm n o,y=>∃(b oo:Nat) (l:List ac),E.gj[n]? =az (.pointer (az ⟨b,oo,ba⟩),l)/\y= .pointer (az ⟨b,oo+o,ba⟩)
 | .el n sz i f,y=>∃(b oo m c:Nat) (l:List ac),E.gj[n]? =az (.slice (az ⟨b,oo,ba⟩) m c,l)/\y= .pointer (az ⟨b,oo+i*sz+f,ba⟩)
 | .re sz fa i f,y=>i<fa.length/\(∀el∈fa,el.length=sz)/\∃(b o:Nat) (l:List ac) (T:af) (fr:Nat×Nat),y= .pointer (az ⟨b,o+i*sz+f,ba⟩)/\E.F b=az (.cells l.toArray T fr)/\BJ E.F fa (l.drop o)
 | .na n o i,y=>∃(b oo:Nat) (l:List ac),E.gj[n]? =az (.pointer (az ⟨b,oo,ba⟩),l)/\y= .pointer (az ⟨b,oo+(o+i),ba⟩)
 | .own n,y=>∃l,E.gj[n]? =az (y,l)/\∃a m c,y= .slice a m c
 | .mp n,y=>∃b l,E.gj[n]? =az (y,l)/\y= .map (az b)
 | .sub n i,y=>∃hd l b oo,E.gj[n]? =az (hd,l)/\l[i]? =az y/\y= .pointer (az ⟨b,oo,ba⟩)
 | .agg l,y=>∃ys,y= .agg ys.toArray/\ib E l ys
 | .je l,y=>∃ys,y= .tuple ys.toArray/\ib E l ys
 | .fn f a b,y=>∃as bs,y= .func (.func f) as.toArray bs.toArray/\ib E a as/\ib E b bs
 | .zy t x,y=>∃z,y= .iface t z/\VR E x z
def ib (E:Ev):List V->List ac->Prop
 |[],l=>l=[]
 |v::vs,l=>∃x xs,l=x::xs/\VR E v x/\ib E vs xs
end
mutual
theorem VR.mono {E E':Ev} (h:E.le E'):∀{v:V} {y:ac},VR E v y->VR E' v y
 | .top,y,e=>by simp only[VR]
 | .d d,y,e=>by simp only[VR]at e ⊢;exact e.mono h.1
 | .nm n o,y,e=>by
   simp only[VR]at e ⊢;obtain⟨b,oo,l,h1,h2⟩:=e;exact⟨b,oo,l,h.get h1,h2⟩
 | .el n sz i f,y,e=>by
   simp only[VR]at e ⊢;obtain⟨b,oo,m,c,l,h1,h2⟩:=e;exact⟨b,oo,m,c,l,h.get h1,h2⟩
 | .re sz fa i f,y,e=>by
   simp only[VR]at e ⊢;obtain⟨h0,h1,b,o,l,T,fr,h2,h3,h4⟩:=e;exact⟨h0,h1,b,o,l,T,fr,h2,h.1 _ _ h3,h4.mono h.1⟩
 | .na n o i,y,e=>by
   simp only[VR]at e ⊢;obtain⟨b,oo,l,h1,h2⟩:=e;exact⟨b,oo,l,h.get h1,h2⟩
 | .own n,y,e=>by
   simp only[VR]at e ⊢;obtain⟨l,h1,h2⟩:=e;exact⟨l,h.get h1,h2⟩
 | .mp n,y,e=>by
   simp only[VR]at e ⊢;obtain⟨b,l,h1,h2⟩:=e;exact⟨b,l,h.get h1,h2⟩
 | .sub n i,y,e=>by
   simp only[VR]at e ⊢;obtain⟨hd,l,b,oo,h1,h2⟩:=e;exact⟨hd,l,b,oo,h.get h1,h2⟩
 | .agg l,y,e=>by
   simp only[VR]at e ⊢;obtain⟨ys,h1,h2⟩:=e;exact⟨ys,h1,ib.mono h h2⟩
 | .je l,y,e=>by
   simp only[VR]at e ⊢;obtain⟨ys,h1,h2⟩:=e;exact⟨ys,h1,ib.mono h h2⟩
 | .fn f a b,y,e=>by
   simp only[VR]at e ⊢;obtain⟨as,bs,h1,h2,h3⟩:=e;exact⟨as,bs,h1,ib.mono h h2,ib.mono h h3⟩
 | .zy t x,y,e=>by
   simp only[VR]at e ⊢;obtain⟨z,h1,h2⟩:=e;exact⟨z,h1,VR.mono h h2⟩
theorem ib.mono {E E':Ev} (h:E.le E'):∀{vs:List V} {l:List ac},ib E vs l->ib E' vs l
 |[],l,e=>by simpa only[ib]using e
 |v::vs,l,e=>by
  simp only[ib]at e ⊢;obtain⟨x,xs,h1,h2,h3⟩:=e;exact⟨x,xs,h1,VR.mono h h2,ib.mono h h3⟩
end
def sN:List ac->ac
 |[y]=>y
 |ys=> .agg ys.toArray
def MR (F:PH):List (ac×List D)->List ar->Prop
 |[],l=>l=[]
 |(k,ds)::es,l=>∃(m:ar) (ms:List ar),l=m::ms/\m.key=k/\(∃ys,iB F ds ys/\m.val=sN ys)/\MR F es ms
def MR.mono {F G:PH} (h:xp F G):∀{es:List (ac×List D)} {l:List ar},MR F es l->MR G es l
 |[],l,e=>e
 |(k,ds)::es,l,e=>by
  obtain⟨m,ms,h1,h2,⟨ys,h3,h4⟩,h5⟩:=e;exact⟨m,ms,h1,h2,⟨ys,h3.mono h,h4⟩,h5.mono h⟩
def uO (l:List ar) (ck:Nat):Prop:=(l.map (·.born)).Nodup/\∀e∈l,e.born<ck
def JM (kd:TypeDesc) (x:ac):Prop:=(∃ik k n,kd=.int ik/\x=.int k n)\/(∃s,kd=.string/\x=.string s)
def UR (l:List ar) (x:ac) (b:Int):Prop:=∃kd,JM kd x/\∃q m,Instr.findNow kd x l 0=az (az (q,m.val))/\l[q]?=az m/\(m.born:Int)=b
def zn (gj:List Hd) (p:Nat) (b:Bool) (ys xs:List ac):Option Nat->Prop
 |some m=>∃y l,gj[m]? =az (y,l)/\(∃a n c,y= .slice a n c)/\xs=bif b then ys.set p y else ys
 |none=>∃y,(∃a n c,y= .slice a n c)/\xs=bif b then ys.set p y else ys
def fw (F:PH):fq->List Hd->Hd->HP
 | .gone,_,_=>λh=>h=pe
 | .AJ,_,hd=>λh=>h=pe/\hd.1= .slice ba 0 0/\hd.2=[]
 | .cells vs t,gj,hd=>λh=>∃b l,hd.1= .pointer (az ⟨b,0,ba⟩)/\ib ⟨F,gj⟩ vs l/\h=one b (.cells l.toArray t)
 | .own t sz fa,gj,hd=>λh=>∃a k xs,hd.1= .slice a fa.length k/\iB F fa.flatten xs/\(∀el∈fa,el.length=sz)/\ou t sz a fa.length k xs h
 | .kq sz fa,gj,hd=>λh=>h=pe/\DR F (.ro sz fa) hd.1
 | .HL t fa,gj,hd=>λh=>∃b k xs r,hd.1= .slice (az ⟨b,0,ba⟩) fa.length k/\iB F fa.flatten xs/\(∀el∈fa,el.length=1)/\fa.length<=k/\h=one b (.cells (xs++r).toArray t ((xs++r).length,(xs++r).length+1))
 | .vec ds t,gj,hd=>λh=>∃b l,hd.1= .pointer (az ⟨b,0,ba⟩)/\iB F ds l/\h=one b (.cells l.toArray t)
 | .map es,gj,hd=>λh=>∃b fy ck,hd.1= .map (az b)/\MR F es fy/\uO fy ck/\h=one b (.map fy.toArray ck)
 | .CT es kv x,gj,hd=>λh=>∃b fy ck,hd.1= .map (az b)/\MR F es fy/\uO fy ck/\UR fy kv x/\h=one b (.map fy.toArray ck)
 | .iter s pos,gj,hd=>λh=>∃b,hd.1= .pointer (az ⟨b,0,ba⟩)/\h=one b (.stringIter s pos)
 | .rh T m iz x,gj,hd=>λh=>∃kg,kg[0]? =az hd/\kg.length=m/\hS ((dc m).map λj=>λh=>∃oT,kg[j]? =az oT/\fw F (iz x j) kg oT h) h
 | .kj t T m iz l hole,gj,hd=>λh=>∃a k,hd.1= .slice a l.length k/\hd.2.length=l.length/\(∀p∈hd.2,∃b oo,p= .pointer (az ⟨b,oo,ba⟩))/\
    hS [ou t 1 a l.length k hd.2,hS ((dc l.length).map λi=>λh=>if hole=az i then h=pe else ∃x p l0 kg,l[i]? =az x/\hd.2[i]? =az p/\kg[0]? =az (p,l0)/\kg.length=m/\
     hS ((dc m).map λj=>λh=>∃oT,kg[j]? =az oT/\fw F (iz x j) kg oT h) h)] h
 | .uf q t sz fa i f b m,gj,hd=>λh=>∃a k ys xs,hd.1= .slice a fa.length k/\iB F fa.flatten ys/\(∀el∈fa,el.length=sz)/\zn gj (i*sz+f) b ys xs m/\ou t sz a fa.length k xs h
def Lt {α:Type} {f g:α->HP} (h:∀a x,f a x->g a x):∀{l:List α} {x:PH},hS (l.map f) x->hS (l.map g) x
 |[],x,e=>e
 |[a],x,e=>h a x e
 |a::b::l,x,e=>by
  obtain⟨g1,g2,h1,h2,h3,h4⟩:=e;exact⟨g1,g2,h a _ h1,Lt h (l:=b::l) h2,h3,h4⟩
def zn.mono {gj oF:List Hd} (h:∀(n:Nat) (hd:Hd),gj[n]? =az hd->oF[n]? =az hd) {p:Nat} {b:Bool} {ys xs:List ac}:∀{m:Option Nat},zn gj p b ys xs m->zn oF p b ys xs m
 |some m,⟨y,l,h1,h2⟩=>⟨y,l,h _ _ h1,h2⟩
 |none,e=>e
def fw.mono {F G:PH} (hF:xp F G) (o:fq):∀{gj oF:List Hd} (ht:gj<+:oF) {hd:Hd} {h:PH},fw F o gj hd h->fw G o oF hd h:=by
 induction o with
 |gone=>intro _ _ _ _ _ e;exact e
 |AJ=>intro _ _ _ _ _ e;exact e
 |cells vs t=>
  intro gj oF ht hd h e;simp only[fw]at e ⊢;obtain⟨b,l,h1,h2,h3⟩:=e;exact⟨b,l,h1,h2.mono ⟨hF,ht⟩,h3⟩
 |own t sz fa=>
  intro gj oF ht hd h e;simp only[fw]at e ⊢;obtain⟨a,k,xs,h1,h2,h3⟩:=e;exact⟨a,k,xs,h1,h2.mono hF,h3⟩
 |kq sz fa=>
  intro gj oF ht hd h e;simp only[fw]at e ⊢;exact⟨e.1,e.2.mono hF⟩
 |HL t fa=>
  intro gj oF ht hd h e;simp only[fw]at e ⊢;obtain⟨b,k,xs,r,h1,h2,h3⟩:=e;exact⟨b,k,xs,r,h1,h2.mono hF,h3⟩
 |vec ds t=>
  intro gj oF ht hd h e;simp only[fw]at e ⊢;obtain⟨b,l,h1,h2,h3⟩:=e;exact⟨b,l,h1,h2.mono hF,h3⟩
 |map es=>
  intro gj oF ht hd h e;simp only[fw]at e ⊢;obtain⟨b,l,ck,h1,h2,h3⟩:=e;exact⟨b,l,ck,h1,h2.mono hF,h3⟩
 |CT es kv x=>
  intro gj oF ht hd h e;simp only[fw]at e ⊢;obtain⟨b,l,ck,h1,h2,h3⟩:=e;exact⟨b,l,ck,h1,h2.mono hF,h3⟩
 |iter s pos=>intro _ _ _ _ _ e;simpa only[fw]using e
 |rh T m iz x ih=>
  intro gj oF ht hd h e;simp only[fw]at e ⊢;obtain⟨kg,h1,h2,h3⟩:=e;refine⟨kg,h1,h2,Lt ?_ h3⟩;rintro j y ⟨oT,q1,q2⟩;exact⟨oT,q1,ih x j (J1 _) q2⟩
 |kj t T m iz l hole ih=>
  intro gj oF ht hd h e;simp only[fw]at e ⊢;obtain⟨a,k,h1,h2,h3,h5⟩:=e;refine⟨a,k,h1,h2,h3,?_⟩;obtain⟨g1,g2,q1,q2,q3,q4⟩:=h5;refine⟨g1,g2,q1,Lt ?_ q2,q3,q4⟩;intro i y hy;split
  ·rename_i hi;rw[fh hi]at hy;exact hy
  ·rename_i hi;rw[ez hi]at hy;obtain⟨x,p,l0,kg,r1,r2,r3,r4,r5⟩:=hy;refine⟨x,p,l0,kg,r1,r2,r3,r4,Lt ?_ r5⟩;rintro j y ⟨oT,s1,s2⟩;exact⟨oT,s1,ih x j (J1 _) s2⟩
 |uf q t sz fa i f b m=>
  intro gj oF ht hd h e;simp only[fw]at e ⊢;obtain⟨a,k,ys,xs,h1,h2,h3,h4,h5⟩:=e;exact⟨a,k,ys,xs,h1,h2.mono hF,h3,h4.mono λn hd e=>UQ ht e,h5⟩
structure St where
 rows:List (Nat×fq)
 nx:Nat
def sY (n:Nat):List (Nat×fq)->Option fq
 |[]=>ba
 |(m,o)::l=>bif cx m n then az o else sY n l
def uC (n:Nat):List (Nat×fq)->List (Nat×fq)
 |[]=>[]
 |(m,o)::l=>bif cx m n then l else(m,o)::uC n l
def rL (n:Nat) (x:fq):List (Nat×fq)->List (Nat×fq)
 |[]=>[]
 |(m,o)::l=>bif cx m n then(m,x)::l else(m,o)::rL n x l
def St.get (s:St) (n:Nat):Option fq:=sY n s.rows
def St.set (s:St) (n:Nat) (o:fq):St:=⟨rL n o s.rows,s.nx⟩
def St.del (s:St) (n:Nat):St:=⟨uC n s.rows,s.nx⟩
def St.Ja (s:St) (n:Nat):fq->St
 | .kq _ _=>s
 |_=>s.del n
def St.new (s:St) (o:fq):St:=⟨(s.nx,o)::s.rows,s.nx+1⟩
def uI {n:Nat} {o:fq}:∀{l:List (Nat×fq)},sY n l=az o->l.Perm ((n,o)::uC n l)/\∀x,(rL n x l).Perm ((n,x)::uC n l)
 |[],h=>by cases h
 |(m,p)::l,h=>by
  simp only[sY,uC,rL]at h ⊢;cases hb:cx m n
  ·rw[hb]at h;obtain⟨h1,h2⟩:=uI (l:=l) h;exact⟨(h1.cons _).trans (.swap _ _ _),λx=>((h2 x).cons _).trans (.swap _ _ _)⟩
  ·rw[hb]at h;have:=jg hb;subst this;cases h;exact⟨.refl _,λx=> .refl _⟩
def ic (E:Ev) (r:Nat×fq):HP:=λh=>r.2= .gone/\h=pe\/∃hd,E.gj[r.1]? =az hd/\fw E.F r.2 E.gj hd h
def ic.mono {E E':Ev} (h:E.le E') (r:Nat×fq) {x:PH} (e:ic E r x):ic E' r x:=by
 rcases e with e|⟨hd,h1,h2⟩
 ·exact .inl e
 ·exact .inr ⟨hd,h.get h1,h2.mono h.1 _ h.2⟩
def xIa:List (Nat×(Obj->Prop)):=[]
def EG (F:PH):Prop:=∀g∈xIa,∃o,F g.1=az o/\g.2 o
def EG.mono {F G:PH} (h:xp F G) (e:EG F):EG G:=λg hg=>let⟨o,h1,h2⟩:=e g hg;⟨o,h _ _ h1,h2⟩
def fz (F:PH):HP:=λh=>h=F/\EG F
structure Rel (k:Ko) (L:List HP) (E:Ev) (s:St) (w:ae):Prop where
 nx:E.gj.length=s.nx
 hp:Hp k w (s.rows.map (ic E)++fz E.F::L)
end Sx
namespace Cv
open Go Go.RowKit
inductive Tr (α:Type) where
 |e
 |n (v:Option α) (l r:Tr α)
def Tr.get {α:Type}:List Bool->Tr α->Option α
 |_,.e=>ba
 |[],.n v _ _=>v
 |b::p,.n _ l r=>bif b then Tr.get p l else Tr.get p r
def Tr.set {α:Type} (x:Option α):List Bool->Tr α->Tr α
 |[],.e=> .n x .e .e
 |[],.n _ l r=> .n x l r
 |b::p,.e=>bif b then .n ba (Tr.set x p .e) .e else .n ba .e (Tr.set x p .e)
 |b::p,.n v l r=>bif b then .n v (Tr.set x p l) r else .n v l (Tr.set x p r)
def xGm:Nat->Nat->List Bool
 |0,n=>List.replicate n bu
 |f+1,n=>bif cx n 0 then[]else cx (n % 2) 1::xGm f (n / 2)
def RO (n:Nat):List Bool:=xGm 40 n
inductive Cap where
 |k (c:Nat)
 |r (l o0:Nat)
inductive V where
 |int (k:aj) (n:Int)
 |bool (b:Bool)
 |str (l:List Nat)
 |ptr (a:Option (Nat×Nat))
 |sl (a:Option (Nat×Nat)) (n:Nat) (c:Cap)
 |map (r:Option Nat)
 |agg (l:List V)
 |je (l:List V)
 |fn (f:Nat) (first cap:List V)
 |TU
inductive fq where
 |cells (xs:List V) (t:af) (Ds:Option Nat)
 |map (es:List (V×V×Nat)) (clock:Nat)
 |iter (s:List Nat) (pos:Nat)
structure St where
 h:Tr fq
 nx:Nat
def St.get (s:St) (b:Nat):Option fq:=Tr.get (RO b) s.h
def St.set (s:St) (b:Nat) (o:fq):St:=⟨Tr.set (az o) (RO b) s.h,s.nx⟩
def St.del (s:St) (b:Nat):St:=⟨Tr.set ba (RO b) s.h,s.nx⟩
def St.new (s:St) (o:fq):St:=⟨Tr.set (az o) (RO s.nx) s.h,s.nx+1⟩
@[reducible] def IU:=Nat->Nat×Nat
def cvs (φ:IU) (b o n:Nat):Cap->ao
 | .k _=>⟨(φ b).1,o,ba⟩
 | .r l o0=>⟨(φ b).1,bif cx n 0 && cx (φ b).2 l then o0 else o,ba⟩
def cvc (φ:IU) (b:Nat):Cap->Nat
 | .k c=>c
 | .r l _=>(φ b).2-l
mutual
def cv (φ:IU):V->ac
 | .int k n=> .int k n
 | .bool b=> .bool b
 | .str l=> .string (bs l)
 | .ptr ba=> .pointer ba
 | .ptr (az (b,o))=> .pointer (az ⟨(φ b).1,o,ba⟩)
 | .sl ba n c=> .slice ba n (match c with| .k c=>c| .r _ _=>0)
 | .sl (az (b,o)) n c=> .slice (az (cvs φ b o n c)) n (cvc φ b c)
 | .map ba=> .map ba
 | .map (az b)=> .map (az (φ b).1)
 | .agg l=> .agg (HY φ l).toArray
 | .je l=> .tuple (HY φ l).toArray
 | .fn f a b=> .func (.func f) (HY φ a).toArray (HY φ b).toArray
 | .TU=> .nilFunc
def HY (φ:IU):List V->List ac
 |[]=>[]
 |v::l=>cv φ v::HY φ l
end
def Rk {α:Type}:List (Option α)->Option (List α)
 |[]=>az []
 |some a::l=>match Rk l with
  |some r=>az (a::r)
  |none=>ba
 |none::_=>ba
def JN (ρ:Tr V):Option Nat->V->Tr V
 |none,_=>ρ
 |some d,v=>Tr.set (az v) (RO d) ρ
def xd:aj->aj->Bool
 | .i8,.i8=>bu| .i16,.i16=>bu| .i32,.i32=>bu| .i64,.i64=>bu
 | .u8,.u8=>bu| .u16,.u16=>bu| .u32,.u32=>bu| .u64,.u64=>bu
 |_,_=>bv
def ieq:Int->Int->Bool
 | .ofNat a,.ofNat b=>cx a b
 | .negSucc a,.negSucc b=>cx a b
 |_,_=>bv
def aeq:Option (Nat×Nat)->Option (Nat×Nat)->Bool
 |none,ba=>bu
 |some (a,b),az (c,d)=>cx a c && cx b d
 |_,_=>bv
def XQ:aj->Nat
 | .i8=>128| .i16=>32768| .i32=>2147483648| .i64=>9223372036854775808
 | .u8=>256| .u16=>65536| .u32=>4294967296| .u64=>18446744073709551616
def wr (k:aj):Int->Int
 | .ofNat n=>bif cy n (XQ k)then .ofNat n else k.wrap (.ofNat n)
 |x=>k.wrap x
def Rl:aj->Nat
 | .i8=>256| .i16=>65536| .i32=>4294967296| .i64=>18446744073709551616
 | .u8=>256| .u16=>65536| .u32=>4294967296| .u64=>18446744073709551616
def xJy (k:aj):Int->Int->Int
 | .ofNat a,.ofNat b=>wr k (.ofNat (Nat.land (a % Rl k) (b % Rl k)))
 |a,b=>Cw k a b
def fOr (k:aj):Int->Int->Int
 | .ofNat a,.ofNat b=>wr k (.ofNat (Nat.lor (a % Rl k) (b % Rl k)))
 |a,b=>HN k a b
def y6n (k:aj):Int->Int->Int
 | .ofNat a,.ofNat b=>wr k (.ofNat (a*2 ^ (Nat.min b k.bits)))
 |a,b=>JU k a b
def WG (P:ab) (t:af):Bool:=
 match P.underlying t with
 |some (.pointer _)=>bu
 |_=>bv
def Ih (P:ab) (t:af):Bool:=
 match P.underlying t with
 |some (.slice _)=>bu
 |_=>bv
def z9b (P:ab) (t:af):Bool:=
 match P.underlying t with
 |some (.map _ _)=>bu
 |_=>bv
def Ls (P:ab) (t:af):Bool:=
 match P.underlying t with
 |some .string=>bu
 |_=>bv
def xJz (P:ab) (t:af):Option aj:=
 match P.underlying t with
 |some (.int k)=>az k
 |_=>ba
def YX (P:ab) (s:af) (f:Nat):Option Nat:=
 match P.underlying s with
 |some (.struct fs)=>match fs[f]? with
  |some fd=>match P.info? fd.type with
   |some i=>bif cx i.size 0 then ba else az fd.offset
   |none=>ba
  |none=>ba
 |_=>ba
def zMi (P:ab) (s:af) (f:Nat):Option (af×Nat):=
 match P.underlying s with
 |some (.struct fs)=>match fs[f]? with
  |some fd=>az (fd.type,fd.offset)
  |none=>ba
 |_=>ba
def UP (P:ab) (t:af):Option (Nat×af×Nat):=
 match P.underlying t with
 |some (.array n e)=>match P.info? e with
  |some i=>az (n,e,i.size)
  |none=>ba
 |_=>ba
def apart (P:ab) (t:af) (cs:List V) (off:Nat):Option V:=
 match EO P t with
 |some sz=>az (.agg ((cs.drop off).take sz))
 |none=>bif Cz P t then cs[off]? else ba
def Lo (i:Int) (n:Nat):Option Nat:=
 match i with
 | .ofNat j=>bif cy j n then az j else ba
 |_=>ba
def yMk (P:ab) (t:af):Option (List (Option (Nat×Nat))):=
 match P.underlying t with
 |some (.struct fs)=>az (fs.toList.map λfd=>match P.info? fd.type with
   |some i=>az (fd.offset,i.size)
   |none=>ba)
 |_=>ba
def z3d (l:List (Option (Nat×Nat))) (i:Nat):Option (Nat×Nat):=
 match l[i]? with
 |some r=>r
 |none=>ba
def Hq (P:ab) (t:af):Option (af×af):=
 match P.underlying t with
 |some (.map k e)=>az (k,e)
 |_=>ba
def LB (P:ab) (t:af):Bool:=
 match P.underlying t with
 |some (.slice e)=>match P.underlying e with
  |some (.int .u8)=>bu
  |_=>bv
 |_=>bv
def pT (P:ab) (t:af):Option Nat:=
 match P.info? t with
 |some i=>az i.size
 |none=>ba
end Cv
namespace Cv
open Go Go.RowKit
def cme (φ:IU) (e:V×V×Nat):ar:={key:=cv φ e.1,val:=cv φ e.2.1,born:=e.2.2}
def coT (φ:IU) (b:Nat):fq->Obj->Prop
 | .cells xs t ba,O=>O= .cells (HY φ xs).toArray t
 | .cells xs t (az sz),O=>∃r,O= .cells (HY φ xs++r).toArray t/\xs.length+r.length=(φ b).2*sz
 | .map es ck,O=>O= .map (es.map (cme φ)).toArray ck
 | .iter l pos,O=>O= .stringIter (bs l) pos
structure Rel (φ:IU) (s:St) (w:ae):Prop where
 obj:∀b o,s.get b=az o->∃O,w.heap[(φ b).1]? =az O/\coT φ b o O
 inj:∀b c,s.get b≠ba->s.get c≠ba->(φ b).1=(φ c).1->b=c
 lt:∀b,s.get b≠ba->b<s.nx
def Hl (s:ByteArray):bs (s.data.toList.map UInt8.toNat)=s:=by
 unfold bs;rw[wb];have:(Nat.toUInt8∘UInt8.toNat)=id:=by
  funext x;simp[Nat.toUInt8]
 rw[this];simp
def Zb {off:Nat}:∀(vs:List ac) (k:Nat) (l:List ac),off+k+vs.length<=l.length->
 List.foldl (λ(cs:Array ac) (p:ac×Nat)=>cs.setIfInBounds (off+p.2) p.1) l.toArray (vs.zipIdx k)=(kx l (off+k) vs).toArray
 |[],k,l,_=>by simp[kx]
 |v::vs,k,l,h=>by
  simp only[iF]at h;simp only[List.zipIdx_cons,A7,List.setIfInBounds_toArray];rw[Zb vs (k+1) (l.set (off+k) v) (by rw[qm];omega),show off+(k+1)=off+k+1 by omega,UK (by omega)]
end Cv
namespace Cv
open Go Go.RowKit
def zWl {k k':aj} (h:xd k k'=bu):k=k':=by cases k<;>cases k'<;>first|rfl|cases h
def yCe {k:aj} {n:Nat} (h:n<XQ k):k.wrap (.ofNat n)= .ofNat n:=by
 cases k<;>simp only[XQ]at h<;>simp[di,IntKind.bits,dj]<;>omega
def Xh (k:aj) (x:Int):wr k x=k.wrap x:=by
 cases x with
 |ofNat n=>
  simp only[wr];cases h:cy n (XQ k)
  ·rfl
  ·exact(yCe (by simpa[yk]using h)).symm
 |negSucc n=>rfl
def y0m (k:aj):Rl k=2 ^ k.bits:=by cases k<;>rfl
def zNz (w a:Nat):db w (Int.ofNat a)=BitVec.ofNat w a:=by
 apply BitVec.eq_of_toNat_eq;simp
def y8u (k:aj) (a b:Int):fOr k a b=HN k a b:=by
 unfold fOr;split
 ·rename_i a b;rw[Xh,y0m];unfold HN;rw[zNz,zNz];simp only[BitVec.toNat_or,BitVec.toNat_ofNat];rfl
 ·rfl
def yVr (k:aj) (a b:Int):y6n k a b=JU k a b:=by
 unfold y6n;split
 ·rename_i a b;rw[Xh];unfold JU;congr 1
 ·rfl
end Cv
namespace Cv
open Go Go.RowKit
def z7h {P:ab} {t:af} (h:WG P t=bu):∃e,P.underlying t=az (.pointer e):=by
 unfold WG at h;split at h
 ·exact⟨_,by assumption⟩
 ·cases h
def tR {P:ab} {t:af} (h:Ih P t=bu):∃e,P.underlying t=az (.slice e):=by
 unfold Ih at h;split at h
 ·exact⟨_,by assumption⟩
 ·cases h
def z8e {P:ab} {t:af} (h:z9b P t=bu):∃k e,P.underlying t=az (.map k e):=by
 unfold z9b at h;split at h
 ·exact⟨_,_,by assumption⟩
 ·cases h
def rD {P:ab} {t:af} (h:Ls P t=bu):P.underlying t=az .string:=by
 unfold Ls at h;split at h
 ·assumption
 ·cases h
end Cv
namespace Cv
open Go Go.RowKit
def y4 {α:Type} {b:Bool} {x:Option α} {v:α} (h:(bif b then x else ba)=az v):b=bu/\x=az v:=by
 cases b
 ·cases h
 ·exact⟨rfl,h⟩
def zRs {i:Int} {n j:Nat} (h:Lo i n=az j):i=(j:Int)/\j<n:=by
 unfold Lo at h;split at h
 ·rename_i m;obtain⟨hb,h⟩:=y4 h;simp only[cu]at h;subst h;exact⟨rfl,by simpa[yk]using hb⟩
 ·cases h
def zVz {P:ab} {s f off:Nat} (h:YX P s f=az off):∃fs fd i,P.underlying s=az (.struct fs)/\fs[f]? =az fd/\P.info? fd.type=az i/\i.size≠0/\fd.offset=off:=by
 unfold YX at h;split at h<;>first|(cases h;done)|skip
 rename_i fs xv;split at h<;>first|(cases h;done)|skip
 rename_i fd Su;split at h<;>first|(cases h;done)|skip
 rename_i i hi;cases hb:cx i.size 0
 ·rw[hb]at h;simp only[cond_false,cu]at h;exact⟨fs,fd,i,xv,Su,hi,(λe=>by rw[e]at hb;cases hb),h⟩
 ·rw[hb]at h;cases h
def zSa {P:ab} {s f ft off:Nat} (h:zMi P s f=az (ft,off)):∃fs fd,P.underlying s=az (.struct fs)/\fs[f]? =az fd/\fd.type=ft/\fd.offset=off:=by
 unfold zMi at h;split at h<;>first|(cases h;done)|skip
 rename_i fs xv;split at h<;>first|(cases h;done)|skip
 rename_i fd Su;simp only[cu,dk]at h;exact⟨fs,fd,xv,Su,h.1,h.2⟩
def zIo {P:ab} {t n e sz:Nat} (h:UP P t=az (n,e,sz)):∃i,P.underlying t=az (.array n e)/\P.info? e=az i/\i.size=sz:=by
 unfold UP at h;split at h<;>first|(cases h;done)|skip
 rename_i n' e' ht;split at h<;>first|(cases h;done)|skip
 rename_i i hi;simp only[cu,dk]at h;obtain⟨rfl,rfl,rfl⟩:=h;exact⟨i,ht,hi,rfl⟩
def zXv {α:Type}:∀{l:List (Option α)} {L:List α},Rk l=az L->l=L.map az
 |[],L,h=>by simp only[Rk,cu]at h;subst h;rfl
 |none::l,L,h=>by cases h
 |some a::l,L,h=>by
  simp only[Rk]at h;split at h<;>first|(cases h;done)|skip
  rename_i r hr;simp only[cu]at h;subst h;rw[jf,<- zXv hr]
def zRh {P:ab} (w:ae):∀{fs:List Field} {L:List (Nat×Nat)},
 (fs.map λfd=>match P.info? fd.type with|some i=>az (fd.offset,i.size)|none=>ba)=L.map az->
 ((fs.mapM λf=>(do pure (f.offset,<- Go.sizeOf f.type):Sem (Nat×Nat))):Sem (List (Nat×Nat))).run P w= .ok L w
 |[],L,h=>by
  cases L with
  |nil=>rfl
  |cons a l=>cases h
 |fd::fs,L,h=>by
  cases L with
  |nil=>cases h
  |cons a l=>
   simp only[jf,List.cons.injEq]at h;obtain⟨h1,h2⟩:=h;split at h1<;>first|(cases h1;done)|skip
   rename_i i hi;simp only[cu]at h1;subst h1;have ih:=zRh w h2;simp only[dd,bind,pure,run_bind,bg,be,run_sizeOf hi]at ih ⊢;rw[ih]
def wJ {ρ:Env} {o:ak} {c:Call} {b:Builtin} (ho:o.op= .call c) (hc:c.callee= .builtin b):
 ag (ev ρ) o=builtin b c.argTypes o.type (c.args.map λ| .const _=>bu|_=>bv) (c.args.map (ev ρ)):=by
 have tj:ag (ev ρ) o=(au (ev ρ) c o.type).bind λd=>invoke d.target d.args:=by
  simp only[ag,ho];rfl
 rw[tj];unfold au;rw[hc];rfl
end Cv
