/- Texts of ours. No condition. -/
import Derived.Deep.LoopGhost
import Derived.KernelRfl
import Derived.Lib.Strings
import Derived.Orders
import Derived.WalkKit
set_option linter.all false
open Go renaming Program->ab,Value->ac,World->ae,TypeId->af,execOp->ag,IntKind->aj,Oper->ak,eqGuard->am,Addr->ao,undef->ap,Operand->aq,MapEntry->ar,resolve->au,callFunc->av,FuncId->aw,wp_mono->ax,convert->ay
open Option renaming some->az,none->ba,map_eq_some_iff->bc
open Go.Sem renaming run->be,bind->bg,pure->bo
open Bool renaming true->bu,false->bv
open Go.Builtin renaming firstCells->bz,zeroCells->cd,append_->ce,len_->cf,copy_->cg
open Go.Region renaming ready->cm,binds->cn,wanted->co
open Go.Instr renaming sliceBounds->cp,lookup->cq,typeAssert->cr
open Option.some renaming injEq->cu,inj->cw
open Nat renaming beq->cx,blt->cy,ble->cz
open Int renaming toNat->da
open BitVec renaming ofInt->db
open List renaming range->dc,mapM_cons->dd
open Array renaming replicate->de,ext'->df
open Go.IntKind renaming i64->dh,wrap->di,signed->dj
open Prod.mk renaming injEq->dk
def eg:=@if_neg
def fc:=@if_pos
def iv:=@List.length_append
def gy:=@List.length_map
def jf:=@List.getElem?_eq_some_iff
def iC:=@List.length_cons
def ja:=@Nat.eq_of_beq_eq_true
def jc:=@List.mem_cons_of_mem
def iS:=@List.mem_cons_self
def iY:=@List.append_assoc
def ku:=@List.mem_of_getElem?
def oc:=@List.getD_eq_getElem?_getD
def jl:=@List.map_append
def mo:=@List.take_of_length_le
def jt:=@decide_eq_false
def jk:=@decide_eq_true
def jj:=@List.map_cons
def jq:=@List.mem_cons
def lj:=@Bool.and_eq_true
def mh:=@List.perm_middle
def ng:=@List.length_take
def om:=@Int.toNat_natCast
def oL:=@Bool.false_eq_true
def lh:=@Nat.le_refl
def oK:=@List.mem_append
def oJ:=@List.append_nil
def o8:=@List.length_drop
def mi:=@Nat.zero_le
def nh:=@Nat.zero_add
def oe:=@List.mem_map
def u':=@List.getElem?_eq_getElem
def xu:=@List.eq_nil_of_length_eq_zero
def qp:=@of_decide_eq_true
def qx:=@List.take_add_one
def rz:=@List.mem_map_of_mem
def ud:=@List.getElem?_eq_none
def rf:=@List.getElem?_map
def yw:=@List.take_append_of_le_length
def qm:=@List.length_set
def uc:=@List.mem_singleton
def uz:=@List.map_congr_left
def ux:=@List.take_succ_cons
def tq:=@decide_eq_true_eq
def rn:=@List.length_nil
def xj:=@Nat.mul_le_mul_right
def rk:=@List.sum_cons
def ui:=@List.cons_append
def vi:=@List.flatMap_cons
def yl:=@List.mem_append_left
def zu:=@List.mem_append_right
def Bd:=@List.getElem?_cons_succ
def CE:=@Array.getD_eq_getD_getElem?
def yu:=@List.flatMap_append
def we:=@Option.map_some
def wb:=@List.mem_filter
def Bc:=@List.getElem?_toArray
def Bb:=@List.take_append_drop
def Ba:=@List.length_singleton
def yt:=@List.pairwise_cons
def CD:=@List.drop_eq_getElem_cons
def Dg:=@List.getElem?_append_right
def xi:=@List.nil_append
def Bu:=@List.perm_append_comm
def Bt:=@List.mem_iff_getElem?
def CC:=@List.getElem?_cons_zero
def Cc:=@Nat.le_of_ble_eq_true
def yk:=@List.nodup_cons
def vh:=@Nat.lt_or_ge
def Ap:=@List.nodup_append
def zt:=@Option.getD_some
def zr:=@List.take_length
def vz:=@Nat.le_trans
def vy:=@List.map_map
def A9:=@List.flatten_cons
def Bs:=@List.getElem?_drop
def Hw:=@List.drop_append_of_le_length
def Cb:=@Option.toList_some
def A8:=@List.mem_flatMap
def FC:=@List.getElem?_append_left
def Ca:=@List.getElem?_set
def A7:=@List.foldl_cons
def xq:=@Int.le_refl
def Df:=@List.filter_append
def Ao:=@Bool.true_and
def zq:=@Nat.succ_mul
def De:=@Bool.not_eq_true'
def Dd:=@List.ext_getElem?
def FB:=@List.length_replicate
def LJ:=@List.findIdx?_eq_some_iff_getElem
def Hv:=@Array.getElem?_eq_none
def yj:=@Nat.blt_eq
def zp:=@Nat.add_mul
def FA:=@List.getElem?_modify
def CB:=@List.mem_range
def Dc:=@Bool.eq_iff_iff
def Eb:=@List.all_eq_true
def Hu:=@Bool.or_eq_false_iff
def N':=@List.set_eq_take_append_cons_drop
def Ik:=@List.drop_eq_nil_of_le
def Db:=@List.drop_drop
def Da:=@Bool.false_and
def B9:=@List.map_nil
def Ij:=@List.length_filter_le
def Ea:=@List.drop_zero
def Fz:=@List.not_mem_nil
def JR:=@List.filter_eq_nil_iff
def Ii:=@List.filter_eq_self
def D':=@Nat.add_assoc
def D9:=@List.map_take
def EN:=@List.take_zero
def Fy:=@Nat.min_eq_left
def Ht:=@List.filter_cons
def JQ:=@List.mem_of_mem_drop
def Xs:=@Array.getElem?_setIfInBounds_self_of_lt
def D8:=@List.set_set
def D7:=@Int.mul_comm
def JP:=@Array.length_toList
def N9:=@List.findIdx?_eq_none_iff
def JO:=@List.getElem?_take
def JN:=@List.prefix_append
def JM:=@List.findIdx?_cons
def Fx:=@List.map_drop
def Rt:=@Array.getElem?_setIfInBounds
def JL:=@List.size_toArray
def JK:=@List.foldl_append
def LI:=@List.replicate_succ
def LH:=@List.getElem?_range
def Fw:=@Nat.add_zero
def Rs:=@List.perm_append_singleton
def JJ:=@List.prefix_refl
def LG:=@of_decide_eq_false
def Rr:=@Array.getElem?_eq_getElem
def Rq:=@List.getElem?_zip_eq_some
def Xr:=@Array.getElem?_setIfInBounds_ne
def N8:=@List.mem_of_mem_take
def N7:=@List.getElem?_of_mem
def JI:=@List.range_succ
def Rp:=@List.eq_of_mem_replicate
def Xq:=@Int.mul_le_mul_of_nonneg_left
def Ro:=@List.filter_cons_of_pos
def Rn:=@List.filter_cons_of_neg
def Rm:=@List.getElem?_replicate
def N6:=@List.flatten_append
def N5:=@List.length_flatMap
def JH:=@Bool.not_false
def LF:=@List.drop_append
def JG:=@Bool.and_false
def LD:=@List.flatMap_nil
def LC:=@Nat.lt_succ_self
def N4:=@List.mem_filterMap
def Ih:=@Nat.add_comm
def Ig:=@Int.pow_succ
def LB:=@Option.map_none
def Rl:=@List.modify_succ_cons
def LA:=@List.find?_cons
def Xp:=@Int.add_mul_emod_self_left
def N0:=@List.any_eq_false
def Xo:=@List.getElem?_eq_none_iff
def Rk:=@Array.toArray_toList
def Hr:=@beq_iff_eq
def Lz:=@List.take_left
def JF:=@Nat.sub_self
def Xn:=@Array.getElem?_replicate
def Xm:=@Option.isSome_iff_exists
def Rj:=@List.filter_sublist
def xPd:=@List.takeWhile_append_dropWhile
def Ly:=@Bool.false_or
def NZ:=@Bool.or_eq_true
def Ri:=@Array.ext_getElem?
def Rh:=@List.set_cons_zero
def Rg:=@List.set_cons_succ
def Rf:=@List.map_replicate
def NY:=@Int.emod_nonneg
def Re:=@Int.emod_lt_of_pos
def NX:=@List.sum_append
def Rc:=@Nat.le_succ_of_le
def NW:=@Int.mul_nonneg
def NV:=@List.nodup_nil
namespace Cv
open Go
@[reducible] def Env:=Nat->ac
def put (ρ:Env):Option Nat->ac->Env
 |none,_=>ρ
 |some d,v=>λi=>bif cx i d then v else ρ i
def ev (ρ:Env):aq->ac
 | .tmp t=>ρ t
 | .const v=>v
 | .global g=> .pointer (az ⟨g,0,ba⟩)
 | .func f=> .func (.func f) #[] #[]
def gM {α:Type} (P:ab):Sem α->Option α
 | .pure a=>az a
 | .program k=>gM P (k P)
 | .mark _ k=>gM P k
 |_=>ba
def vM {α:Type} {P:ab}:∀{s:Sem α} {a:α},gM P s=az a->∀w,s.run P w= .ok a w:=by
 intro s
 induction s with
 |pure a=>intro b h w;simp only[gM,cu]at h;subst h;rfl
 |program k ih=>intro b h w;simp only[gM]at h;exact ih _ h w
 |mark m k ih=>intro b h w;simp only[gM]at h;exact ih h w
 |_=>intro b h w;simp[gM]at h
def run_bind {α β:Type} (P:ab) (s:Sem α) (f:α->Sem β) (w:ae):(s.bind f).run P w=match s.run P w with| .ok a w'=>(f a).run P w'| .halt h w'=> .halt h w':=by
 induction s generalizing w with
 |pure a=>rfl
 |halt h=>rfl
 |load m a k ih=>simp only[bg,be];split<;>first|exact ih _ _|(split<;>first|exact ih _ _|rfl)
 |store m a v k ih=>
  cases v<;>simp only[bg,be]<;>first|rfl|(split<;>first|(split<;>first|exact ih _|rfl))
 |new o k ih=>exact ih _ _
 |shape r k ih=>exact ih _ _
 |freeze a n k ih=>exact ih _
 |frozen a k ih=>exact ih _ _
 |getObj r k ih=>simp only[bg,be];split<;>first|rfl|exact ih _ _
 |setObj r o k ih=>simp only[bg,be];split<;>first|rfl|exact ih _
 |choose q k ih=>simp only[bg,be];split<;>exact ih _ _
 |sys c k ih=>exact ih _ _
 |program k ih=>exact ih _ _
 |mark m k ih=>exact ih _
inductive Sh where
 |int (k:aj)|bool|str|ptr|sl|map|any
def yTu:ac->Sh
 | .int k _=> .int k
 | .bool _=> .bool
 | .string _=> .str
 | .pointer _=> .ptr
 | .slice _ _ _=> .sl
 | .map _=> .map
 |_=> .any
def Du:Sh->(ac->Prop)->Prop
 | .int k,K=>∃n:Int,K (.int k n)
 | .bool,K=>∃b:Bool,K (.bool b)
 | .str,K=>∃s:ByteArray,K (.string s)
 | .ptr,K=>∃a:Option ao,K (.pointer a)
 | .sl,K=>∃(a:Option ao) (n c:Nat),K (.slice a n c)
 | .map,K=>∃r:Option Nat,K (.map r)
 | .any,K=>∃v:ac,K v
def wT {s:Sh} {K:ac->Prop} (h:Du s K):∃v,K v:=by
 cases s<;>simp only[Du]at h<;>first|(obtain⟨n,h⟩:=h;exact⟨_,h⟩)|(obtain⟨a,n,c,h⟩:=h;exact⟨_,h⟩)
def exL:List ac->(List ac->Prop)->Prop
 |[],K=>K []
 |z::zs,K=>Du (yTu z) λv=>exL zs λvs=>K (v::vs)
def yHj:∀{zs:List ac} {K:List ac->Prop},exL zs K->∃vs,K vs
 |[],_,h=>⟨_,h⟩
 |_::_,_,h=>let⟨_,h1⟩:=wT h;let⟨_,h2⟩:=yHj h1;⟨_,h2⟩
structure Raw where
 i:Nat->Int
 b:Nat->Bool
 s:Nat->ByteArray
 p:Nat->Option ao
 a:Nat->Option ao
 n:Nat->Nat
 k:Nat->Nat
 m:Nat->Option Nat
 v:Nat->ac
def Raw.cell (r:Raw) (j:Nat):ac->ac
 | .int k _=> .int k (r.i j)
 | .bool _=> .bool (r.b j)
 | .string _=> .string (r.s j)
 | .pointer _=> .pointer (r.p j)
 | .slice _ _ _=> .slice (r.a j) (r.n j) (r.k j)
 | .map _=> .map (r.m j)
 |_=>r.v j
def xBg (r:Raw):List ac->Nat->List ac
 |[],_=>[]
 |z::zs,j=>r.cell j z::xBg r zs (j+1)
def xFs (z:ac) (r:Raw):ac:=
 match z with
 | .agg cs=> .agg (xBg r cs.toList 0).toArray
 |z=>z
def exV:ac->(ac->Prop)->Prop
 | .agg cs,K=>bif cz cs.size 9 then exL cs.toList λvs=>K (.agg vs.toArray)else ∃r:Raw,K (xFs (.agg cs) r)
 |z,K=>Du (yTu z) K
def vP {z:ac} {K:ac->Prop} (h:exV z K):∃v,K v:=by
 cases z<;>simp only[exV]at h<;>first
  |exact wT h
  |(revert h;cases cz _ 9<;>intro h
    ·obtain⟨r,h⟩:=h;exact⟨_,h⟩
    ·obtain⟨_,h⟩:=yHj h;exact⟨_,h⟩)
def y8b (P:ab) (t:af):ac:=
 match P.info? t with
 |some i=>i.zero.getD ap
 |none=>ap
def E7 (P:ab) (t:af) (K:ac->Prop):Prop:=exV (y8b P t) K
def y5w (P:ab):List af->(List ac->Prop)->Prop
 |[],K=>K []
 |t::ts,K=>E7 P t λv=>y5w P ts λvs=>K (v::vs)
def z3w {P:ab}:∀{ts:List af} {K:List ac->Prop},y5w P ts K->∃vs,K vs
 |[],_,h=>⟨_,h⟩
 |_::_,_,h=>let⟨_,h1⟩:=vP h;let⟨_,h2⟩:=z3w h1;⟨_,h2⟩
def Sq (P:ab) (t:af) (K:ac->Prop):Prop:=
 match P.underlying t with
 |some (.tuple ts)=>y5w P ts.toList λvs=>K (.tuple vs.toArray)
 |_=>E7 P t K
def yDx {P:ab} {t:af} {K:ac->Prop} (h:Sq P t K):∃v,K v:=by
 unfold Sq at h;split at h
 ·obtain⟨_,h⟩:=z3w h;exact⟨_,h⟩
 ·exact vP h
def gU (P:ab) (t:af):Option Nat:=
 match P.underlying t with
 |some (.slice e)=>(P.info? e).map λ(x:TypeInfo)=>x.size
 |_=>ba
def aU (P:ab) (t:af):Option (Nat×Nat):=
 match P.underlying t with
 |some (.array n e)=>(P.info? e).map λ(x:TypeInfo)=>(n,x.size)
 |_=>ba
def JC (p:Option ao) (K:ao->Prop):Prop:=
 match p with
 |some a=>K a
 |none=>False
def y8i (p:Option ao) (n:Nat) (i:Int) (K:ao->Prop):Prop:=
 match p with
 |some a=>(0<=i/\i<n)/\K a
 |none=>False
def y5y (s:ByteArray) (i:Int) (K:UInt8->Prop):Prop:=∃b:UInt8,(0<=i/\s[i.toNat]?=az b)/\K b
def tr (p:Option ao) (n c:Nat) (lo hi:Option Int) (sz:Nat) (K:Option ao->Nat->Nat->Prop):Prop:=
 match lo,hi with
 |none,ba=>(n<=c)/\K p n c
 |some l,ba=>(0<=l/\l<=n/\n<=c)/\K (if c=l.toNat then p else p.map (·.add (l.toNat*sz))) (n-l.toNat) (c-l.toNat)
 |none,az h=>(0<=h/\h<=c)/\K p h.toNat c
 |some l,az h=>(0<=l/\l<=h/\h<=c)/\K (if c=l.toNat then p else p.map (·.add (l.toNat*sz))) (h.toNat-l.toNat) (c-l.toNat)
def y6l (p:Option ao) (c:Nat) (l h m:Int) (sz:Nat) (K:Option ao->Nat->Nat->Prop):Prop:=
 (0<=l/\l<=h/\h<=m/\m<=c)/\K (if m.toNat=l.toNat then p else p.map (·.add (l.toNat*sz))) (h.toNat-l.toNat) (m.toNat-l.toNat)
def y2j (s:ByteArray) (lo hi:Option Int) (K:ByteArray->Prop):Prop:=
 match lo,hi with
 |none,ba=>K s
 |some l,ba=>(0<=l/\l<=s.size)/\K (s.extract l.toNat s.size)
 |none,az h=>(0<=h/\h<=s.size)/\K (s.extract 0 h.toNat)
 |some l,az h=>(0<=l/\l<=h/\h<=s.size)/\K (s.extract l.toNat h.toNat)
def Dz (ρ:Env):Option aq->Option (Option Int)
 |none=>az ba
 |some x=>match ev ρ x with
  | .int _ n=>az (az n)
  |_=>ba
def EE (l h:Option (Option Int)) (K:Option Int->Option Int->Prop):Prop:=
 match l,h with
 |some l,az h=>K l h
 |_,_=>False
def cR (P:ab) (t:af) (x:ac):Option Bool:=
 match P.underlying t,x with
 |some (.pointer _),.pointer p=>az p.isNone
 |some (.slice _),.slice p _ _=>az p.isNone
 |some (.map _ _),.map r=>az r.isNone
 |_,_=>ba
def xIr:ac->Bool
 | .pointer ba=>bu
 | .slice ba _ _=>bu
 | .map ba=>bu
 |_=>bv
def WW:ac->Bool
 | .pointer ba=>bu
 |_=>bv
def Lx:ac->Bool
 | .slice ba _ _=>bu
 |_=>bv
def WJ:ac->Bool
 | .map ba=>bu
 |_=>bv
def Nf (P:ab) (s:Sem Next) (K:ac->Prop):Prop:=
 match gM P s with
 |some (.value v)=>K v
 |_=>False
def y3f (P:ab) (neg:Bool) (t:af) (x y:ac) (K:Bool->Prop):Prop:=
 ∃b:Bool,gM P (Op.equal t x y)=az b/\gM P (am (if neg then .neq else .eql) t (.tmp 0) (.tmp 0) x y)=az ()/\
  (match y with| .agg _=>bu|_=>bv)=bu/\K (if neg then !b else b)
def Lg (o:Option Bool) (K:Bool->Prop):Prop:=
 match o with
 |some r=>K r
 |none=>False
def rL {o:Option Bool} {K:Bool->Prop} (h:Lg o K):∃r,o=az r/\K r:=by
 cases o with
 |none=>exact h.elim
 |some r=>exact⟨r,rfl,h⟩
def xDg (k k':aj) (b:Int) (A:Prop):Prop:=k=k'/\b≠0/\A
def shN (b:Int) (A:Prop):Prop:=0<=b/\A
def xGn (a b:ByteArray) (A:Prop):Prop:=(((a.size+b.size:Nat):Int)<=dh.max)/\A
def Sr (k k':aj) (A:Prop):Prop:=
 match k,k' with
 | .i8,.i8=>A
 | .i16,.i16=>A
 | .i32,.i32=>A
 | .i64,.i64=>A
 | .u8,.u8=>A
 | .u16,.u16=>A
 | .u32,.u32=>A
 | .u64,.u64=>A
 |_,_=>False
def Ux {k k':aj} {A:Prop} (h:Sr k k' A):k=k'/\A:=by
 cases k<;>cases k'<;>first|exact⟨rfl,h⟩|exact h.elim
def Jy (k:aj) (a b:Int):Int:=k.wrap (a*2 ^ (min b.toNat k.bits))
def aM (k:aj) (a b:Int):Int:=a.fdiv (2 ^ (min b.toNat k.bits))
def Cs (k:aj) (a b:Int):Int:=k.wrap ((db k.bits a &&& db k.bits b).toNat:Int)
def HC (k:aj) (a b:Int):Int:=k.wrap ((db k.bits a|||BitVec.ofInt k.bits b).toNat:Int)
def Cx (k:aj) (a b:Int):Int:=k.wrap ((db k.bits a ^^^ db k.bits b).toNat:Int)
def Pl (k:aj) (a b:Int):Int:=k.wrap ((db k.bits a &&& ~~~ db k.bits b).toNat:Int)
def bM (P:ab) (o:ak) (ρ:Env) (K:ac->Prop):Prop:=
 match o.op with
 | .move x=>K (ev ρ x)
 | .assign x=>K (ev ρ x)
 | .pick c a b=>
   match ev ρ c with
   | .bool t=>K (bif t then ev ρ a else ev ρ b)
   |_=>False
 | .nilCheck x=>
   match ev ρ x with
   | .pointer p=>JC p λa=>K (.pointer (az a))
   |_=>Nf P (ag (ev ρ) o) K
 | .indexAddr t x i=>
   match ev ρ x,ev ρ i with
   | .slice p n _,.int _ i=>match gU P t with
     |some sz=>y8i p n i λa=>K (.pointer (az (a.add (i.toNat*sz))))
     |none=>False
   | .pointer p,.int _ i=>match aU P t with
     |some (len,sz)=>y8i p len i λa=>K (.pointer (az (a.add (i.toNat*sz))))
     |none=>False
   |_,_=>False
 | .index t x i=>
   match ev ρ x,ev ρ i with
   | .string s,.int _ i=>match P.underlying t with
     |some .string=>y5y s i λb=>K (.int .u8 b.toNat)
     |_=>False
   |x,j=>match i with
    | .const _=>Nf P (ag (ev ρ) o) K
    |_=>E7 P o.type λv=>gM P (Instr.index t x j)=az v/\K v
 | .panic _=>False
 | .typeAssert x xT asserted ok=>
   match ok with
   |true=>E7 P asserted λv=>Du .bool λb=>gM P (cr (ev ρ x) xT asserted bu)=az (.tuple #[v,b])/\K (.tuple #[v,b])
   |false=>E7 P asserted λv=>gM P (cr (ev ρ x) xT asserted bv)=az v/\K v
 | .slice t x lo hi mx=>
   match ev ρ x,mx with
   | .slice p _ c,az m=>match gU P t,Dz ρ lo,Dz ρ hi,ev ρ m with
     |some sz,az (az l),az (az h),.int _ m=>y6l p c l h m sz λp n c=>K (.slice p n c)
     |_,_,_,_=>False
   | .slice p n c,ba=>match gU P t with
     |some sz=>EE (Dz ρ lo) (Dz ρ hi) λl h=>tr p n c l h sz λp n c=>K (.slice p n c)
     |none=>False
   | .string s,ba=>match P.underlying t with
     |some .string=>EE (Dz ρ lo) (Dz ρ hi) λl h=>y2j s l h λs=>K (.string s)
     |_=>False
   | .pointer p,ba=>match aU P t with
     |some (n,sz)=>JC p λa=>EE (Dz ρ lo) (Dz ρ hi) λl h=>tr (az a) n n l h sz λp n c=>K (.slice p n c)
     |none=>False
   |_,_=>False
 | .binOp op t x y _=>
   match op,ev ρ x,ev ρ y with
   | .quo,.int k a,.int k' b=>xDg k k' b (K (.int k (k.wrap (a.tdiv b))))
   | .rem,.int k a,.int k' b=>xDg k k' b (K (.int k (a.tmod b)))
   | .shl,.int k a,.int _ b=>shN b (K (.int k (Jy k a b)))
   | .shr,.int k a,.int _ b=>shN b (K (.int k (aM k a b)))
   | .and,.int k a,.int k' b=>Sr k k' (K (.int k (Cs k a b)))
   | .or,.int k a,.int k' b=>Sr k k' (K (.int k (HC k a b)))
   | .xor,.int k a,.int k' b=>Sr k k' (K (.int k (Cx k a b)))
   | .andNot,.int k a,.int k' b=>Sr k k' (K (.int k (Pl k a b)))
   | .add,.string a,.string b=>xGn a b (K (.string (a++b)))
   | .eql,.pointer p,b=>bif WW b then(Lg (cR P t (.pointer p)) λr=>K (.bool r))else False
   | .neq,.pointer p,b=>bif WW b then(Lg (cR P t (.pointer p)) λr=>K (.bool !r))else False
   | .eql,.slice p n c,b=>bif Lx b then(Lg (cR P t (.slice p n c)) λr=>K (.bool r))else False
   | .neq,.slice p n c,b=>bif Lx b then(Lg (cR P t (.slice p n c)) λr=>K (.bool !r))else False
   | .eql,.map r,b=>bif WJ b then(Lg (cR P t (.map r)) λr=>K (.bool r))else False
   | .neq,.map r,b=>bif WJ b then(Lg (cR P t (.map r)) λr=>K (.bool !r))else False
   | .eql,.agg a,b=>y3f P bv t (.agg a) b λr=>K (.bool r)
   | .neq,.agg a,b=>y3f P bu t (.agg a) b λr=>K (.bool r)
   |_,_,_=>Nf P (ag (ev ρ) o) K
 |_=>Nf P (ag (ev ρ) o) K
def Fj (P:ab) (s:Sem Next) (v:ac):Prop:=∀w,s.run P w=.ok (.value v) w
def bU {P:ab} {s:Sem Next} {K:ac->Prop} (h:Nf P s K):∃v,K v/\Fj P s v:=by
 unfold Nf at h;split at h
 ·rename_i v hv;exact⟨v,h,vM hv⟩
 ·exact h.elim
def Addr.add_zero (a:ao):a.add 0=a:=by simp[Addr.add]
def eV (p:Option ao):p.map (·.add 0)=p:=by cases p<;>simp[Addr.add_zero]
def yG {P:ab} {s:Sem ac} {v:ac} (h:∀w,s.run P w= .ok v w):Fj P (do pure (Next.value (<- s))) v:=by
 intro w;show(s.bind λa=> .pure (Next.value a)).run P w=_;rw[run_bind,h w];rfl
def zAz {P:ab} {t:af} {sz:Nat} (h:gU P t=az sz):∃e i,P.underlying t=az (.slice e)/\P.info? e=az i/\i.size=sz:=by
 unfold gU at h;split at h
 ·rename_i e he;cases hi:P.info? e with
  |none=>simp[hi]at h
  |some i=>simp[hi]at h;exact⟨e,i,he,hi,h⟩
 ·cases h
def zJw {P:ab} {t:af} {n sz:Nat} (h:aU P t=az (n,sz)):∃e i,P.underlying t=az (.array n e)/\P.info? e=az i/\i.size=sz:=by
 unfold aU at h;split at h
 ·rename_i m e he;cases hi:P.info? e with
  |none=>simp[hi]at h
  |some i=>simp[hi]at h;obtain⟨rfl,h⟩:=h;exact⟨e,i,he,hi,h⟩
 ·cases h
def run_underlying {P:ab} {t:af} {d:TypeDesc} (h:P.underlying t=az d) (w:ae):(underlying t).run P w= .ok d w:=by
 show ((Sem.program Sem.pure).bind λp => match p.underlying t with | some d => Sem.pure d | none => stuck "no such type").run P w = _;simp only[bg,be,h]
def run_sizeOf {P:ab} {t:af} {i:TypeInfo} (h:P.info? t=az i) (w:ae):(Go.sizeOf t).run P w= .ok i.size w:=by
 have Is:(typeInfo t).run P w= .ok i w:=by
  unfold typeInfo;show((Sem.program bo).bind _).run P w=_;simp only[bg,be,h];rfl
 show((typeInfo t).bind λi=>bo i.size).run P w=_;rw[run_bind,Is];rfl
def wK {P:ab} {t:af} {sz n c:Nat} {a:ao} {k:aj} {i:Int} (h:gU P t=az sz) (hi:0<=i/\i<n) (w:ae):
 (Instr.indexAt t (.slice (az a) n c) (.int k i)).run P w= .ok (.pointer (az (a.add (i.toNat*sz)))) w:=by
 obtain⟨e,ti,h1,h2,rfl⟩:=zAz h;simp only[Instr.indexAt,asIntOf,bind,pure,run_bind,bg,be,run_underlying h1,fc hi,run_sizeOf h2]
def cC {P:ab} {t:af} {sz n:Nat} {a:ao} {k:aj} {i:Int} (h:aU P t=az (n,sz)) (hi:0<=i/\i<n) (w:ae):
 (Instr.indexAt t (.pointer (az a)) (.int k i)).run P w= .ok (.pointer (az (a.add (i.toNat*sz)))) w:=by
 obtain⟨e,ti,h1,h2,rfl⟩:=zJw h;simp only[Instr.indexAt,asIntOf,Instr.sureAddr,bind,pure,run_bind,bg,be,run_underlying h1,fc hi,run_sizeOf h2]
def jP {P:ab} {k:aj} {i:Int} {y:Nat} {code:BoundsCode} (h:0<=i/\i<=y) (w:ae):(Instr.sliceBound (.int k i) y code).run P w= .ok i.toNat w:=by
 simp only[Instr.sliceBound,asIntOf,bind,pure,bg,be,fc h]
def VD {ρ:Env} {x:Option aq} {r:Option Int} (h:Dz ρ x=az r):(x=ba/\r=ba)\/∃y k n,x=az y/\ev ρ y= .int k n/\r=az n:=by
 unfold Dz at h;split at h
 ·left;exact⟨rfl,by simpa using h.symm⟩
 ·rename_i y;right;split at h
  ·rename_i k n hv;exact⟨y,k,n,rfl,hv,by simpa using h.symm⟩
  ·cases h
def sL {l h:Option (Option Int)} {K:Option Int->Option Int->Prop} (hh:EE l h K):∃a b,l=az a/\h=az b/\K a b:=by
 unfold EE at hh;split at hh
 ·rename_i a b;exact⟨a,b,rfl,rfl,hh⟩
 ·exact hh.elim
def zGn {P:ab} {ρ:Env} {lo hi:Option aq} {l h:Option Int} (isSlice:Bool) {len cap:Nat} (h1:Dz ρ lo=az l) (h2:Dz ρ hi=az h)
 (hlen:h=ba->len<=cap) (hh:∀x,h=az x->0<=x/\x<=cap) (hl:∀x,l=az x->0<=x/\x<=((h.map da).getD len:Nat)) (w:ae):
 (cp isSlice len cap (lo.map (ev ρ)) (hi.map (ev ρ)) ba).run P w= .ok ((l.map da).getD 0,(h.map da).getD len,cap) w:=by
 rcases VD h1 with⟨rfl,rfl⟩|⟨x,k,n,rfl,hx,rfl⟩<;>rcases VD h2 with⟨rfl,rfl⟩|⟨y,k',m,rfl,hy,rfl⟩
 ·simp only[cp,LB,bind,pure,bg,be,run_bind,Option.getD_none]
 ·have:=hh m rfl;simp only[cp,LB,we,hy,bind,pure,bg,be,run_bind,Option.getD_none,jP this,zt]
 ·have h3:=hl n rfl;simp only[LB,Option.getD_none]at h3;simp only[cp,LB,we,hx,bind,pure,bg,be,run_bind,Option.getD_none,jP h3,zt]
 ·have h3:=hl n rfl;have h4:=hh m rfl;simp only[we,zt]at h3;simp only[cp,we,hx,hy,bind,pure,bg,be,run_bind,jP h3,jP h4,zt]
def yEu {p:Option ao} {n c:Nat} {l h:Option Int} {sz:Nat} {K:Option ao->Nat->Nat->Prop} (hk:tr p n c l h sz K):
 (h=ba->n<=c)/\(∀x,h=az x->0<=x/\x<=c)/\(∀x,l=az x->0<=x/\x<=((h.map da).getD n:Nat))/\
 K (if c=(l.map da).getD 0 then p else p.map (·.add ((l.map da).getD 0*sz))) ((h.map da).getD n-(l.map da).getD 0) (c-(l.map da).getD 0):=by
 unfold tr at hk;split at hk
 ·refine⟨λ_=>hk.1,by simp,by simp,?_⟩;simpa[eV]using hk.2
 ·refine⟨λ_=>hk.1.2.2,by simp,?_,by simpa using hk.2⟩;intro x hx;cases hx;simp;omega
 ·refine⟨by simp,?_,by simp,by simpa[eV]using hk.2⟩;intro x hx;cases hx;omega
 ·refine⟨by simp,?_,?_,by simpa using hk.2⟩
  ·intro x hx;cases hx;omega
  ·intro x hx;cases hx;simp;omega
def z9r {P:ab} {ρ:Env} {t:af} {x:aq} {lo hi:Option aq} {o:ak} {K:ac->Prop} (ho:o.op= .slice t x lo hi ba)
 (h:bM P o ρ K):∃v,K v/\Fj P (ag (ev ρ) o) v:=by
 simp only[bM,ho]at h;split at h
 ·rename_i heq;cases heq
 ·rename_i p n c hx _;split at h
  ·rename_i sz pf;obtain⟨l,u,h1,h2,h3⟩:=sL h;obtain⟨q1,q2,q3,q4⟩:=yEu h3;obtain⟨e,ti,e1,e2,rfl⟩:=zAz pf;refine⟨_,q4,?_⟩;simp only[ag,ho];refine yG λw=> ?_
   simp only[Instr.sliceAt,Instr.slice,hx,bind,pure,bg,be,run_bind,run_underlying e1,LB,zGn bu h1 h2 q1 q2 q3,run_sizeOf e2]
  ·exact h.elim
 ·rename_i s hx _;split at h
  ·rename_i ht;obtain⟨l,u,h1,h2,h3⟩:=sL h;have q:(∀x,u=az x->0<=x/\x<=s.size)/\(∀x,l=az x->0<=x/\x<=((u.map da).getD s.size:Nat))/\K (.string (s.extract ((l.map da).getD 0) ((u.map da).getD s.size))):=by
    unfold y2j at h3;split at h3
    ·refine⟨by simp,by simp,?_⟩;have:s.extract 0 s.size=s:=by simp
     simpa[this]using h3
    ·refine⟨by simp,?_,by simpa using h3.2⟩;intro x hx;cases hx;simp;omega
    ·refine⟨?_,by simp,by simpa using h3.2⟩;intro x hx;cases hx;omega
    ·refine⟨?_,?_,by simpa using h3.2⟩
     ·intro x hx;cases hx;omega
     ·intro x hx;cases hx;simp;omega
   obtain⟨q2,q3,q4⟩:=q;refine⟨_,q4,?_⟩;simp only[ag,ho];refine yG λw=> ?_
   simp only[Instr.sliceAt,Instr.slice,hx,bind,pure,bg,be,run_bind,run_underlying ht,LB,Option.isSome_none,oL,if_false,zGn bv h1 h2 (λ_=>lh _) q2 q3]
  ·exact h.elim
 ·rename_i p hx _;split at h
  ·rename_i n sz pf;unfold JC at h;split at h
   ·rename_i a;obtain⟨l,u,h1,h2,h3⟩:=sL h;obtain⟨q1,q2,q3,q4⟩:=yEu h3;obtain⟨e,ti,e1,e2,rfl⟩:=zJw pf;refine⟨_,q4,?_⟩;simp only[ag,ho];refine yG λw=> ?_
    simp only[Instr.sliceAt,Instr.sureAddr,hx,bind,pure,bg,be,run_bind,run_underlying e1,LB,zGn bv h1 h2 q1 q2 q3,run_sizeOf e2];split<;>simp
   ·exact h.elim
  ·exact h.elim
 ·exact h.elim
def mU (t:af) (x y:ac):Op.equal t x y=Op.equalIn (9999+1) t x y:=rfl
def bW {P:ab} {t:af} {p:Option ao} {r:Bool} (h:cR P t (.pointer p)=az r) (w:ae):(Op.equal t (.pointer p) (.pointer ba)).run P w= .ok r w:=by
 have hu:r=p.isNone/\∃d,P.underlying t=az d/\(match d with| .pointer _=>True|_=>False):=by
  unfold cR at h;cases hd:P.underlying t with
  |none=>simp[hd]at h
  |some d=>cases d<;>simp[hd]at h;exact⟨h.symm,_,rfl,trivial⟩
 obtain⟨rfl,d,hd,hm⟩:=hu;cases d<;>first|exact hm.elim|skip
 rw[mU];generalize 9999=d;unfold Op.equalIn;simp only[bind,pure,run_bind,run_underlying hd];cases p<;>rfl
def fG {P:ab} {t:af} {p:Option ao} {n c m k:Nat} {r:Bool} (h:cR P t (.slice p n c)=az r) (w:ae):(Op.equal t (.slice p n c) (.slice ba m k)).run P w= .ok r w:=by
 have hu:r=p.isNone/\∃d,P.underlying t=az d/\(match d with| .slice _=>True|_=>False):=by
  unfold cR at h;cases hd:P.underlying t with
  |none=>simp[hd]at h
  |some d=>cases d<;>simp[hd]at h;exact⟨h.symm,_,rfl,trivial⟩
 obtain⟨rfl,d,hd,hm⟩:=hu;cases d<;>first|exact hm.elim|skip
 rw[mU];generalize 9999=d;unfold Op.equalIn;simp only[bind,pure,run_bind,run_underlying hd];cases p<;>rfl
def b8 {P:ab} {t:af} {p:Option Nat} {r:Bool} (h:cR P t (.map p)=az r) (w:ae):(Op.equal t (.map p) (.map ba)).run P w= .ok r w:=by
 have hu:r=p.isNone/\∃d,P.underlying t=az d/\(match d with| .map _ _=>True|_=>False):=by
  unfold cR at h;cases hd:P.underlying t with
  |none=>simp[hd]at h
  |some d=>cases d<;>simp[hd]at h;exact⟨h.symm,_,rfl,trivial⟩
 obtain⟨rfl,d,hd,hm⟩:=hu;cases d<;>first|exact hm.elim|skip
 rw[mU];generalize 9999=d;unfold Op.equalIn;simp only[bind,pure,run_bind,run_underlying hd];cases p<;>rfl
def sS {p:Option ao} {K:ao->Prop} (h:JC p K):∃a,p=az a/\K a:=by
 cases p with
 |none=>exact h.elim
 |some a=>exact⟨a,rfl,h⟩
def z7h {p:Option ao} {n:Nat} {i:Int} {K:ao->Prop} (h:y8i p n i K):∃a,p=az a/\(0<=i/\i<n)/\K a:=by
 cases p with
 |none=>exact h.elim
 |some a=>exact⟨a,rfl,h⟩
def x4 {P:ab} {o:ak} {ρ:Env} {neg:Bool} {t:af} {x y:aq} {u:af} {r:Bool} (ho:o.op= .binOp (if neg then .neq else .eql) t x y u)
 (hx:match ev ρ x with| .pointer _=>True| .slice _ _ _=>True| .map _=>True| .agg _=>True|_=>False)
 (hy:match ev ρ y with| .pointer _=>True| .slice _ _ _=>True| .map _=>True| .agg _=>True|_=>False)
 (hg:∀w,(am (if neg then .neq else .eql) t x y (ev ρ x) (ev ρ y)).run P w= .ok () w)
 (he:∀w,(Op.equal t (ev ρ x) (ev ρ y)).run P w= .ok r w):Fj P (ag (ev ρ) o) (.bool (if neg then !r else r)):=by
 simp only[ag,ho];refine yG λw=> ?_
 simp only[bind,run_bind,hg w];generalize ev ρ x=a at*;generalize ev ρ y=b at*;cases neg<;>cases a<;>(first|exact hx.elim|skip)<;>cases b<;>(first|exact hy.elim|skip)<;>simp only[binOp,oL,if_false,if_true,bind,pure,run_bind,he w,be]
def zOp {P:ab} {op:BinOp} {t:af} {x y x' y':aq} {a b:ac} (ha:a≠.nilIface) (w:ae):
 (am op t x y a b).run P w=(am op t x' y' a b).run P w:=by
 cases a<;>first|exact(ha rfl).elim|skip
 all_goals cases op<;>first|rfl|(cases b<;>rfl)
def xC {P:ab} {op:BinOp} {t:af} {x y:aq} {a b:ac} (ha:match a with| .pointer _=>True| .slice _ _ _=>True| .map _=>True|_=>False) (w:ae):
 (am op t x y a b).run P w= .ok () w:=by
 cases a<;>first|exact ha.elim|(cases op<;>rfl)
def yEr {y:ac} (h:WW y=bu):y= .pointer ba:=by
 cases y<;>simp[WW]at h
 rename_i a;cases a<;>simp at h ⊢
def yEf {y:ac} (h:Lx y=bu):∃n c,y= .slice ba n c:=by
 cases y<;>simp[Lx]at h
 rename_i a n c;cases a<;>simp at h ⊢
def yFa {y:ac} (h:WJ y=bu):y= .map ba:=by
 cases y<;>simp[WJ]at h
 rename_i a;cases a<;>simp at h ⊢
def zM {b:Bool} {A:Prop} (h:bif b then A else False):b=bu/\A:=by
 cases b
 ·exact h.elim
 ·exact⟨rfl,h⟩
def yTh {P:ab} {ρ:Env} {op:BinOp} {t u:af} {x y:aq} {o:ak} {K:ac->Prop} (ho:o.op= .binOp op t x y u)
 (h:bM P o ρ K):∃v,K v/\Fj P (ag (ev ρ) o) v:=by
 simp only[bM,ho]at h;split at h
 ·rename_i k a k' b hx hy;obtain⟨rfl,hb,h⟩:=h;refine⟨_,h,?_⟩;simp only[ag,ho];refine yG λw=> ?_
  simp[hx,hy,am,binOp,Op.intDiv,hb,bind,pure,bg,be]
 ·rename_i k a k' b hx hy;obtain⟨rfl,hb,h⟩:=h;refine⟨_,h,?_⟩;simp only[ag,ho];refine yG λw=> ?_
  simp[hx,hy,am,binOp,Op.intDiv,hb,bind,pure,bg,be]
 ·rename_i k a k' b hx hy;obtain⟨hb,h⟩:=h;refine⟨_,h,?_⟩;simp only[ag,ho];refine yG λw=> ?_
  simp[hx,hy,am,binOp,Op.shift,Int.not_lt.2 hb,bind,pure,bg,be,Jy,aM]
 ·rename_i k a k' b hx hy;obtain⟨hb,h⟩:=h;refine⟨_,h,?_⟩;simp only[ag,ho];refine yG λw=> ?_
  simp[hx,hy,am,binOp,Op.shift,Int.not_lt.2 hb,bind,pure,bg,be,Jy,aM]
 ·rename_i k a k' b hx hy;obtain⟨hk,h'⟩:=Ux h;subst hk;refine⟨_,h',?_⟩;simp only[ag,ho];refine yG λw=> ?_
  simp[hx,hy,am,binOp,Op.intBits,bind,pure,bg,be,Cs,HC,Cx,Pl]
 ·rename_i k a k' b hx hy;obtain⟨hk,h'⟩:=Ux h;subst hk;refine⟨_,h',?_⟩;simp only[ag,ho];refine yG λw=> ?_
  simp[hx,hy,am,binOp,Op.intBits,bind,pure,bg,be,Cs,HC,Cx,Pl]
 ·rename_i k a k' b hx hy;obtain⟨hk,h'⟩:=Ux h;subst hk;refine⟨_,h',?_⟩;simp only[ag,ho];refine yG λw=> ?_
  simp[hx,hy,am,binOp,Op.intBits,bind,pure,bg,be,Cs,HC,Cx,Pl]
 ·rename_i k a k' b hx hy;obtain⟨hk,h'⟩:=Ux h;subst hk;refine⟨_,h',?_⟩;simp only[ag,ho];refine yG λw=> ?_
  simp[hx,hy,am,binOp,Op.intBits,bind,pure,bg,be,Cs,HC,Cx,Pl]
 ·rename_i a b hx hy;obtain⟨hb,h⟩:=h;refine⟨_,h,?_⟩;simp only[ag,ho];refine yG λw=> ?_
  have Ay:¬(((a.size+b.size:Nat):Int)>dh.max):=Int.not_lt.2 hb;simp only[hx,hy,am,binOp,Op.stringOp,eg Ay,bind,pure,bg,be];rfl
 ·rename_i p hx;generalize hy:ev ρ y=b at h;obtain⟨hn,h⟩:=zM h;obtain⟨r,hr,h⟩:=rL h;have hb:=yEr hn;refine⟨_,h,?_⟩;exact x4 (neg:=bv) ho (by simp[hx]) (by simp[hy,hb]) (λw=>by rw[hx];exact xC trivial w) (λw=>by rw[hx,hy,hb];exact bW hr w)
 ·rename_i p hx;generalize hy:ev ρ y=b at h;obtain⟨hn,h⟩:=zM h;obtain⟨r,hr,h⟩:=rL h;have hb:=yEr hn;refine⟨_,h,?_⟩;exact x4 (neg:=bu) ho (by simp[hx]) (by simp[hy,hb]) (λw=>by rw[hx];exact xC trivial w) (λw=>by rw[hx,hy,hb];exact bW hr w)
 ·rename_i p n c hx;generalize hy:ev ρ y=b at h;obtain⟨hn,h⟩:=zM h;obtain⟨r,hr,h⟩:=rL h;obtain⟨m,d,hb⟩:=yEf hn;refine⟨_,h,?_⟩;exact x4 (neg:=bv) ho (by simp[hx]) (by simp[hy,hb]) (λw=>by rw[hx];exact xC trivial w) (λw=>by rw[hx,hy,hb];exact fG hr w)
 ·rename_i p n c hx;generalize hy:ev ρ y=b at h;obtain⟨hn,h⟩:=zM h;obtain⟨r,hr,h⟩:=rL h;obtain⟨m,d,hb⟩:=yEf hn;refine⟨_,h,?_⟩;exact x4 (neg:=bu) ho (by simp[hx]) (by simp[hy,hb]) (λw=>by rw[hx];exact xC trivial w) (λw=>by rw[hx,hy,hb];exact fG hr w)
 ·rename_i p hx;generalize hy:ev ρ y=b at h;obtain⟨hn,h⟩:=zM h;obtain⟨r,hr,h⟩:=rL h;have hb:=yFa hn;refine⟨_,h,?_⟩;exact x4 (neg:=bv) ho (by simp[hx]) (by simp[hy,hb]) (λw=>by rw[hx];exact xC trivial w) (λw=>by rw[hx,hy,hb];exact b8 hr w)
 ·rename_i p hx;generalize hy:ev ρ y=b at h;obtain⟨hn,h⟩:=zM h;obtain⟨r,hr,h⟩:=rL h;have hb:=yFa hn;refine⟨_,h,?_⟩;exact x4 (neg:=bu) ho (by simp[hx]) (by simp[hy,hb]) (λw=>by rw[hx];exact xC trivial w) (λw=>by rw[hx,hy,hb];exact b8 hr w)
 ·rename_i a hx;generalize hy:ev ρ y=b at h;obtain⟨r,h1,h2,h3,h⟩:=h;refine⟨_,h,?_⟩;obtain⟨c,rfl⟩:∃c,b= .agg c:=by cases b<;>first|exact⟨_,rfl⟩|(simp at h3)
  exact x4 (neg:=bv) ho (by simp[hx]) (by simp[hy]) (λw=>by rw[hx,hy];exact(zOp (by simp) w).trans (vM h2 w)) (λw=>by rw[hx,hy];exact vM h1 w)
 ·rename_i a hx;generalize hy:ev ρ y=b at h;obtain⟨r,h1,h2,h3,h⟩:=h;refine⟨_,h,?_⟩;obtain⟨c,rfl⟩:∃c,b= .agg c:=by cases b<;>first|exact⟨_,rfl⟩|(simp at h3)
  exact x4 (neg:=bu) ho (by simp[hx]) (by simp[hy]) (λw=>by rw[hx,hy];exact(zOp (by simp) w).trans (vM h2 w)) (λw=>by rw[hx,hy];exact vM h1 w)
 ·exact bU h
def fV {P:ab} {ρ:Env} {o:ak} {K:ac->Prop} (h:bM P o ρ K):∃v,K v/\Fj P (ag (ev ρ) o) v:=by
 cases ho:o.op
 case move x=>simp only[bM,ho]at h;exact⟨_,h,λw=>by simp only[ag,ho];rfl⟩
 case assign x=>simp only[bM,ho]at h;exact⟨_,h,λw=>by simp only[ag,ho];rfl⟩
 case pick c a b=>
  simp only[bM,ho]at h;split at h
  ·rename_i t hc;refine⟨_,h,λw=> ?_⟩;simp only[ag,ho,hc,asBool,bind,pure,bg,be];cases t<;>rfl
  ·exact h.elim
 case nilCheck x=>
  simp only[bM,ho]at h;split at h
  ·rename_i p hx;obtain⟨a,rfl,h⟩:=sS h;exact⟨_,h,λw=>by simp only[ag,ho,hx];rfl⟩
  ·exact bU h
 case indexAddr t x i=>
  simp only[bM,ho]at h;split at h
  ·rename_i p n c k i hx hi;split at h
   ·rename_i sz pf;obtain⟨a,rfl,hb,h⟩:=z7h h;refine⟨_,h,?_⟩;simp only[ag,ho];refine yG λw=> ?_
    rw[hx,hi];exact wK pf hb w
   ·exact h.elim
  ·rename_i p k i hx hi;split at h
   ·rename_i n sz pf;obtain⟨a,rfl,hb,h⟩:=z7h h;refine⟨_,h,?_⟩;simp only[ag,ho];refine yG λw=> ?_
    rw[hx,hi];exact cC pf hb w
   ·exact h.elim
  ·exact h.elim
 case index t x i=>
  simp only[bM,ho]at h;split at h
  ·rename_i s k i hx hi;split at h
   ·rename_i ht;obtain⟨b,⟨h0,h1⟩,h⟩:=h;refine⟨_,h,?_⟩;simp only[ag,ho];refine yG λw=> ?_
    simp only[Instr.index,hx,hi,asIntOf,bind,pure,bg,be,run_bind,run_underlying ht,fc h0,h1]
   ·exact h.elim
  ·split at h
   ·exact bU h
   ·obtain⟨v,hv,h⟩:=vP h;refine⟨v,h,?_⟩;simp only[ag,ho];exact yG (vM hv)
 case typeAssert x xT asserted ok=>
  cases ok
  ·simp only[bM,ho]at h;obtain⟨v,hv,h⟩:=vP h;refine⟨v,h,?_⟩;simp only[ag,ho];exact yG (vM hv)
  ·simp only[bM,ho]at h;obtain⟨v,h⟩:=vP h;obtain⟨b,hv,h⟩:=wT h;refine⟨_,h,?_⟩;simp only[ag,ho];exact yG (vM hv)
 case slice t x lo hi mx=>
  cases mx with
  |none=>exact z9r ho h
  |some m=>
   simp only[bM,ho]at h;split at h<;>first|exact h.elim|contradiction|skip
   rename_i p n c m' hx hm;cases hm;split at h<;>first|exact h.elim|skip
   rename_i sz l u k m' pf h1 h2 hm;obtain⟨⟨q1,q2,q3,q4⟩,h⟩:=h;obtain⟨e,ti,e1,e2,rfl⟩:=zAz pf;rcases VD h1 with⟨_,h1⟩|⟨y,ky,ny,rfl,hy,h1⟩
   ·cases h1
   cases h1;rcases VD h2 with⟨_,h2⟩|⟨z,kz,nz,rfl,hz,h2⟩
   ·cases h2
   cases h2;refine⟨_,h,?_⟩;simp only[ag,ho];refine yG λw=> ?_
   have b1:(0:Int)<=m'/\m'<=(c:Nat):=by omega
   have b2:0<=u/\u<=(m'.toNat:Nat):=by omega
   have b3:0<=l/\l<=(u.toNat:Nat):=by omega
   simp only[Instr.sliceAt,Instr.slice,cp,hx,hm,hy,hz,we,bind,pure,bg,be,run_bind,run_underlying e1,jP b1,jP b2,jP b3,run_sizeOf e2]
 case binOp op t x y u=>exact yTh ho h
 case panic x=>simp only[bM,ho]at h
 all_goals(simp only[bM,ho]at h;exact bU h)
def bR (P:ab) (s:Sem ac) (w:ae) (v:ac):Prop:=s.run P w=.ok v w
def g7 (P:ab) (s:Sem ac) (w:ae) (v:ac) (w':ae):Prop:=s.run P w=.ok v w'
def Hm (P:ab) (s:Sem Unit) (w:ae) (w':ae):Prop:=s.run P w=.ok () w'
def pT (P:ab) (t:af) (a:ao) (w:ae) (v:ac):Prop:=(loadVar t a).run P w=.ok v w
def yGv (P:ab) (t:af):Option af:=
 match P.underlying t with
 |some (.map _ e)=>az e
 |_=>ba
def A2 (P:ab) (o:ak) (ρ:Env) (w:ae) (K:ac->Prop):Prop:=
 match o.op with
 | .load t x=>
   match ev ρ x with
   | .pointer p=>JC p λa=>E7 P t λv=>pT P t a w v/\K v
   |_=>False
 | .lookup t m k ok=>
   match yGv P t with
   |some e=>E7 P e λv=>Du .bool λb=>bR P (cq t (ev ρ m) (ev ρ k) bu) w (.tuple #[v,b])/\K (bif ok then .tuple #[v,b]else v)
   |none=>False
 | .convert s d x=>E7 P d λv=>bR P (ay s d (ev ρ x)) w v/\K v
 | .binOp op t x y _=>
   match op with
   | .eql=>Du .bool λv=>bR P (binOp .eql t (ev ρ x) (ev ρ y)) w v/\(am .eql t x y (ev ρ x) (ev ρ y)).run P w=.ok () w/\K v
   | .neq=>Du .bool λv=>bR P (binOp .neq t (ev ρ x) (ev ρ y)) w v/\(am .neq t x y (ev ρ x) (ev ρ y)).run P w=.ok () w/\K v
   |_=>False
 | .call {callee:= .builtin .len,args,argTypes}=>Du (.int .i64) λv=>bR P (cf argTypes o.type (args.map (ev ρ))) w v/\K v
 | .entry x=>∃v,bR P (Instr.entry (ev ρ x)) w v/\K v
 |_=>False
def yK {P:ab} {s:Sem ac} {v:ac} {w:ae} (h:s.run P w= .ok v w):((do pure (Next.value (<- s)):Sem Next)).run P w= .ok (.value v) w:=by
 show(s.bind λa=> .pure (Next.value a)).run P w=_;rw[run_bind,h];rfl
def yAk {P:ab} {s:Sem ac} {v:ac} {w w':ae} (h:s.run P w= .ok v w'):((do pure (Next.value (<- s)):Sem Next)).run P w= .ok (.value v) w':=by
 show(s.bind λa=> .pure (Next.value a)).run P w=_;rw[run_bind,h];rfl
def yKk {P:ab} {s:Sem Unit} {w w':ae} (h:s.run P w= .ok () w'):((do s;pure Next.skip:Sem Next)).run P w= .ok .skip w':=by
 show(s.bind λ_=> .pure Next.skip).run P w=_;rw[run_bind,h];rfl
def OH (P:ab) (s1 s2:Sem ac):Prop:=∀w v b w',s1.run P w=.ok (.tuple #[v,b]) w'->s2.run P w=.ok v w'
def aN {α:Type} {P:ab} (s:Sem α) {f g:α->Sem ac} (h:∀a,OH P (f a) (g a)):OH P (s.bind f) (s.bind g):=by
 intro w v b w' hr;rw[run_bind]at hr ⊢;cases hs:s.run P w with
 |ok a w1=>rw[hs]at hr;exact h a _ _ _ _ hr
 |halt x w1=>rw[hs]at hr;cases hr
def yIb {P:ab} {x y:String}:OH P (stuck x) (stuck y):=by
 intro w v b w' hr;cases hr
def z3x {P:ab} {v b:ac}:OH P (.pure (.tuple #[v,b])) (.pure v):=by
 intro w v b w' hr;simp only[be,Result.ok.injEq,Value.tuple.injEq,Array.mk.injEq,List.cons.injEq]at hr ⊢;exact⟨hr.1.1,hr.2⟩
def C5 {P:ab} {t:af} {m k:ac}:OH P (cq t m k bu) (cq t m k bv):=by
 unfold cq;refine aN _ λd=> ?_
 have tail:∀(key elem:af) (es:Array ar),OH P
  ((Instr.checkKey es.isEmpty 10000 key k).bind λ_=>(Instr.findKey key k es.toList).bind λr=>
    match r with
    |some (_,v)=>(bo (v,bu)).bind λx=>bo (if bu=bu then Value.tuple #[x.1,.bool x.2]else x.1)
    |none=>(zeroValue elem).bind λz=>(bo (z,bv)).bind λx=>bo (if bu=bu then Value.tuple #[x.1,.bool x.2]else x.1))
  ((Instr.checkKey es.isEmpty 10000 key k).bind λ_=>(Instr.findKey key k es.toList).bind λr=>
    match r with
    |some (_,v)=>(bo (v,bu)).bind λx=>bo (if bv=bu then Value.tuple #[x.1,.bool x.2]else x.1)
    |none=>(zeroValue elem).bind λz=>(bo (z,bv)).bind λx=>bo (if bv=bu then Value.tuple #[x.1,.bool x.2]else x.1)):=by
  intro key elem es;refine aN _ λ_=>aN _ λr=> ?_
  cases r with
  |some p=>obtain⟨i,v⟩:=p;exact z3x
  |none=>exact aN _ λz=>z3x
 cases d<;>first|exact yIb|skip
 rename_i key elem;cases m<;>first|exact aN _ (λes=>tail key elem es)|skip
 rename_i r;cases r with
 |none=>exact aN _ (λes=>tail key elem es)
 |some r=>
  refine aN _ λo=> ?_
  cases o<;>exact aN _ (λes=>tail key elem es)
def zOk {P:ab} {t:af} {m k v b:ac} {w w':ae} (h:(cq t m k bu).run P w= .ok (.tuple #[v,b]) w'):(cq t m k bv).run P w= .ok v w':=
 C5 w v b w' h
def z9x {P:ab} {ρ:Env} {o:ak} {w:ae} {K:ac->Prop} (h:A2 P o ρ w K):∃v,K v/\(ag (ev ρ) o).run P w= .ok (.value v) w:=by
 cases ho:o.op
 case load t x=>
  simp only[A2,ho]at h;split at h
  ·rename_i p hx;obtain⟨a,rfl,h⟩:=sS h;obtain⟨v,hv,h⟩:=vP h;refine⟨v,h,?_⟩;simp only[ag,ho,hx];exact yK hv
  ·exact h.elim
 case lookup t m k ok=>
  simp only[A2,ho]at h;split at h
  ·rename_i e he;obtain⟨v,h⟩:=vP h;obtain⟨b,hb,h⟩:=wT h;refine⟨_,h,?_⟩;simp only[ag,ho];cases ok
   ·exact yK (zOk hb)
   ·exact yK hb
  ·exact h.elim
 case convert s d x=>
  simp only[A2,ho]at h;obtain⟨v,hv,h⟩:=vP h;refine⟨v,h,?_⟩;simp only[ag,ho];exact yK hv
 case binOp op t x y u=>
  simp only[A2,ho]at h;split at h
  ·obtain⟨v,h1,h2,h⟩:=wT h;refine⟨v,h,?_⟩;simp only[ag,ho];refine yK ?_;simp only[bind,run_bind,h2];exact h1
  ·obtain⟨v,h1,h2,h⟩:=wT h;refine⟨v,h,?_⟩;simp only[ag,ho];refine yK ?_;simp only[bind,run_bind,h2];exact h1
  ·exact h.elim
 case call c=>
  simp only[A2,ho]at h;split at h<;>first|exact h.elim|skip
  all_goals first|(exfalso;rename_i hh;cases hh;done)|skip
  rename_i args argTypes hh;cases hh;obtain⟨v,hv,h⟩:=wT h;refine⟨v,h,?_⟩;simp only[ag,ho];exact yK hv
 case entry x=>
  simp only[A2,ho]at h;obtain⟨v,hv,h⟩:=h;refine⟨v,h,?_⟩;simp only[ag,ho];exact yK hv
 all_goals(simp only[A2,ho]at h)
def nf (P:ab) (s:Sem Next) (w:ae) (K:ac->ae->Prop):Prop:=
 match s.run P w with
 | .ok (.value v) w'=>K v w'
 | .ok .skip w'=>K ap w'
 | .ok (.enter f args) w'=>Calls P f args w' λe Xt=>∃v,e=.returned v/\K v Xt
 |_=>False
def Le (w:ae) (o:Obj) (K:Nat->ae->Prop):Prop:=∀b w',b=w.heap.size->w'=w.alloc o->K b w'
def zero? (P:ab) (t:af):Option ac:=
 match P.info? t with
 |some i=>i.zero
 |none=>ba
def Hq (z:Array ac) (n:Nat):Array ac:=((dc n).map λj=>z.toList.getD (j % z.size) default).toArray
def YJ (z:Array ac) (n:Nat):(Array.range n).map (z[·% z.size]!)=Hq z n:=by
 apply df;simp only[Hq,Array.toList_map,Array.toList_range];refine uz λj _=> ?_
 rw[Array.getElem!_eq_getD,CE,oc,Array.getElem?_toList]
def L8 (P:ab) (t:af) (len:Nat) (parts:Array (Nat×ac)):Option (af×Array ac):=
 match P.underlying t with
 |some (.slice e)=>
  match P.info? e with
  |some i=>
   if len*i.size>2 ^ 24 then ba else
   match(if len*i.size=0 then az #[]else i.zero.map Value.cells)with
   |some z=>(Instr.fill (λj=>az (j*i.size,i.size)) (Hq z (len*i.size)) parts.toList).map λcs=>(e,cs)
   |none=>ba
  |none=>ba
 |_=>ba
def vS (P:ab) (t:af):Option (af×Nat×Nat×Array ac):=
 match P.underlying t with
 |some (.slice e)=>
  match P.info? e with
  |some i=>i.zero.map λz=>(e,i.size,i.bytes,z.cells)
  |none=>ba
 |_=>ba
def gD (P:ab) (f:aw):Bool:=
 match P.funcs[f]? with
 | some fn => !fn.body.isNone && !(fn.name == "runtime.NumGoroutine")
 |none=>bv
def yMh (P:ab) (f:aw) (args:Array ac) (w:ae) (rt:af) (K:ac->ae->Prop):Prop:=
 Calls P f args w λe w'=>Sq P rt λv=>e=.returned v/\K v w'
def Ext (P:ab) (f:aw) (args:Array ac) (w:ae) (v:ac) (w':ae):Prop:=(av f args).run P w=.ok (.value v) w'
def cL (P:ab) (o:ak) (ρ:Env) (w:ae) (K:ac->ae->Prop):Prop:=
 match o.op with
 | .alloc e=>
   match zero? P e with
   |some z=>Le w (.cells z.cells e) λb w'=>K (.pointer (az ⟨b,0,ba⟩)) w'
   |none=>False
 | .box e x=>Le w (.cells (ev ρ x).cells e) λb w'=>K (.pointer (az ⟨b,0,ba⟩)) w'
 | .buildSlice t len parts=>
   match L8 P t len (parts.map λ(i,x)=>(i,ev ρ x))with
   |some (e,cs)=>Le w (.cells cs e) λb w'=>K (.slice (az ⟨b,0,ba⟩) len len) w'
   |none=>False
 | .makeMap _ ba=>Le w (.map #[] 0) λb w'=>K (.map (az b)) w'
 | .makeSlice t l c=>
   match ev ρ l,ev ρ c with
   | .int _ l,.int _ c=>
     match vS P t with
     |some (e,sz,oC,z)=>(0<=l/\l<=c/\c<=9223372036854775807/\(oC:Int)*c<=2 ^ 48)/\
       Le w (.cells (madeCells z (c.toNat*sz)) e) λb w'=>K (.slice (az ⟨b,0,ba⟩) l.toNat c.toNat) w'
     |none=>False
   |_,_=>False
 | .store t x v=>
   match ev ρ x with
   | .pointer p=>JC p λa=>∃w',Hm P (storeVar t a (ev ρ v)) w w'/\K ap w'
   |_=>False
 | .mapUpdate t m k x=>∃w',Hm P (Instr.mapUpdate t (ev ρ m) (ev ρ k) (ev ρ x)) w w'/\K ap w'
 | .mapEntry t m k=>
   match yGv P t with
   |some e=>E7 P e λv=>Du (.int .i64) λs=>∃w',g7 P (Instr.mapEntry t (ev ρ m) (ev ρ k)) w (.tuple #[v,s]) w'/\K (.tuple #[v,s]) w'
   |none=>False
 | .entryStore t m s x=>∃w',Hm P (Instr.entryStore t (ev ρ m) (ev ρ s) (ev ρ x)) w w'/\K ap w'
 | .range t x=>
   match P.underlying t,ev ρ x with
   |some .string,.string s=>Le w (.stringIter s 0) λb w'=>K (.pointer (az ⟨b,0,ba⟩)) w'
   |_,x=>Du .ptr λv=>∃w',g7 P (Instr.range t x) w v w'/\K v w'
 | .next it bu=>
   (∃w',g7 P (Instr.next (ev ρ it) bu o.type) w (.tuple #[.bool bv]) w'/\K (.tuple #[.bool bv]) w')\/
   Du (.int .i64) λk=>Du (.int .i32) λv=>∃w',g7 P (Instr.next (ev ρ it) bu o.type) w (.tuple #[.bool bu,k,v]) w'/\K (.tuple #[.bool bu,k,v]) w'
 | .next it bv=>
   (∃w',g7 P (Instr.next (ev ρ it) bv o.type) w (.tuple #[.bool bv]) w'/\K (.tuple #[.bool bv]) w')\/
   ∃(k v:ac) (w':ae),g7 P (Instr.next (ev ρ it) bv o.type) w (.tuple #[.bool bu,k,v]) w'/\K (.tuple #[.bool bu,k,v]) w'
 | .convert s d x=>E7 P d λv=>∃w',g7 P (ay s d (ev ρ x)) w v w'/\K v w'
 | .call c=>
   match c.callee with
   | .value (.func f)=>bif gD P f then yMh P f (c.args.map (ev ρ)) w o.type K else Sq P o.type λv=>∃w',Ext P f (c.args.map (ev ρ)) w v w'/\K v w'
   | .value x=>
     match ev ρ x with
     | .func (.func f) first cap=>gD P f=bu/\yMh P f (first++c.args.map (ev ρ)++cap) w o.type K
     |_=>False
   | .builtin .append=>E7 P o.type λv=>∃w',g7 P (ce c.argTypes o.type (c.args.map (ev ρ))) w v w'/\K v w'
   | .builtin .copy=>Du (.int .i64) λv=>∃w',g7 P (cg c.argTypes o.type (c.args.map (ev ρ))) w v w'/\K v w'
   | .builtin .delete=>∃w',g7 P (Builtin.delete_ c.argTypes o.type (c.args.map (ev ρ))) w (.tuple #[]) w'/\K (.tuple #[]) w'
   | .builtin .clear=>∃w',g7 P (Builtin.clear_ c.argTypes o.type (c.args.map (ev ρ))) w (.tuple #[]) w'/\K (.tuple #[]) w'
   |_=>False
 |_=>False
def yH {P:ab} {s:Sem ac} {w w':ae} {v:ac} {K:ac->ae->Prop} (h:s.run P w= .ok v w') (hk:K v w'):nf P (do pure (Next.value (<- s))) w K:=by
 unfold nf;rw[yAk h];exact hk
def vD {P:ab} {s:Sem Unit} {w w':ae} {K:ac->ae->Prop} (h:s.run P w= .ok () w') (hk:K ap w'):nf P (do s;pure Next.skip) w K:=by
 unfold nf;rw[yKk h];exact hk
def zYb {P:ab} {f:aw} {args:Array ac} {w:ae} {rt:af} {K:ac->ae->Prop} (hb:gD P f=bu) (h:yMh P f args w rt K):nf P (av f args) w K:=by
 unfold gD at hb;split at hb
 ·rename_i fn FQ;simp only[lj,De,Bool.not_eq_eq_eq_not,Bool.not_true]at hb;unfold nf;have:(av f args).run P w= .ok (.enter f args) w:=by
   simp only[av,bind,pure,run_bind,program,be,bg,FQ,hb.1,hb.2,oL,if_false]
  rw[this];exact h.mono λe w' hh=>by
   obtain⟨v,hv,hk⟩:=yDx hh;exact⟨v,hv,hk⟩
 ·cases hb
def lz {P:ab} {t:af} {z:ac} (h:zero? P t=az z) (w:ae):(zeroValue t).run P w= .ok z w:=by
 unfold zero? at h;split at h
 ·rename_i i hi;have Is:(typeInfo t).run P w= .ok i w:=by
   unfold typeInfo;show((Sem.program bo).bind _).run P w=_;simp only[bg,be,hi];rfl
  unfold zeroValue;simp only[bind,run_bind,Is,h];rfl
 ·cases h
def zTv {P:ab} {t:af} {v:ac} (w:ae):(newVar t v).run P w= .ok ⟨w.heap.size,0,ba⟩ (w.alloc (.cells v.cells t)):=rfl
def zIr {P:ab} {t:af} {i:TypeInfo} (h:P.info? t=az i) (w:ae):(typeInfo t).run P w= .ok i w:=by
 unfold typeInfo;show((Sem.program bo).bind _).run P w=_;simp only[bg,be,h];rfl
def pE {P:ab} {t:af} {len:Nat} {parts:Array (Nat×ac)} {e:af} {cs:Array ac} (h:L8 P t len parts=az (e,cs)) (w:ae):
 (Instr.buildSlice t len parts).run P w= .ok (.slice (az ⟨w.heap.size,0,ba⟩) len len) (w.alloc (.cells cs e)):=by
 unfold L8 at h;split at h<;>first|(cases h;done)|skip
 rename_i e' ht;split at h<;>first|(cases h;done)|skip
 rename_i i hi;split at h<;>first|(cases h;done)|skip
 rename_i hlen;split at h<;>first|(cases h;done)|skip
 rename_i z hz;simp only[bc,dk]at h;obtain⟨CJ,HL,rfl,rfl⟩:=h;by_cases h0:len*i.size=0
 ·simp only[h0,if_true,cu]at hz;subst hz;simp only[Instr.buildSlice,bind,pure,run_bind,bg,be,run_underlying ht,run_sizeOf hi,eg hlen,fc h0,YJ,HL];rfl
 ·simp only[h0,if_false,bc]at hz;obtain⟨z',RD,rfl⟩:=hz;have ET:∀w,(zeroValue e').run P w= .ok z' w:=λw=>lz (by unfold zero?;rw[hi];exact RD) w
  simp only[Instr.buildSlice,bind,pure,run_bind,bg,be,run_underlying ht,run_sizeOf hi,eg hlen,eg h0,ET,YJ,HL];rfl
def jF {P:ab} {t e:af} {sz oC:Nat} {z:Array ac} (h:vS P t=az (e,sz,oC,z)):
 ∃i zv,P.underlying t=az (.slice e)/\P.info? e=az i/\i.size=sz/\i.bytes=oC/\i.zero=az zv/\zv.cells=z:=by
 unfold vS at h;split at h<;>first|(cases h;done)|skip
 rename_i e' ht;split at h<;>first|(cases h;done)|skip
 rename_i i hi;simp only[bc,dk]at h;obtain⟨zv,XE,rfl,rfl,rfl,rfl⟩:=h;exact⟨i,zv,ht,hi,rfl,rfl,XE,rfl⟩
def wrap_i64 {x:Int} (h0: -9223372036854775808<=x) (h1:x<=9223372036854775807):dh.wrap x=x:=IntWalk.i64_in x ⟨h0,h1⟩
def zOj (P:ab) (n:Nat) (w:ae):(askRoom n).run P w= .ok () w:=by
 unfold askRoom;split<;>rfl
def zUn {P:ab} {t e:af} {sz oC:Nat} {z:Array ac} {k k':aj} {l c:Int} (h:vS P t=az (e,sz,oC,z))
 (hb:0<=l/\l<=c/\c<=9223372036854775807/\(oC:Int)*c<=2 ^ 48) (w:ae):
 (Instr.makeSlice t (.int k l) (.int k' c)).run P w= .ok (.slice (az ⟨w.heap.size,0,ba⟩) l.toNat c.toNat) (w.alloc (.cells (madeCells z (c.toNat*sz)) e)):=by
 obtain⟨i,zv,ht,hi,rfl,rfl,hz,rfl⟩:=jF h;obtain⟨h1,h2,h3,h4⟩:=hb;have wl:dh.wrap l=l:=wrap_i64 (by omega) (by omega);have wc:dh.wrap c=c:=wrap_i64 (by omega) (by omega);have CI:¬(((decide (c<0)||decide ((i.bytes:Int)*c>2 ^ 48))||decide (l<0)||decide (l>c))=bu):=by
  simp only[NZ,tq,not_or];omega
 have ET:∀w,(zeroValue e).run P w= .ok zv w:=λw=>lz (by unfold zero?;rw[hi];exact hz) w
 simp only[Instr.makeSlice,asInt,asIntOf,bind,pure,run_bind,bg,be,run_underlying ht,zIr hi,run_sizeOf hi,wl,wc];rw[eg CI];simp only[run_bind,zOj,run_sizeOf hi];by_cases h0:c.toNat*i.size=0
 ·simp only[h0,if_true,be,run_bind,madeCells];have e1:(Array.map (λx=>(#[]:Array ac)[x % (#[]:Array ac).size]!) (Array.range 0))= #[]:=by simp
  have e2:(Array.map (λx=>zv.cells[x % zv.cells.size]!) (Array.range 0))= #[]:=by simp
  rw[e1,e2];rfl
 ·simp only[eg h0,run_bind,ET,be,madeCells];rfl
def zXb {P:ab} {ρ:Env} {o:ak} {w:ae} {K:ac->ae->Prop} (h:cL P o ρ w K):nf P (ag (ev ρ) o) w K:=by
 cases ho:o.op
 case alloc e=>
  simp only[cL,ho]at h;split at h
  ·rename_i z hz;simp only[ag,ho];refine yH (v:= .pointer (az ⟨w.heap.size,0,ba⟩)) (w':=w.alloc (.cells z.cells e)) ?_ (h _ _ rfl rfl);simp only[Instr.alloc,bind,pure,run_bind,lz hz,be,zTv]
  ·exact h.elim
 case box e x=>
  simp only[cL,ho]at h;simp only[ag,ho];exact yH (v:= .pointer (az ⟨w.heap.size,0,ba⟩)) (w':=w.alloc (.cells (ev ρ x).cells e)) rfl (h _ _ rfl rfl)
 case buildSlice t len parts=>
  simp only[cL,ho]at h;split at h
  ·rename_i e cs HL;simp only[ag,ho];exact yH (pE HL w) (h _ _ rfl rfl)
  ·exact h.elim
 case makeMap t r=>
  cases r with
  |some r=>simp only[cL,ho]at h
  |none=>
   simp only[cL,ho]at h;simp only[ag,ho];exact yH (v:= .map (az w.heap.size)) (w':=w.alloc (.map #[] 0)) rfl (h _ _ rfl rfl)
 case makeSlice t l c=>
  simp only[cL,ho]at h;split at h<;>first|exact h.elim|skip
  rename_i k l' k' c' hl hc;split at h<;>first|exact h.elim|skip
  rename_i e sz oC z hs;simp only[ag,ho,hl,hc];exact yH (zUn hs h.1 w) (h.2 _ _ rfl rfl)
 case store t x v=>
  simp only[cL,ho]at h;split at h<;>first|exact h.elim|skip
  rename_i p hx;obtain⟨a,rfl,w',hw,hk⟩:=sS h;simp only[ag,ho,hx];exact vD (w':=w') hw hk
 case mapUpdate t m k x=>
  simp only[cL,ho]at h;obtain⟨w',hw,hk⟩:=h;simp only[ag,ho];exact vD hw hk
 case mapEntry t m k=>
  simp only[cL,ho]at h;split at h<;>first|exact h.elim|skip
  obtain⟨v,h⟩:=vP h;obtain⟨s,w',hw,hk⟩:=wT h;simp only[ag,ho];exact yH hw hk
 case entryStore t m s x=>
  simp only[cL,ho]at h;obtain⟨w',hw,hk⟩:=h;simp only[ag,ho];exact vD hw hk
 case range t x=>
  simp only[cL,ho]at h;split at h
  ·rename_i s ht hx;simp only[ag,ho];refine yH (v:= .pointer (az ⟨w.heap.size,0,ba⟩)) (w':=w.alloc (.stringIter s 0)) ?_ (h _ _ rfl rfl);rw[hx];simp only[Instr.range,bind,pure,run_bind,bg,run_underlying ht];rfl
  ·obtain⟨v,w',hw,hk⟩:=wT h;simp only[ag,ho];exact yH hw hk
 case next it isString=>
  simp only[ag,ho];cases isString
  ·simp only[cL,ho]at h;rcases h with⟨w',hw,hk⟩|⟨k,v,w',hw,hk⟩
   ·exact yH hw hk
   ·exact yH hw hk
  ·simp only[cL,ho]at h;rcases h with⟨w',hw,hk⟩|h
   ·exact yH hw hk
   ·obtain⟨k,h⟩:=wT h;obtain⟨v,w',hw,hk⟩:=wT h;exact yH hw hk
 case convert s d x=>
  simp only[cL,ho]at h;obtain⟨v,w',hw,hk⟩:=vP h;simp only[ag,ho];exact yH hw hk
 case call c=>
  have tp:ag (ev ρ) o=(au (ev ρ) c o.type).bind λd=>invoke d.target d.args:=by
   simp only[ag,ho];rfl
  simp only[cL,ho]at h;split at h
  ·rename_i f hc;have jh:(ag (ev ρ) o)=av f (c.args.map (ev ρ)):=by
    rw[tp];unfold au;rw[hc];simp only[ev,Deferred.ofValue,pure,bg,invoke,Array.append_empty,Array.empty_append]
   rw[jh];revert h;cases hb:gD P f<;>intro h
   ·replace h:Sq P o.type λv=>∃w',Ext P f (c.args.map (ev ρ)) w v w'/\K v w':=h
    obtain⟨v,w',hw,hk⟩:=yDx h;exact(by unfold nf;rw[show(av f (c.args.map (ev ρ))).run P w=_ from hw];exact hk)
   ·exact zYb hb h
  ·rename_i x hc;split at h<;>first|exact h.elim|skip
   rename_i f first cap hx
   have jh:(ag (ev ρ) o)=av f (first++c.args.map (ev ρ)++cap):=by
    rw[tp];unfold au;rw[hc];simp only[hx,Deferred.ofValue,pure,bg,invoke]
   rw[jh];exact zYb h.1 h.2
  all_goals first|exact h.elim|skip
  ·rename_i hc;have jh:ag (ev ρ) o=builtin .append c.argTypes o.type (c.args.map λ| .const _=>bu|_=>bv) (c.args.map (ev ρ)):=by
    rw[tp];unfold au;rw[hc];rfl
   rw[jh];obtain⟨v,w',hw,hk⟩:=vP h;exact yH hw hk
  ·rename_i hc;have jh:ag (ev ρ) o=builtin .copy c.argTypes o.type (c.args.map λ| .const _=>bu|_=>bv) (c.args.map (ev ρ)):=by
    rw[tp];unfold au;rw[hc];rfl
   rw[jh];obtain⟨v,w',hw,hk⟩:=wT h;exact yH hw hk
  ·rename_i hc;have jh:ag (ev ρ) o=builtin .delete c.argTypes o.type (c.args.map λ| .const _=>bu|_=>bv) (c.args.map (ev ρ)):=by
    rw[tp];unfold au;rw[hc];rfl
   rw[jh];obtain⟨w',hw,hk⟩:=h;exact yH hw hk
  ·rename_i hc;have jh:ag (ev ρ) o=builtin .clear c.argTypes o.type (c.args.map λ| .const _=>bu|_=>bv) (c.args.map (ev ρ)):=by
    rw[tp];unfold au;rw[hc];rfl
   rw[jh];obtain⟨w',hw,hk⟩:=h;exact yH hw hk
 all_goals(simp only[cL,ho]at h)
end Cv
namespace Cv
open Go
def O9:aq->Bool
 | .const (.pointer ba)=>bu
 |_=>bv
def Uu (P:ab) (op:Op):Nat:=
 match op with
 | .load _ _=>1
 | .lookup _ _ _ _=>1
 | .convert s d _=>
   match P.underlying s,P.underlying d with
   |some .string,az (.slice _)=>2
   |some (.slice _),az .string=>1
   |_,_=>0
 | .binOp op t x y _=>
   match op,P.underlying t with
   | .eql,az (.pointer _)=>bif O9 y then 0 else 1
   | .neq,az (.pointer _)=>bif O9 y then 0 else 1
   |_,_=>0
 | .call c=>
   match c.callee with
   | .builtin .len=>
     match(c.argTypes[0]?).bind P.underlying with
     |some (.map _ _)=>1
     |_=>0
   | .builtin .cap=>0
   | .builtin .min=>0
   | .builtin .max=>0
   |_=>2
 | .alloc _=>2
 | .box _ _=>2
 | .buildSlice _ _ _=>2
 | .makeMap _ _=>2
 | .makeSlice _ _ _=>2
 | .store _ _ _=>2
 | .mapUpdate _ _ _ _=>2
 | .mapEntry _ _ _=>2
 | .entryStore _ _ _ _=>2
 | .range _ _=>2
 | .entry _=>1
 | .next _ _=>2
 |_=>0
def opV (P:ab) (o:ak) (ρ:Env) (w:ae) (K:ac->ae->Prop):Prop:=
 match Uu P o.op with
 |0=>bM P o ρ λv=>K v w
 |1=>A2 P o ρ w λv=>K v w
 |_=>cL P o ρ w K
def wQ {P:ab} {s:Sem Next} {w w':ae} {v:ac} {K:ac->ae->Prop} (h:s.run P w= .ok (.value v) w') (hk:K v w'):nf P s w K:=by
 unfold nf;rw[h];exact hk
def yKu {P:ab} {o:ak} {ρ:Env} {w:ae} {K:ac->ae->Prop} (h:opV P o ρ w K):nf P (ag (ev ρ) o) w K:=by
 unfold opV at h;split at h
 ·obtain⟨v,hk,hf⟩:=fV h;exact wQ (hf w) hk
 ·obtain⟨v,hk,hf⟩:=z9x h;exact wQ hf hk
 ·exact zXb h
def W6 (ops:List ak) (j:Nat):Option Nat:=
 match ops[j]? with
 |some o=>o.dst
 |none=>ba
def gd (c want:Bool) (Y N:Prop):Prop:=
 match c,want with
 |true,bu=>Y
 |false,bv=>Y
 |true,bv=>N
 |false,bu=>N
def OU (ops:List ak) (g:Option (Nat×Bool)) (ρ:Env) (Y N:Env->Prop):Prop:=
 match g with
 |none=>Y ρ
 |some (j,want)=>
  match W6 ops j with
  |none=>N ρ
  |some d=>
   match ρ d with
   | .bool c=>gd c want (Y (put ρ (az d) (.bool want))) (N (put ρ (az d) (.bool !want)))
   |_=>N ρ
def z3k {ρ:Env} {d:Nat} {v:ac} (h:ρ d=v):put ρ (az d) v=ρ:=by
 funext i;simp only[put];cases hb:cx i d
 ·rfl
 ·have:=ja hb;subst this;exact h.symm
@[reducible] def yQ (a:Act):Env:=λi=>a.tmps.getD i ap
def vF (a:Act):ev (yQ a)=a.eval:=by
 funext x;cases x<;>rfl
def mc {a:Act} {dst:Option Nat} {v:ac} (h:∀d,dst=az d->d<a.tmps.size):yQ (a.put dst v)=put (yQ a) dst v:=by
 cases dst with
 |none=>rfl
 |some d=>
  funext i;have:=h d rfl;simp only[yQ,Act.put,put];cases hb:cx i d
  ·have jr:i≠d:=λe=>by subst e;simp at hb
   simp[CE,Xr (Ne.symm jr)]
  ·have e:=ja hb;subst e;simp[CE,Xs this]
def zIa (ops:List ak) (tmps:Array ac) (j:Nat):yielded ops.toArray tmps j=match W6 ops j with
 |none=>ba
 |some d=>match tmps[d]? with|some (.bool b)=>az b|_=>ba:=by
 unfold yielded W6;simp only[Bc];cases ops[j]? with
 |none=>rfl
 |some o=>
  obtain⟨dst,op,ty,pos,after,g⟩:=o;cases dst with
  |none=>rfl
  |some d=>
   simp only[Option.bind_some];cases tmps[d]? with
   |none=>rfl
   |some v=>cases v<;>rfl
def eY {ops:List ak} {o:ak} {a:Act} {Y N:Env->Prop} (h:OU ops o.guard (yQ a) Y N):
 if co o (yielded ops.toArray a.tmps)then Y (yQ a)else N (yQ a):=by
 unfold OU at h;unfold co;split at h
 ·rename_i hg;rw[hg];exact h
 ·rename_i j want hg;rw[hg];have hy:=zIa ops a.tmps j;split at h
  ·rename_i hd;rw[hd]at hy;simp only[hy];simpa using h
  ·rename_i d hd;rw[hd]at hy;simp only[hy];have hv:yQ a d=(a.tmps[d]?).getD ap:=by simp[yQ,CE]
   rw[hv]at h;cases ht:a.tmps[d]? with
   |none=>
    rw[ht]at h;simpa[ap]using h
   |some v=>
    rw[ht]at h hv;simp only[zt]at h hv;cases v with
    |bool c=>
     simp only[]at h ⊢;have hs:∀b,c=b->put (yQ a) (az d) (.bool b)=yQ a:=λb hb=>z3k (by rw[hv,hb])
     cases c<;>cases want<;>simp only[gd,Bool.not_true,JH]at h<;>rw[hs _ rfl]at h<;>simpa using h
    |_=>simpa using h
def PU (P:ab) (ops:List ak):List ak->Env->ae->(Env->ae->Prop)->Prop
 |[],ρ,w,K=>K ρ w
 |o::rest,ρ,w,K=>
  OU ops o.guard ρ (λρ=>opV P o ρ w λv w'=>PU P ops rest (put ρ o.dst v) w' K) (λρ=>PU P ops rest (put ρ o.dst ap) w K)
def Ji (n:Nat) (A:Nat->Bool) (ops:List ak):Prop:=∀o∈ops,∀d,o.dst=az d->d<n/\A d=bu
structure Good (n:Nat) (A:Nat->Bool) (e0:Env) (a:Act):Prop where
 size:a.tmps.size=n
 defers:a.defers=[]
 same:∀s,A s=bv->yQ a s=e0 s
def z7c (a:Act) (d:Option Nat) (v:ac):(a.put d v).tmps.size=a.tmps.size/\(a.put d v).defers=a.defers:=by
 cases d<;>simp[Act.put]
def Good.mc {n:Nat} {A:Nat->Bool} {e0:Env} {a:Act} (h:Good n A e0 a) {dst:Option Nat} (hd:∀d,dst=az d->d<n/\A d=bu) (v:ac):
 yQ (a.put dst v)=put (yQ a) dst v:=Cv.mc λd oO=>by rw[h.size];exact(hd d oO).1
def Good.put {n:Nat} {A:Nat->Bool} {e0:Env} {a:Act} (h:Good n A e0 a) {dst:Option Nat} (hd:∀d,dst=az d->d<n/\A d=bu) (v:ac):Good n A e0 (a.put dst v):=by
 refine⟨(z7c _ _ _).1.trans h.size,(z7c _ _ _).2.trans h.defers,λs hs=> ?_⟩;rw[h.mc hd];cases dst with
 |none=>exact h.same s hs
 |some d=>
  simp only[Cv.put];cases hb:cx s d
  ·exact h.same s hs
  ·have e:=ja hb;subst e;have:=(hd s rfl).2;rw[hs]at this;cases this
def zFw {P:ab} {o:ak} {a:Act} {w:ae} {K:Act->ae->Prop} {Q:Exit->Act->ae->Prop}
 (h:nf P (ag a.eval o) w λv w'=>K (a.put o.dst v) w'):o.wp P a w K Q:=by
 unfold nf at h;unfold Oper.wp;split at h
 ·rename_i v w' hr;rw[hr];exact h
 ·rename_i w' hr;rw[hr];exact h
 ·rename_i f args w' hr;rw[hr];exact h.mono λe Xt ⟨v,he,hk⟩=>by subst he;exact hk
 ·exact h.elim
def zUa {P:ab} {ops:List ak} {n:Nat} {A:Nat->Bool} {e0:Env} {Q:Exit->Act->ae->Prop} {K:Env->ae->Prop}
 (hQ:∀a w,Good n A e0 a->K (yQ a) w->Q .normal a w):
 ∀(l:List ak) (a:Act) (w:ae),Ji n A l->Good n A e0 a->PU P ops l (yQ a) w K->wpList P ops.toArray Q l a w
 |[],a,w,_,hg,h=>hQ a w hg h
 |o::l,a,w,hf,qn,h=>by
  have yd:=hf o iS;have hf':Ji n A l:=λo' oG=>hf o' (jc _ oG)
  have hg:=eY h;have nx:∀{v:ac} {w:ae},PU P ops l (put (yQ a) o.dst v) w K->wpList P ops.toArray Q l (a.put o.dst v) w:=λ{v w} hh=>
   zUa hQ l _ _ hf' (qn.put yd v) (by rw[qn.mc yd];exact hh)
  unfold wpList;split
  ·rename_i hw;rw[fc hw]at hg;left;refine zFw ?_;have:=yKu hg;rw[vF]at this;unfold nf at this ⊢;split at this
   ·exact nx this
   ·exact nx this
   ·exact this.mono λe Xt ⟨v,he,hk⟩=>⟨v,he,nx hk⟩
   ·exact this
  ·rename_i hw;rw[eg hw]at hg;exact nx hg
end Cv
namespace Cv
open Go
def yOw (acc:List Nat) (o:ak):Nat:=
 o.after.toList.foldl (λs e=>bif cn .any e then s|||2 ^ e.on|||acc.getD e.on 0 else s) 0
def hP:List ak->List Nat->List Nat
 |[],acc=>acc
 |o::rest,acc=>hP rest (acc++[yOw acc o])
def Bn (bf:List Nat) (i r:Nat):Bool:=(bf.getD i 0).testBit r
def lI (ops:List ak) (L:Nat->Prop):Prop:=∀i o,ops[i]?=az o->L i->∀e∈o.after,cn .any e=bu->L e.on
def zXd {ops:List ak} {acc:List Nat} {L:Nat->Prop} (CV:∀k,L k->∀r,(acc.getD k 0).testBit r=bu->L r):
 ∀(l:List Edge) (s:Nat),(∀r,s.testBit r=bu->L r)->(∀e∈l,cn .any e=bu->L e.on)->
  ∀r,(l.foldl (λs e=>bif cn .any e then s|||2 ^ e.on|||acc.getD e.on 0 else s) s).testBit r=bu->L r
 |[],s,hs,_,r,h=>hs r h
 |e::l,s,hs,hl,r,h=>by
  refine zXd (ops:=ops) CV l _ ?_ (λe' rl=>hl e' (jc _ rl)) r h;intro r hr;dsimp only at hr;cases hb:cn .any e
  ·rw[hb]at hr;exact hs r hr
  ·have XQ:=hl e (by simp) hb;rw[hb]at hr;simp only[cond_true,Nat.testBit_or,Nat.testBit_two_pow,NZ,tq]at hr;rcases hr with(hr|hr)|hr
   ·exact hs r hr
   ·exact hr▸XQ
   ·exact CV _ XQ r hr
def Al {ops:List ak} {L:Nat->Prop} (hc:lI ops L):∀(l:List ak) (acc:List Nat),(∀j,l[j]? =ops[acc.length+j]?)->
 (∀k o,k<acc.length->ops[k]? =az o->(∀e∈o.after,cn .any e=bu->L e.on)->∀r,(acc.getD k 0).testBit r=bu->L r)->
 ∀k o,ops[k]? =az o->(∀e∈o.after,cn .any e=bu->L e.on)->∀r,((hP l acc).getD k 0).testBit r=bu->L r
 |[],acc,hl,CV,k,o,ho,hd,r,hr=>by
  by_cases hk:k<acc.length
  ·exact CV k o hk ho hd r hr
  ·exfalso;have:=hl (k-acc.length);rw[show acc.length+(k-acc.length)=k by omega,ho]at this;simp at this
 |o::l,acc,hl,CV,k,o',oG,hd,r,hr=>by
  refine Al hc l (acc++[yOw acc o]) ?_ ?_ k o' oG hd r hr
  ·intro j;have:=hl (j+1);simp only[iv,iC,rn];rw[show acc.length+(0+1)+j=acc.length+(j+1)by omega];simpa using this
  ·intro k2 o2 oU Oz Aw r2 xo;have TY:∀k,L k->∀r,(acc.getD k 0).testBit r=bu->L r:=by
    intro k3 hL r3 h3;by_cases Iy:k3<acc.length
    ·cases ho3:ops[k3]? with
     |none=>
      exfalso;have:=hl 0;simp only[Fw]at this;rw[Xo]at ho3;have h4:acc.length<ops.length:=by
       rcases vh acc.length ops.length with h|h
       ·exact h
       ·rw[ud h]at this;simp at this
      omega
     |some o3=>exact CV k3 o3 Iy ho3 (hc k3 o3 ho3 hL) r3 h3
    ·simp[oc,ud (Nat.not_lt.1 Iy)]at h3
   by_cases hk:k2<acc.length
   ·rw[oc,FC hk,<- oc]at xo;exact CV k2 o2 hk Oz Aw r2 xo
   ·have pj:k2=acc.length:=by simp at oU;omega
    subst pj;rw[oc,Dg (lh _)]at xo;simp only[JF,CC,zt]at xo;have h0:=hl 0;simp only[CC,Fw]at h0;rw[Oz]at h0;cases h0;exact zXd (ops:=ops) TY _ 0 (by simp) (λe he hb=>Aw e (by simpa using he) hb) r2 xo
def z7r {ops:List ak} {L:Nat->Prop} (hc:lI ops L) {i:Nat} {o:ak} (ho:ops[i]? =az o) (hd:∀e∈o.after,cn .any e=bu->L e.on)
 {r:Nat} (h:Bn (hP ops []) i r=bu):L r:=
 Al hc ops [] (by simp) (by simp) i o ho hd r h
@[reducible] def Mon:=Nat×(ae->Prop)
def jX (bf:List Nat) (i:Nat) (M:List Mon):List Mon:=M.filter λm=> !Bn bf i m.1
def Fg (M:List Mon) (w:ae):Prop:=∀m∈M,m.2 w
def EH (P:ab) (ops:Array ak) (i:Nat) (K:Act->ae->Prop) (a:Act) (w:ae):Prop:=
 match ops[i]? with
 |none=>K a w
 |some o=>if co o (yielded ops a.tmps)then nf P (ag a.eval o) w (λv w'=>K (a.put o.dst v) w')else K (a.put o.dst ap) w
def nf.mono {P:ab} {s:Sem Next} {w:ae} {K K':ac->ae->Prop} (h:nf P s w K) (hk:∀v w',K v w'->K' v w'):nf P s w K':=by
 unfold nf at*;split at h
 ·exact hk _ _ h
 ·exact hk _ _ h
 ·exact h.mono λe Xt ⟨v,he,h⟩=>⟨v,he,hk _ _ h⟩
 ·exact h
def VH {P:ab} {ops:Array ak} {i:Nat} {K K':Act->ae->Prop} {a:Act} {w:ae} (h:EH P ops i K a w) (hk:∀a w,K a w->K' a w):EH P ops i K' a w:=by
 unfold EH at*;split
 ·rename_i ho;simp only[ho]at h;exact hk _ _ h
 ·rename_i o ho;simp only[ho]at h;split
  ·rename_i hw;rw[fc hw]at h;exact h.mono λv w'=>hk _ _
  ·rename_i hw;rw[eg hw]at h;exact hk _ _ h
def C' (P:ab) (ops:Array ak) (bf:List Nat) (Q:Act->ae->Prop):Nat->List Mon->Array Bool->Act->ae->Prop
 |0,_,fk,a,w=>cm .any ops fk=[]/\Q a w
 |fuel+1,M,fk,a,w=>
  (cm .any ops fk=[]->Q a w)/\
  ∀i∈cm .any ops fk,EH P ops i (λa' w'=>Fg (jX bf i M) w'/\C' P ops bf Q fuel (jX bf i M) (fk.setIfInBounds i bu) a' w') a w
def zXn {bf:List Nat} {i:Nat} {M M':List Mon} (h:∀m∈M',m∈M):∀m∈jX bf i M',m∈jX bf i M:=by
 intro m hm;simp only[jX,wb]at hm ⊢;exact⟨h m hm.1,hm.2⟩
def z5u {P:ab} {ops:Array ak} {bf:List Nat} {Q:Act->ae->Prop}:∀(fuel:Nat) {M M':List Mon} (fk:Array Bool) (a:Act) (w:ae),
 (∀m∈M',m∈M)->C' P ops bf Q fuel M fk a w->C' P ops bf Q fuel M' fk a w
 |0,_,_,_,_,_,_,h=>h
 |fuel+1,M,M',fk,a,w,hs,h=>⟨h.1,λi hi=>VH (h.2 i hi) λa' w' hh=>
   ⟨λm hm=>hh.1 m (zXn hs m hm),z5u fuel _ _ _ (zXn hs) hh.2⟩⟩
def g8 {P:ab} {ops:Array ak} {bf:List Nat} {Q:Act->ae->Prop} {Q':Exit->Act->ae->Prop} (hQ:∀a w,Q a w->Q' .normal a w):
 ∀(fuel:Nat) {M:List Mon} (fk:Array Bool) (a:Act) (w:ae),C' P ops bf Q fuel M fk a w->wpAny P .any ops Q' fuel fk a w
 |0,_,_,_,_,h=>⟨h.1,hQ _ _ h.2⟩
 |fuel+1,M,fk,a,w,h=>⟨λh0=>hQ _ _ (h.1 h0),λi hi=>by
   have:=h.2 i hi;unfold EH at this;unfold wpOp;split
   ·rename_i ho;simp only[ho]at this;exact g8 hQ fuel _ _ _ this.2
   ·rename_i o ho;simp only[ho]at this;split
    ·rename_i hw;rw[fc hw]at this;exact .inl (zFw (this.mono λv w' hh=>g8 hQ fuel _ _ _ hh.2))
    ·rename_i hw;rw[eg hw]at this;exact g8 hQ fuel _ _ _ this.2⟩
def lV (P:ab) (ops:Array ak) (o:ak) (v:ac) (a:Act) (w:ae):Prop:=
 (co o (yielded ops a.tmps)=bu/\(ag a.eval o).run P w=.ok (.value v) w)\/(co o (yielded ops a.tmps)=bv/\v=ap)
def zVp {P:ab} {ops:Array ak} {i:Nat} {o:ak} {v:ac} {a:Act} {w:ae} {K:Act->ae->Prop} (hi:ops[i]? =az o) (h:lV P ops o v a w) (hk:K (a.put o.dst v) w):EH P ops i K a w:=by
 unfold EH;simp only[hi];rcases h with⟨hw,hr⟩|⟨hw,rfl⟩
 ·rw[fc hw];exact wQ hr hk
 ·rw[eg (by rw[hw];simp)];exact hk
def yJz {fk:Array Bool} {i:Nat} (h:fk.getD i bu=bv):i<fk.size:=by
 rcases vh i fk.size with h'|h'
 ·exact h'
 ·simp[CE,Hv h']at h
def qT (fk:Array Bool) (i:Nat):Prop:=fk.getD i bv=bu
def zKh {fk:Array Bool} {i j:Nat} (h:qT fk j):qT (fk.setIfInBounds i bu) j:=by
 unfold qT at*;by_cases J2:i=j
 ·subst J2;have:i<fk.size:=by
   rcases vh i fk.size with h'|h'
   ·exact h'
   ·simp[CE,Hv h']at h
  simp[CE,Xs this]
 ·simpa[CE,Xr J2]using h
def zKm {fk:Array Bool} {i j:Nat} (h:qT (fk.setIfInBounds i bu) j):j=i\/qT fk j:=by
 unfold qT at*;by_cases J2:i=j
 ·exact .inl J2.symm
 ·right;simpa[CE,Xr J2]using h
def zRh {fk:Array Bool} {i:Nat} (h:fk.getD i bu=bv):¬qT fk i:=by
 unfold qT;have:=yJz h;simp only[CE,Rr this]at h ⊢;simp at h ⊢;exact h
def u0 {ops:List ak} {fk:Array Bool} (hc:lI ops (qT fk)) {i:Nat} (hi:i∈cm .any ops.toArray fk):lI ops (qT (fk.setIfInBounds i bu)):=by
 intro j o ho hj e he hb;rcases zKm hj with rfl|hj
 ·obtain⟨_,o',oG,tf⟩:=mem_ready.1 hi;simp only[Bc]at oG;rw[ho]at oG;cases oG;exact zKh (tf e he hb)
 ·exact zKh (hc j o ho hj e he hb)
def eK (ops:List ak) (bf:List Nat):Bool:=
 Region.noSelect ops.toArray && (dc ops.length).all λi=>(dc i).all λj=>
  match ops[i]?,ops[j]? with
  |some oi,az oj=>Bn bf i j||(oi.apart ops.toArray oj && oj.apart ops.toArray oi)
  |_,_=>bu
def z6b {ops:List ak} {bf:List Nat} (h:eK ops bf=bu) {i j:Nat} {oi oj:ak} (hi:ops[i]? =az oi) (hj:ops[j]? =az oj) (jr:i≠j)
 (h1:Bn bf i j=bv) (h2:Bn bf j i=bv):oi.apart ops.toArray oj=bu:=by
 simp only[eK,lj,Eb,CB]at h;have lt:∀{k:Nat} {o:ak},ops[k]? =az o->k<ops.length:=λ{k o} hk=>by
  rcases vh k ops.length with h'|h'
  ·exact h'
  ·rw[ud h']at hk;cases hk
 rcases Nat.lt_or_gt_of_ne jr with gn|gn
 ·have:=h.2 j (lt hj) i gn;simp only[hi,hj,h2,Ly,lj]at this;exact this.2
 ·have:=h.2 i (lt hi) j gn;simp only[hi,hj,h1,Ly,lj]at this;exact this.1
def yUg {P:ab} {ops:Array ak} {o:ak} {v u:ac} {a:Act} {w:ae} {d:Option Tmp} (hs:∀cs b,o.op≠.select cs b) (hd:∀t,d=az t->t∉o.looksAt ops):
 lV P ops o v (a.put d u) w↔lV P ops o v a w:=by
 unfold lV;rw[execOp_put o hs a d u hd,wanted_put o a d u hd]
def yLo {P:ab} {ops:Array ak} {j:Nat} {oi oj:ak} {v:ac} (hj:ops[j]? =az oj) (J4:oi.apart ops oj=bu) (hsj:∀cs b,oj.op≠.select cs b)
 {K:Act->ae->Prop} {a:Act} {w:ae} (h:EH P ops j K (a.put oi.dst v) w):
 EH P ops j (λa' w'=>(∃u,a'=a.put oj.dst u)/\K (a'.put oi.dst v) w') a w:=by
 obtain⟨h1,h2,h3⟩:=Oper.apart_spec J4;unfold EH at*;simp only[hj]at*;rw[wanted_put oj a oi.dst v h1]at h;split
 ·rename_i hw;rw[fc hw]at h;rw[execOp_put oj hsj a oi.dst v h1]at h;refine h.mono λu w' hk=>⟨⟨u,rfl⟩,?_⟩
  rw[<- Act.put_comm a v u h2];exact hk
 ·rename_i hw;rw[eg hw]at h;exact⟨⟨_,rfl⟩,by rw[<- Act.put_comm a v ap h2];exact h⟩
def fL {P:ab} {ops:List ak} {Q:Act->ae->Prop} (oT:eK ops (hP ops [])=bu) {r:Nat} {o:ak} {v:ac} (hr:ops[r]? =az o):
 ∀(fuel:Nat) (M:List Mon) (fk:Array Bool) (a:Act) (w:ae),lI ops (qT fk)->r∈cm .any ops.toArray fk->
  lV P ops.toArray o v a w->Fg M w->
  C' P ops.toArray (hP ops []) Q fuel ((r,λw=>lV P ops.toArray o v a w)::M) (fk.setIfInBounds r bu) (a.put o.dst v) w->
  C' P ops.toArray (hP ops []) Q (fuel+1) M fk a w:=by
 have hns:∀(i:Nat) (o:ak),ops[i]? =az o->∀cs b,o.op≠.select cs b:=by
  intro i o hi cs b;simp only[eK,lj]at oT;exact Region.noSelect_spec oT.1 i o cs b (by simpa using hi)
 intro fuel
 induction fuel with
 |zero=>
  intro M fk a w hc LS hs hM H;refine⟨λh=>(by rw[h]at LS;cases LS),λi hi=> ?_⟩;by_cases J1:i=r
  ·subst J1;refine zVp (by simpa using hr) hs ⟨λm hm=>hM m (by simp only[jX,wb]at hm;exact hm.1),?_⟩;exact H
  ·have:=ready_mono hi J1;rw[H.1]at this;cases this
 |succ fuel ih=>
  intro M fk a w hc LS hs hM H;refine⟨λh=>(by rw[h]at LS;cases LS),λi hi=> ?_⟩;by_cases J1:i=r
  ·subst J1;refine zVp (by simpa using hr) hs ⟨λm hm=>hM m (by simp only[jX,wb]at hm;exact hm.1),?_⟩;refine z5u _ _ _ _ ?_ H;intro m hm;simp only[jX,wb]at hm;exact jc _ hm.1
  ·have h1:=H.2 i (ready_mono hi J1);obtain⟨aaL,oi,RR,tf⟩:=mem_ready.1 hi;obtain⟨jh,o',oG,TT⟩:=mem_ready.1 LS;simp only[Bc]at RR oG;rw[hr]at oG;cases oG;have hL:∀(k:Nat) (ok:ak),ops[k]? =az ok->(∀e∈ok.after,cn .any e=bu->fk.getD e.on bv=bu)->∀q,Bn (hP ops []) k q=bu->qT fk q:=
    λk ok hk hd q hq=>z7r hc hk hd hq
   have nri:Bn (hP ops []) i r=bv:=by
    cases hb:Bn (hP ops []) i r with
    |false=>rfl
    |true=>exact absurd (hL i oi RR tf r hb) (zRh jh)
   have nir:Bn (hP ops []) r i=bv:=by
    cases hb:Bn (hP ops []) r i with
    |false=>rfl
    |true=>exact absurd (hL r o hr TT i hb) (zRh aaL)
   have J4:=z6b oT hr RR (Ne.symm J1) nir nri;have h2:=yLo (by simpa using RR) J4 (hns i oi RR) h1;have aaS:=(Oper.apart_spec J4).2.2;have T0:jX (hP ops []) i ((r,λw=>lV P ops.toArray o v a w)::M)=(r,λw=>lV P ops.toArray o v a w)::jX (hP ops []) i M:=by
    simp[jX,nri]
   refine VH h2 λa' w' hh=> ?_
   obtain⟨⟨u,rfl⟩,hA,hB⟩:=hh;rw[T0]at hA hB;have iK:∀w,lV P ops.toArray o v (a.put oi.dst u) w↔lV P ops.toArray o v a w:=λw=>yUg (hns r o hr) aaS
   refine⟨λm hm=>hA m (jc _ hm),?_⟩;have aaO:(λw=>lV P ops.toArray o v a w)=λw=>lV P ops.toArray o v (a.put oi.dst u) w:=by
    funext w;exact propext (iK w).symm
   rw[aaO]at hA hB;refine ih _ _ _ _ (u0 hc hi) (ready_mono LS (Ne.symm J1)) (hA _ iS) (λm hm=>hA m (jc _ hm)) ?_;rw[Array.setIfInBounds_comm _ _ J1];exact hB
end Cv
namespace Cv
open Go
def EM (P:ab) (o:ak) (ρ:Env) (v:ac) (w:ae):Prop:=
 match o.op with
 | .load t x=>
   match ev ρ x with
   | .pointer p=>JC p λa=>pT P t a w v
   |_=>False
 | .lookup t m k ok=>bR P (cq t (ev ρ m) (ev ρ k) ok) w v
 | .convert s d x=>bR P (ay s d (ev ρ x)) w v
 | .binOp op t x y _=>bR P (do am op t x y (ev ρ x) (ev ρ y);binOp op t (ev ρ x) (ev ρ y)) w v
 | .call {callee:= .builtin .len,args,argTypes}=>bR P (cf argTypes o.type (args.map (ev ρ))) w v
 | .entry x=>bR P (Instr.entry (ev ρ x)) w v
 |_=>False
def yJr {P:ab} {o:ak} {ρ:Env} {v:ac} {w:ae} (h:EM P o ρ v w):(ag (ev ρ) o).run P w= .ok (.value v) w:=by
 unfold EM at h;split at h
 ·rename_i t x ho;split at h
  ·rename_i p hx;obtain⟨a,rfl,h⟩:=sS h;simp only[ag,ho,hx];exact yK h
  ·exact h.elim
 ·rename_i t m k ok ho;simp only[ag,ho];exact yK h
 ·rename_i s d x ho;simp only[ag,ho];exact yK h
 ·rename_i op t x y u ho;simp only[ag,ho];exact yK h
 ·rename_i args argTypes ho;simp only[ag,ho];exact yK h
 ·rename_i x ho;simp only[ag,ho];exact yK h
 ·exact h.elim
def z8t {P:ab} {ρ:Env} {o:ak} {w:ae} {K:ac->Prop} (h:A2 P o ρ w K):∃v,K v/\EM P o ρ v w:=by
 cases ho:o.op
 case load t x=>
  simp only[A2,ho]at h;split at h
  ·rename_i p hx;obtain⟨a,rfl,h⟩:=sS h;obtain⟨v,hv,h⟩:=vP h;refine⟨v,h,?_⟩;simp only[EM,ho,hx];exact hv
  ·exact h.elim
 case lookup t m k ok=>
  simp only[A2,ho]at h;split at h
  ·rename_i e he;obtain⟨v,h⟩:=vP h;obtain⟨b,hb,h⟩:=wT h;refine⟨_,h,?_⟩;simp only[EM,ho];cases ok
   ·exact zOk hb
   ·exact hb
  ·exact h.elim
 case convert s d x=>
  simp only[A2,ho]at h;obtain⟨v,hv,h⟩:=vP h;refine⟨v,h,?_⟩;simp only[EM,ho];exact hv
 case binOp op t x y u=>
  simp only[A2,ho]at h;split at h
  ·obtain⟨v,h1,h2,h⟩:=wT h;refine⟨v,h,?_⟩;simp only[EM,ho,bR,bind,run_bind,h2];exact h1
  ·obtain⟨v,h1,h2,h⟩:=wT h;refine⟨v,h,?_⟩;simp only[EM,ho,bR,bind,run_bind,h2];exact h1
  ·exact h.elim
 case call c=>
  simp only[A2,ho]at h;split at h<;>first|exact h.elim|skip
  all_goals first|(exfalso;rename_i hh;cases hh;done)|skip
  rename_i args argTypes hh;cases hh;obtain⟨v,hv,h⟩:=wT h;refine⟨v,h,?_⟩;simp only[EM,ho];exact hv
 case entry x=>
  simp only[A2,ho]at h;obtain⟨v,hv,h⟩:=h;refine⟨v,h,?_⟩;simp only[EM,ho];exact hv
 all_goals(simp only[A2,ho]at h)
def z8a:List Mon->ae->Prop->Prop
 |[],_,X=>X
 |m::ms,w,X=>m.2 w/\z8a ms w X
def zSx:∀{M:List Mon} {w:ae} {X:Prop},z8a M w X->Fg M w/\X
 |[],_,_,h=>⟨λm hm=>(by cases hm),h⟩
 |m::ms,w,X,h=>by
  obtain⟨h1,h2⟩:=h;obtain⟨h3,h4⟩:=zSx h2;refine⟨λm' hm=> ?_,h4⟩;rcases jq.1 hm with rfl|hm
  ·exact h1
  ·exact h3 _ hm
def WH:List Nat->(Nat->Prop)->Prop
 |[],_=>True
 |[e],f=>f e
 |e::es,f=>f e/\WH es f
def Zw:∀{l:List Nat} {f:Nat->Prop},WH l f->∀i∈l,f i
 |[],_,_,i,hi=>by cases hi
 |[e],f,h,i,hi=>by rcases uc.1 hi with rfl;exact h
 |e::e'::es,f,h,i,hi=>by
  rcases jq.1 hi with rfl|hi
  ·exact h.1
  ·exact Zw h.2 i hi
def yYr (P:ab) (ops:List ak) (i:Nat):Bool:=
 match ops[i]? with
 |some o=>match Uu P o.op with
  |2=>bv
  |_=>bu
 |none=>bu
def Ho (P:ab) (ops:List ak) (bf:List Nat):Nat->Array Bool->List Mon->Env->ae->(Env->ae->Prop)->Prop
 |0,fk,_,ρ,w,K=>
  match cm .any ops.toArray fk with
  |[]=>K ρ w
  |_=>False
 |fuel+1,fk,M,ρ,w,K=>
  match cm .any ops.toArray fk with
  |[]=>K ρ w
  |r::rs=>
   match(r::rs).find? (yYr P ops)with
   |some i=>
    match ops[i]? with
    |none=>False
    |some o=>OU ops o.guard ρ
      (λρ'=>match Uu P o.op with
        |0=>bM P o ρ' λv=>Ho P ops bf fuel (fk.setIfInBounds i bu) M (put ρ' o.dst v) w K
        |_=>A2 P o ρ' w λv=>Ho P ops bf fuel (fk.setIfInBounds i bu) ((i,EM P o ρ' v)::M) (put ρ' o.dst v) w K)
      (λρ'=>Ho P ops bf fuel (fk.setIfInBounds i bu) M (put ρ' o.dst ap) w K)
   |none=>WH (r::rs) λi=>
    match ops[i]? with
    |none=>False
    |some o=>OU ops o.guard ρ
      (λρ'=>cL P o ρ' w λv w'=>z8a (jX bf i M) w' (Ho P ops bf fuel (fk.setIfInBounds i bu) (jX bf i M) (put ρ' o.dst v) w' K))
      (λρ'=>Ho P ops bf fuel (fk.setIfInBounds i bu) (jX bf i M) (put ρ' o.dst ap) w K)
def m5 {n:Nat} {A:Nat->Bool} {l:List ak} (h:Ji n A l) {i:Nat} {o:ak} (ho:l[i]? =az o):∀d,o.dst=az d->d<n/\A d=bu:=
 h o (ku ho)
def mY {P:ab} {ops:Array ak} {bf:List Nat} {Q:Act->ae->Prop} {i:Nat} {f:ae->Prop} (hf:∀w,f w):
 ∀(fuel:Nat) {M:List Mon} (fk:Array Bool) (a:Act) (w:ae),C' P ops bf Q fuel M fk a w->C' P ops bf Q fuel ((i,f)::M) fk a w
 |0,_,_,_,_,h=>h
 |fuel+1,M,fk,a,w,h=>⟨h.1,λj hj=>VH (h.2 j hj) λa' w' hh=>by
   have hk:jX bf j ((i,f)::M)=if Bn bf j i then jX bf j M else(i,f)::jX bf j M:=by
    simp only[jX,Ht];cases Bn bf j i<;>simp
   rw[hk];cases Bn bf j i
   ·refine⟨λm hm=> ?_,mY hf fuel _ _ _ hh.2⟩;simp only[oL,if_false,jq]at hm;rcases hm with rfl|hm
    ·exact hf w'
    ·exact hh.1 m hm
   ·exact hh⟩
def z5l {P:ab} {ops:Array ak} {bf:List Nat} {Q:Act->ae->Prop} {i:Nat} {f g:ae->Prop} (hfg:∀w,f w->g w):
 ∀(fuel:Nat) {M:List Mon} (fk:Array Bool) (a:Act) (w:ae),C' P ops bf Q fuel ((i,f)::M) fk a w->C' P ops bf Q fuel ((i,g)::M) fk a w
 |0,_,_,_,_,h=>h
 |fuel+1,M,fk,a,w,h=>⟨h.1,λj hj=>VH (h.2 j hj) λa' w' hh=>by
   have hk:∀f:ae->Prop,jX bf j ((i,f)::M)=if Bn bf j i then jX bf j M else(i,f)::jX bf j M:=by
    intro f;simp only[jX,Ht];cases Bn bf j i<;>simp
   rw[hk]at hh ⊢;cases hb:Bn bf j i
   ·rw[hb]at hh;simp only[oL,if_false]at hh ⊢;refine⟨λm hm=> ?_,z5l hfg fuel _ _ _ hh.2⟩;rcases jq.1 hm with rfl|hm
    ·exact hfg w' (hh.1 _ iS)
    ·exact hh.1 m (jc _ hm)
   ·rw[hb]at hh;exact hh⟩
def yAt {P:ab} {ops:List ak} {n:Nat} {A:Nat->Bool} {e0:Env} {K:Env->ae->Prop} {Q:Act->ae->Prop} (oT:eK ops (hP ops [])=bu) (hf:Ji n A ops)
 (hQ:∀a w,Good n A e0 a->K (yQ a) w->Q a w):
 ∀(fuel:Nat) (fk:Array Bool) (M:List Mon) (a:Act) (w:ae),lI ops (qT fk)->Fg M w->Good n A e0 a->
  Ho P ops (hP ops []) fuel fk M (yQ a) w K->C' P ops.toArray (hP ops []) Q fuel M fk a w:=by
 intro fuel
 induction fuel with
 |zero=>
  intro fk M a w hc hM qn h;unfold Ho at h;split at h
  ·rename_i hr;exact⟨hr,hQ a w qn h⟩
  ·exact h.elim
 |succ fuel ih=>
  intro fk M a w hc hM qn h;unfold Ho at h;split at h
  ·rename_i hr;exact⟨λ_=>hQ a w qn h,λi hi=>by rw[hr]at hi;cases hi⟩
  ·rename_i r rs hr;have jr:cm .any ops.toArray fk≠[]:=by rw[hr];simp
   split at h
   ·rename_i i Gc;have hi:i∈cm .any ops.toArray fk:=by rw[hr];exact List.mem_of_find?_eq_some Gc
    split at h<;>first|exact h.elim|skip
    rename_i o ho;have zh:∀v,yQ (a.put o.dst v)=put (yQ a) o.dst v:=λv=>qn.mc (m5 hf ho) v
    have hg:=eY h;have nx:∀{M:List Mon} {v:ac},Fg M w->Ho P ops (hP ops []) fuel (fk.setIfInBounds i bu) M (put (yQ a) o.dst v) w K->
     C' P ops.toArray (hP ops []) Q fuel M (fk.setIfInBounds i bu) (a.put o.dst v) w:=λ{M v} hM hh=>
     ih _ _ _ _ (u0 hc hi) hM (qn.put (m5 hf ho) _) (by rw[zh];exact hh)
    by_cases hw:co o (yielded ops.toArray a.tmps)=bu
    ·rw[fc hw]at hg;split at hg
     ·obtain⟨v,hk,uu⟩:=fV hg;rw[vF]at uu;have hs:∀w,lV P ops.toArray o v a w:=λw=> .inl ⟨hw,uu w⟩
      exact fL oT ho fuel M fk a w hc hi (hs w) hM (mY hs fuel _ _ _ (nx hM hk))
     ·obtain⟨v,hk,kr⟩:=z8t hg;have hw':∀w,EM P o (yQ a) v w->lV P ops.toArray o v a w:=λw kr=> .inl ⟨hw,by rw[<- vF];exact yJr kr⟩
      refine fL oT ho fuel M fk a w hc hi (hw' w kr) hM (z5l hw' fuel _ _ _ (nx ?_ hk));intro m hm;rcases jq.1 hm with rfl|hm
      ·exact kr
      ·exact hM m hm
    ·rw[eg hw]at hg;have hs:∀w,lV P ops.toArray o ap a w:=λw=> .inr ⟨by simpa using hw,rfl⟩
     exact fL oT ho fuel M fk a w hc hi (hs w) hM (mY hs fuel _ _ _ (nx hM hg))
   ·refine⟨λh0=>absurd h0 jr,λi hi=> ?_⟩;have h1:=Zw h i (by rw[<- hr];exact hi);split at h1<;>first|exact h1.elim|skip
    rename_i o ho;have zh:∀v,yQ (a.put o.dst v)=put (yQ a) o.dst v:=λv=>qn.mc (m5 hf ho) v
    have hg:=eY h1;unfold EH;simp only[Bc,ho];by_cases hw:co o (yielded ops.toArray a.tmps)=bu
    ·rw[fc hw]at hg ⊢;have BV:=zXb hg;rw[vF]at BV;refine BV.mono λv w' hh=> ?_
     obtain⟨Dt,hh⟩:=zSx hh;exact⟨Dt,ih _ _ _ _ (u0 hc hi) Dt (qn.put (m5 hf ho) _) (by rw[zh];exact hh)⟩
    ·rw[eg hw]at hg ⊢;have Dt:Fg (jX (hP ops []) i M) w:=λm hm=>hM m (by simp only[jX,wb]at hm;exact hm.1)
     exact⟨Dt,ih _ _ _ _ (u0 hc hi) Dt (qn.put (m5 hf ho) _) (by rw[zh];exact hg)⟩
end Cv
namespace Cv
open Go
structure P5 where
 ι:Type
 Su:ι->List (Nat×ac)
 fix:List Nat
def JB:List (Nat×ac)->Env->Prop
 |[],_=>True
 |[p],ρ=>ρ p.1=p.2
 |p::l,ρ=>ρ p.1=p.2/\JB l ρ
def EC {p:Nat×ac} {l:List (Nat×ac)} {ρ:Env}:JB (p::l) ρ↔ρ p.1=p.2/\JB l ρ:=by
 cases l<;>simp[JB]
def W7:List (Nat×ac)->Env->Env
 |[],ρ=>ρ
 |p::l,ρ=>put (W7 l ρ) (az p.1) p.2
def zWf:∀{l:List (Nat×ac)} {ρ:Env},JB l ρ->W7 l ρ=ρ
 |[],_,_=>rfl
 |p::l,ρ,h=>by
  have h:=EC.1 h;simp only[W7];rw[zWf h.2];exact z3k h.1
def rF (s:Nat):List Nat->Bool
 |[]=>bv
 |x::l=>bif cx s x then bu else rF s l
def ry {s:Nat}:∀{l:List Nat},rF s l=bu↔s∈l
 |[]=>by simp[rF]
 |x::l=>by
  simp only[rF];cases hb:cx s x
  ·have jr:s≠x:=λe=>by subst e;simp at hb
   simp[ry,jr]
  ·have:=ja hb;simp[this]
def ySo (fix:List Nat) (ρ j:Env):Env:=λs=>bif rF s fix then ρ s else j s
def z8j {fix:List Nat} {ρ j:Env} (h:∀s∈fix,j s=ρ s):ySo fix ρ j=j:=by
 funext s;simp only[ySo];cases hb:rF s fix
 ·rfl
 ·exact(h s (ry.1 hb)).symm
def um:Code->List Nat
 | .region _ ops _=>ops.toList.filterMap (·.dst)
 | .seq a b=>um a++um b
 | .cond _ a b=>um a++um b
 | .block _ a=>um a
 | .loop a=>um a
 |_=>[]
def nL:Code->Nat
 | .seq a b=>nL a+nL b
 | .cond _ a b=>nL a+nL b
 | .block _ a=>nL a
 | .loop a=>nL a+1
 |_=>0
def y2p (next:Env->ae->Prop) (Q:Exit->Env->ae->Prop):Exit->Env->ae->Prop
 | .normal,ρ,w=>next ρ w
 |e,ρ,w=>Q e ρ w
def yLp (id:Nat) (Q:Exit->Env->ae->Prop):Exit->Env->ae->Prop
 | .exit FH,ρ,w=>bif cx FH id then Q .normal ρ w else Q (.exit FH) ρ w
 |e,ρ,w=>Q e ρ w
def dp (t:Bool) (A B:Prop):Prop:=
 match t with
 |true=>A
 |false=>B
def dp.mk {t:Bool} {A B:Prop} (h1:t=bu->A) (h2:t=bv->B):dp t A B:=by
 cases t
 ·exact h2 rfl
 ·exact h1 rfl
def Xb (w:ae) (K:ae->Prop):Prop:=∀w',w'=w.drew->K w'
def E8 (P:ab):List P5->Code->(Exit->Env->ae->Prop)->Env->ae->Prop
 |_,.skip,Q,ρ,w=>Q .normal ρ w
 |an,.seq a b,Q,ρ,w=>E8 P (an.take (nL a)) a (y2p (λρ w=>E8 P (an.drop (nL a)) b Q ρ w) Q) ρ w
 |an,.cond c a b,Q,ρ,w=>
  match ev ρ c with
  | .bool t=>dp t (E8 P (an.take (nL a)) a Q ρ w) (E8 P (an.drop (nL a)) b Q ρ w)
  |_=>False
 |an,.block id a,Q,ρ,w=>E8 P an a (yLp id Q) ρ w
 |an,.loop a,Q,ρ,w=>
  match an with
  |[]=>False
  |x::rest=>∃(I:x.ι->ae->Prop) (μ:x.ι->ae->Nat),(∃i0,JB (x.Su i0) ρ/\I i0 w)/\
    ∀(j:Env) (i:x.ι) (w1:ae),I i w1->E8 P rest a (y2p (λρ' w'=>∃i',JB (x.Su i') ρ'/\I i' w'/\μ i' w'<μ i w1) Q) (W7 (x.Su i) (ySo x.fix ρ j)) w1
 |_,.exit id,Q,ρ,w=>Q (.exit id) ρ w
 |_,.ret,Q,ρ,w=>Q .ret ρ w
 |_,.region _ ops d,Q,ρ,w=>bif d then Xb w λw=>Ho P ops.toList (hP ops.toList []) ops.toList.length (de ops.toList.length bv) [] ρ w (Q .normal)
    else PU P ops.toList ops.toList ρ w (Q .normal)
 |_,_,_,_,_=>False
def xl (n:Nat):Code->Bool
 | .region _ ops d=>(ops.toList.all λo=>match o.dst with|none=>bu|some d=>cy d n) && (bif d then eK ops.toList (hP ops.toList [])else bu)
 | .seq a b=>xl n a && xl n b
 | .cond _ a b=>xl n a && xl n b
 | .block _ a=>xl n a
 | .loop a=>xl n a
 |_=>bu
def okF:List P5->Code->Bool
 |an,.seq a b=>okF (an.take (nL a)) a && okF (an.drop (nL a)) b
 |an,.cond _ a b=>okF (an.take (nL a)) a && okF (an.drop (nL a)) b
 |an,.block _ a=>okF an a
 |an,.loop a=>match an with
  |[]=>bv
  |x::rest=>(x.fix.all λs=> !rF s (um a)) && okF rest a
 |_,_=>bu
def z5j {n:Nat} {A:Nat->Bool} {ops:List ak} (h:(ops.all λo=>match o.dst with|none=>bu|some d=>cy d n)=bu) (hA:∀s∈ops.filterMap (·.dst),A s=bu):Ji n A ops:=by
 intro o ho d hd;have:=Eb.1 h o ho;rw[hd]at this;exact⟨by simpa[yj]using this,hA d (N4.2 ⟨o,ho,hd⟩)⟩
def Xf (n:Nat) (A:Nat->Bool) (e0:Env) (Q:Exit->Env->ae->Prop):Exit->Act->ae->Prop:=λe a w=>Good n A e0 a/\Q e (yQ a) w
def yJp {P:ab} (hm:P.follows .mixedOrders=bu) {n:Nat}:∀(c:Code) (an:List P5) (Q:Exit->Env->ae->Prop) (A:Nat->Bool) (e0:Env) (a:Act) (w:ae),
 xl n c=bu->okF an c=bu->(∀s∈um c,A s=bu)->Good n A e0 a->E8 P an c Q (yQ a) w->c.wp P (Xf n A e0 Q) a w:=by
 intro c
 induction c with
 |skip=>intro an Q A e0 a w _ _ _ hg h;exact wp_skip ⟨hg,h⟩
 |region id ops d=>
  intro an Q A e0 a w hc _ hA hg h;simp only[xl,lj]at hc;have yd:=z5j (A:=A) hc.1 hA;cases d
  ·refine wp_region_list ?_;exact zUa (Q:=Xf n A e0 Q) (K:=Q .normal) (λa w hg h=>⟨hg,h⟩) ops.toList a w yd hg h
  ·refine wp_region_any hm ?_;have h':=h _ rfl;have oT:eK ops.toList (hP ops.toList [])=bu:=hc.2;refine g8 (Q:=λa w=>Xf n A e0 Q .normal a w) (λ_ _ h=>h) ops.size _ _ _ (M:=[]) (bf:=hP ops.toList []) ?_;have AW:lI ops.toList (qT (de ops.toList.length bv)):=by
    intro i o ho hi;exfalso;unfold qT at hi;simp[CE]at hi;rw[Xn]at hi;split at hi<;>simp at hi
   have:=yAt (P:=P) (K:=Q .normal) (Q:=λa w=>Xf n A e0 Q .normal a w) oT yd (λa w hg h=>⟨hg,h⟩) ops.toList.length _ [] a _ AW (λm hm=>by cases hm) hg h';simpa using this
 |seq x y ES ER=>
  intro an Q A e0 a w hc hf hA hg h;simp only[xl,okF,lj,um,oK]at hc hf hA;refine wp_seq (ax (ES _ _ A e0 a w hc.1 hf.1 (λs hs=>hA s (.inl hs)) hg h) ?_);rintro e a' w' ⟨qg,h'⟩;cases e<;>first|exact ER _ _ A e0 a' w' hc.2 hf.2 (λs hs=>hA s (.inr hs)) qg h'|exact⟨qg,h'⟩
 |cond c x y ES ER=>
  intro an Q A e0 a w hc hf hA hg h;simp only[xl,okF,lj,um,oK]at hc hf hA;simp only[E8]at h;rw[vF]at h;split at h
  ·rename_i t ht;refine wp_cond_split ht (λe=> ?_) (λe=> ?_)
   ·subst e;exact ES _ _ A e0 a w hc.1 hf.1 (λs hs=>hA s (.inl hs)) hg h
   ·subst e;exact ER _ _ A e0 a w hc.2 hf.2 (λs hs=>hA s (.inr hs)) hg h
  ·exact h.elim
 |block id x ih=>
  intro an Q A e0 a w hc hf hA hg h;refine wp_block (ax (ih an _ A e0 a w hc hf hA hg h) ?_);rintro e a' w' ⟨qg,h'⟩;cases e<;>first|exact⟨qg,h'⟩|skip
  rename_i FH;simp only[Exit.inBlock];simp only[yLp]at h';split
  ·rename_i heq;subst heq;rw[Nat.beq_refl]at h';exact⟨qg,h'⟩
  ·rename_i jr;have hb:cx FH id=bv:=by
    cases hb:cx FH id with
    |false=>rfl
    |true=>exact absurd (ja hb) jr
   rw[hb]at h';exact⟨qg,h'⟩
 |loop x ih=>
  intro an Q A e0 a w hc hf hA hg h;cases an with
  |nil=>exact h.elim
  |cons an rest=>
   simp only[okF,lj]at hf;obtain⟨I,μ,⟨i0,XK,hi0⟩,ua⟩:=h;refine wp_loop_ghost (λm a' w'=>Good n A e0 a'/\(∀s∈an.fix,yQ a' s=yQ a s)/\∃i,JB (an.Su i) (yQ a')/\I i w'/\μ i w'=m) (μ i0 w) ⟨hg,λ_ _=>rfl,i0,XK,hi0,rfl⟩ ?_;rintro m a' w' ⟨qg,Ex,i,aaC,hI,rfl⟩;have h1:=ua (yQ a') i w' hI;rw[z8j Ex,zWf aaC]at h1;have Sb:Good n (λs=>A s && rF s (um x)) (yQ a') a':=⟨qg.size,qg.defers,λ_ _=>rfl⟩
   refine ax (ih rest _ (λs=>A s && rF s (um x)) (yQ a') a' w' hc hf.2 (λs hs=>by rw[hA s hs,ry.2 hs];rfl) Sb h1) ?_;rintro e a2 w2 ⟨Av,h2⟩;have J3:Good n A e0 a2:=⟨Av.size,Av.defers,λs hs=>by rw[Av.same s (by simp[hs]),qg.same s hs]⟩
   cases e<;>first|exact⟨J3,h2⟩|skip
   obtain⟨i',iK,hI',gn⟩:=h2;refine⟨_,gn,J3,λs hs=> ?_,i',iK,hI',rfl⟩;have:=Eb.1 hf.1 s hs;rw[Av.same s (by simp at this;simp[this]),Ex s hs]
 |exit id=>intro an Q A e0 a w _ _ _ hg h;exact wp_exit ⟨hg,h⟩
 |ret=>intro an Q A e0 a w _ _ _ hg h;exact wp_ret ⟨hg,h⟩
 |rangeFunc f ps x y ES ER=>intro an Q A e0 a w _ _ _ hg h;exact h.elim
 |scope x ih=>intro an Q A e0 a w _ _ _ hg h;exact h.elim
 |label l=>intro an Q A e0 a w _ _ _ hg h;exact h.elim
 |goto l=>intro an Q A e0 a w _ _ _ hg h;exact h.elim
 |refuse s=>intro an Q A e0 a w _ _ _ hg h;exact h.elim
end Cv
namespace Cv
open Go
def bs (l:List Nat):ByteArray:=⟨(l.map Nat.toUInt8).toArray⟩
def Lo (P:ab):List ResultVar->Env->ae->(List ac->Prop)->Prop
 |[],_,_,K=>K []
 | .tmp t::rs,ρ,w,K=>Lo P rs ρ w λvs=>K (ρ t::vs)
 | .cell a t::rs,ρ,w,K=>
   match ρ a with
   | .pointer p=>JC p λad=>E7 P t λv=>pT P t ad w v/\Lo P rs ρ w λvs=>K (v::vs)
   |_=>False
def HY:List ac->ac
 |[v]=>v
 |vs=> .tuple vs.toArray
def Wn (P:ab) (fn:Func) (R:Ending->ae->Prop):Exit->Env->ae->Prop
 | .normal,ρ,w=>Lo P fn.results.toList ρ w λvs=>R (.returned (HY vs)) w
 | .ret,ρ,w=>Lo P fn.results.toList ρ w λvs=>R (.returned (HY vs)) w
 |_,_,_=>False
def gP (args:List ac):Env:=λi=>args.getD i ap
def Ie (tmps:Array ac):ResultVar->Sem ac
 | .tmp t=>pure (tmps.getD t ap)
 | .cell a t=>(asAddr (tmps.getD a ap)).bind λad=>loadVar t ad
def Zx {P:ab} {tmps:Array ac} {w:ae}:∀{rs:List ResultVar} {K:List ac->Prop},Lo P rs (λi=>tmps.getD i ap) w K->
 ∃vs,(rs.mapM (Ie tmps)).run P w= .ok vs w/\K vs
 |[],K,h=>⟨[],rfl,h⟩
 | .tmp t::rs,K,h=>by
   obtain⟨vs,h1,h3⟩:=Zx (rs:=rs) h;refine⟨_::vs,?_,h3⟩;simp only[dd,Ie,bind,pure,run_bind,bg,be]at h1 ⊢;rw[h1]
 | .cell a t::rs,K,h=>by
   simp only[Lo]at h;split at h
   ·rename_i p hp;obtain⟨ad,rfl,h⟩:=sS h;obtain⟨v,hv,h⟩:=vP h;obtain⟨vs,h1,h3⟩:=Zx (rs:=rs) h;refine⟨v::vs,?_,h3⟩;simp only[dd,Ie,bind,pure,run_bind,bg,be,hp,asAddr]at h1 ⊢;rw[hv];simp only[h1]
   ·exact h.elim
def zOs {P:ab} {tmps:Array ac} {w:ae} {vs:List ac} {rs:List ResultVar} (h:(rs.mapM (Ie tmps)).run P w= .ok vs w) (F:ResultVar->Sem ac) (hF:∀r,F r=Ie tmps r):
 ((rs.mapM F).bind λvs=>bo (if h:vs.toArray.size=1 then vs.toArray[0]else .tuple vs.toArray)).run P w= .ok (HY vs) w:=by
 obtain rfl:F=Ie tmps:=funext hF;rw[run_bind,h];simp only[be];cases vs with
 |nil=>rfl
 |cons v vs=>
  cases vs with
  |nil=>rfl
  |cons u us=>simp[HY]
def zOc {P:ab} {fn:Func} {tmps:Array ac} {w:ae} {K:ac->Prop} (h:Lo P fn.results.toList (λi=>tmps.getD i ap) w λvs=>K (HY vs)):
 ∃v,(results fn tmps).run P w= .ok v w/\K v:=by
 obtain⟨vs,h1,h3⟩:=Zx h;refine⟨HY vs,?_,h3⟩;unfold results;rw[Array.mapM_eq_mapM_toList,map_eq_pure_bind,bind_assoc];exact zOs h1 _ (λr=>by cases r<;>rfl)
def uw {P:ab} {f:aw} {fn:Func} {c:Code} {args:List ac} {w:ae} {R:Ending->ae->Prop} (hm:P.follows .mixedOrders=bu)
 (hf:P.funcs[f]? =az fn) (hb:fn.body=az c) (an:List P5) (oT:xl fn.ntmps c=bu) (LX:okF an c=bu) (aaA:cz args.length fn.ntmps=bu)
 (h:E8 P an c (Wn P fn R) (gP args) w):Calls P f args.toArray w R:=by
 have pf:=Cc aaA;refine calls_of_wp hf hb ?_;have hg:Good fn.ntmps (λ_=>bu) (gP args) {tmps:=args.toArray++de (fn.ntmps-args.toArray.size) ap,defers:=[]}:=
  ⟨by simp;omega,rfl,λs hs=>by cases hs⟩
 have Mt:yQ {tmps:=args.toArray++de (fn.ntmps-args.toArray.size) ap,defers:=[]}=gP args:=by
  funext i;simp only[yQ,gP,CE,oc,Array.getElem?_append];split
  ·simp
  ·rename_i gn;simp at gn;rw[ud gn,Xn];split<;>rfl
 refine ax (yJp hm c an _ (λ_=>bu) (gP args) _ w oT LX (λ_ _=>rfl) hg (Mt▸h)) ?_;rintro e a' w' ⟨qg,h'⟩;cases e<;>first|exact h'.elim|skip
 ·obtain⟨v,hv,hk⟩:=zOc (K:=λv=>R (.returned v) w') h';exact⟨qg.defers,v,hv,hk⟩
 ·obtain⟨v,hv,hk⟩:=zOc (K:=λv=>R (.returned v) w') h';exact⟨qg.defers,v,hv,hk⟩
def zNz {P:ab} {f:aw} {fn:Func} {c:Code} {args:List ac} {w:ae} {R:Ending->ae->Prop} {V:Prop} (hm:P.follows .mixedOrders=bu)
 (hf:P.funcs[f]? =az fn) (hb:fn.body=az c) (an:List P5) (oT:xl fn.ntmps c=bu) (LX:okF an c=bu) (pf:cz args.length fn.ntmps=bu)
 (e:V=E8 P an c (Wn P fn R) (gP args) w) (h:V):Calls P f args.toArray w R:=
 uw hm hf hb an oT LX pf (e▸h)
end Cv
namespace Cv
open Go Go.RowKit
@[reducible] def PH:=Nat->Option Obj
@[reducible] def HP:=PH->Prop
def pe:PH:=λ_=>ba
def one (b:Nat) (o:Obj):PH:=λx=>if x=b then az o else ba
def Dj (g h:PH):Prop:=∀b,g b=ba\/h b=ba
def Sub (h:PH) (w:ae):Prop:=∀b o,h b=az o->w.heap[b]?=az o
def un (g h:PH):PH:=λb=>match g b with|some o=>az o|none=>h b
def Dj.symm {g h:PH} (d:Dj g h):Dj h g:=λb=>(d b).symm
def Dj.pe (h:PH):Dj pe h:=λ_=> .inl rfl
def yGg {g g' h:PH} (d:Dj g h) (d':Dj g' h):Dj (un g g') h:=λb=>by
 rcases d b with e|e
 ·rcases d' b with e'|e'
  ·left;simp[un,e,e']
  ·exact .inr e'
 ·exact .inr e
def zQw {g g' h:PH} (d:Dj (un g g') h) (dg:Dj g g'):Dj g h/\Dj g' h:=by
 refine⟨λb=> ?_,λb=> ?_⟩
 ·rcases d b with e|e
  ·left;simp only[un]at e;cases hg:g b with
   |none=>rfl
   |some o=>rw[hg]at e;cases e
  ·exact .inr e
 ·rcases d b with e|e
  ·left;simp only[un]at e;cases hg:g b with
   |none=>rw[hg]at e;exact e
   |some o=>rw[hg]at e;cases e
  ·exact .inr e
def yNj {g h:PH} {w:ae} (a:Sub g w) (b:Sub h w):Sub (un g h) w:=λx o e=>by
 simp only[un]at e;cases hg:g x with
 |some o'=>rw[hg]at e;cases e;exact a x _ hg
 |none=>rw[hg]at e;exact b x o e
def yJw {g h:PH} {w:ae} (s:Sub (un g h) w) (d:Dj g h):Sub g w/\Sub h w:=by
 refine⟨λx o e=>s x o (by simp[un,e]),λx o e=>s x o ?_⟩;rcases d x with e'|e'
 ·simp[un,e',e]
 ·rw[e]at e';cases e'
def Sub.pe (w:ae):Sub Cv.pe w:=λ_ _ e=>by cases e
def Sub.lt {h:PH} {w:ae} (s:Sub h w) {b:Nat} (hb:h b≠ba):b<w.heap.size:=by
 cases e:h b with
 |none=>exact absurd e hb
 |some o=>
  have:=s b o e;rcases vh b w.heap.size with h'|h'
  ·exact h'
  ·rw[Hv h']at this;cases this
structure Ko where
 os:Os
 tape:Nat->Question->Nat
 output:Array (Nat×ByteArray)
def ko (w:ae):Ko:=⟨w.os,w.tape,w.output⟩
def Kon (k:Ko) (w:ae):Prop:=w.os=k.os/\w.tape=k.tape/\w.output=k.output
inductive Hs (w:ae):List HP->List PH->Prop
 |nil:Hs w [] []
 |cons {A:HP} {h:PH} {L:List HP} {hs:List PH}:A h->Sub h w->(∀g∈hs,Dj h g)->Hs w L hs->Hs w (A::L) (h::hs)
def Hp (k:Ko) (w:ae) (L:List HP):Prop:=Kon k w/\∃hs,Hs w L hs
def Sat (w:ae) (A:HP):Prop:=∃h,A h/\Sub h w
def Hs.perm {w:ae} {L L':List HP} (p:L.Perm L'):∀{hs:List PH},Hs w L hs->∃iK,Hs w L' iK/\hs.Perm iK:=by
 induction p with
 |nil=>intro hs h;cases h;exact⟨[],.nil,.nil⟩
 |cons A _ ih=>
  intro hs h;cases h with
  |cons ha iU hd hr=>
   obtain⟨iK,h1,h2⟩:=ih hr;exact⟨_,.cons ha iU (λg hg=>hd g (h2.mem_iff.2 hg)) h1,.cons _ h2⟩
 |swap A B L=>
  intro hs h;cases h with
  |cons hb hbs Ci hr=>
   cases hr with
   |cons ha has had hr=>
    refine⟨_,.cons ha has ?_ (.cons hb hbs (λg hg=>Ci g (jc _ hg)) hr),.swap _ _ _⟩;intro g hg;rcases jq.1 hg with rfl|hg
    ·exact(Ci _ iS).symm
    ·exact had g hg
 |trans _ _ XD XC=>
  intro hs h;obtain⟨ue,h1,p1⟩:=XD h;obtain⟨yp,h2,p2⟩:=XC h1;exact⟨yp,h2,p1.trans p2⟩
def Hp.perm {k:Ko} {w:ae} {L L':List HP} (H:Hp k w L) (p:L.Perm L'):Hp k w L':=
 ⟨H.1,let⟨_,h⟩:=H.2;let⟨iK,h',_⟩:=h.perm p;⟨iK,h'⟩⟩
def Hp.drop {k:Ko} {w:ae} {A:HP} {L:List HP} (H:Hp k w (A::L)):Hp k w L:=by
 obtain⟨hk,hs,hh⟩:=H;cases hh with
 |cons _ _ _ hr=>exact⟨hk,_,hr⟩
def Hp.sat {k:Ko} {w:ae} {A:HP} {L:List HP} (H:Hp k w (A::L)):Sat w A:=by
 obtain⟨hk,hs,hh⟩:=H;cases hh with
 |cons ha iU _ _=>exact⟨_,ha,iU⟩
def Hp.imp {k:Ko} {w:ae} {A B:HP} {L:List HP} (H:Hp k w (A::L)) (h:∀x,A x->B x):Hp k w (B::L):=by
 obtain⟨hk,hs,hh⟩:=H;cases hh with
 |cons ha iU hd hr=>exact⟨hk,_,.cons (h _ ha) iU hd hr⟩
def pt (b:Nat) (o:Obj):HP:=λh=>h=one b o
def hPu (p:Prop):HP:=λh=>p/\h=pe
def Sl (A B:HP):HP:=λh=>∃g g',A g/\B g'/\Dj g g'/\h=un g g'
def hS:List HP->HP
 |[]=>λh=>h=pe
 |[A]=>A
 |A::L=>Sl A (hS L)
def h9 {k:Ko} {w:ae} {p:Prop} {L:List HP}:Hp k w (hPu p::L)↔p/\Hp k w L:=by
 constructor
 ·rintro⟨hk,hs,hh⟩;cases hh with
  |cons ha iU hd hr=>exact⟨ha.1,hk,_,hr⟩
 ·rintro⟨hp,hk,hs,hh⟩;exact⟨hk,_,.cons ⟨hp,rfl⟩ (Sub.pe w) (λg _=>Dj.pe g) hh⟩
def uv {k:Ko} {w:ae} {A B:HP} {L:List HP}:Hp k w (Sl A B::L)↔Hp k w (A::B::L):=by
 constructor
 ·rintro⟨hk,hs,hh⟩;cases hh with
  |cons ha iU hd hr=>
   obtain⟨g,g',h1,h2,h3,rfl⟩:=ha;obtain⟨s1,s2⟩:=yJw iU h3;refine⟨hk,_,.cons h1 s1 ?_ (.cons h2 s2 (λx hx=>(zQw (hd x hx) h3).2) hr)⟩;intro x hx;rcases jq.1 hx with rfl|hx
   ·exact h3
   ·exact(zQw (hd x hx) h3).1
 ·rintro⟨hk,hs,hh⟩;cases hh with
  |cons h1 s1 d1 hr=>
   cases hr with
   |cons h2 s2 d2 hr=>
    exact⟨hk,_,.cons ⟨_,_,h1,h2,d1 _ iS,rfl⟩ (yNj s1 s2) (λx hx=>yGg (d1 x (jc _ hx)) (d2 x hx)) hr⟩
def yUc {k:Ko} {w:ae} {L:List HP}:Hp k w (hS []::L)↔Hp k w L:=by
 have e:hS []=hPu True:=by funext h;simp[hS,hPu]
 rw[e,h9];exact⟨λh=>h.2,λh=>⟨trivial,h⟩⟩
def yUf {k:Ko} {w:ae} {A B:HP} {l L:List HP}:Hp k w (hS (A::B::l)::L)↔Hp k w (A::hS (B::l)::L):=uv
def Hp.swap {k:Ko} {w:ae} {A B:HP} {L:List HP} (H:Hp k w (A::B::L)):Hp k w (B::A::L):=H.perm (.swap _ _ _)
def Hp.cons {k:Ko} {w:ae} {A:HP} {L L':List HP} (H:Hp k w (A::L)) (p:L.Perm L'):Hp k w (A::L'):=H.perm (.cons _ p)
def qv {k:Ko} {w:ae}:∀{l L:List HP},Hp k w (hS l::L)↔Hp k w (l++L)
 |[],L=>yUc
 |[A],L=>Iff.rfl
 |A::B::l,L=>by
  rw[yUf];constructor
  ·intro h;have h1:=(qv (l:=B::l) (L:=A::L)).1 h.swap;refine h1.perm ?_;exact mh
  ·intro h;have h1:Hp k w ((B::l)++(A::L)):=h.perm (mh (l₁:=B::l)).symm;exact((qv (l:=B::l) (L:=A::L)).2 h1).swap
def Hs.move {w w':ae} (h:∀(x:PH),Sub x w->Sub x w'):∀{L:List HP} {hs:List PH},Hs w L hs->Hs w' L hs
 |_,_,.nil=> .nil
 |_,_,.cons ha iU hd hr=> .cons ha (h _ iU) hd (hr.move h)
def ZU {w w':ae} (h:Below w.heap.size w w') {x:PH} (s:Sub x w):Sub x w':=λb o e=>by
 rw[h.block b (s.lt (by rw[e];simp))];exact s b o e
def zXm {k:Ko} {B:Nat} {w w':ae} (h:Below B w w') (hk:Kon k w):Kon k w':=⟨h.os.trans hk.1,h.tape.trans hk.2.1,h.output.trans hk.2.2⟩
def Hp.below {k:Ko} {w w':ae} {L:List HP} (H:Hp k w L) (h:Below w.heap.size w w'):Hp k w' L:=
 ⟨zXm h H.1,let⟨hs,hh⟩:=H.2;⟨hs,hh.move λ_ s=>ZU h s⟩⟩
def Sat.below {w w':ae} {A:HP} (H:Sat w A) (h:Below w.heap.size w w'):Sat w' A:=let⟨x,a,s⟩:=H;⟨x,a,ZU h s⟩
def Hp.drew {k:Ko} {w:ae} {L:List HP} (H:Hp k w L):Hp k w.drew L:=H.below ((Below.refl _ _).drew)
def Hp.new {k:Ko} {w:ae} {L:List HP} (H:Hp k w L) (o:Obj):Hp k (w.alloc o) (pt w.heap.size o::L):=by
 have hb:Below w.heap.size w (w.alloc o):=(Below.refl _ _).alloc (lh _) o;obtain⟨hk,hs,hh⟩:=H;refine⟨zXm hb hk,_,.cons rfl ?_ ?_ (hh.move λ_ s=>ZU hb s)⟩
 ·intro b o' e;simp only[one]at e;split at e
  ·rename_i Ay;subst Ay;cases e;exact heap_alloc_new w o
  ·cases e
 ·intro g hg;have iU:∀{L:List HP} {hs:List PH},Hs w L hs->∀g∈hs,Sub g w:=by
   intro L hs hh
   induction hh with
   |nil=>intro g hg;cases hg
   |cons _ hs _ _ ih=>
    intro g hg;rcases jq.1 hg with rfl|hg
    ·exact hs
    ·exact ih g hg
  intro b;by_cases Ay:b=w.heap.size
  ·right;cases hgb:g b with
   |none=>rfl
   |some o'=>
    have:=(iU hh g hg).lt (b:=b) (by rw[hgb];simp);omega
  ·left;simp[one,Ay]
def World.iT (w:ae) (b:Nat) (o:Obj):ae:={w with heap:=w.heap.setIfInBounds b o}
def Hp.get {k:Ko} {w:ae} {b:Nat} {o:Obj} {L:List HP} (H:Hp k w (pt b o::L)):w.heap[b]? =az o:=by
 obtain⟨h,rfl,s⟩:=H.sat;exact s b o (by simp[one])
def Hp.yx {k:Ko} {w:ae} {b:Nat} {o:Obj} {L:List HP} (H:Hp k w (pt b o::L)) (o':Obj):Hp k (World.iT w b o') (pt b o'::L):=by
 have j':=H.get;obtain⟨hk,hs,hh⟩:=H;cases hh with
 |cons ha iU hd hr=>
  cases ha;have gn:b<w.heap.size:=iU.lt (b:=b) (by simp[one]);rename_i hs;have s0:Sub (one b o') (World.iT w b o'):=by
   intro x o2 e;simp only[one]at e;split at e
   ·rename_i hx;subst hx;cases e;simp[World.iT,Xs gn]
   ·cases e
  have d0:∀g∈hs,Dj (one b o') g:=by
   intro g hg x;rcases hd g hg x with e|e
   ·left;simp only[one]at e ⊢;split at e<;>simp_all
   ·exact .inr e
  have key:∀{L:List HP} {hs:List PH},Hs w L hs->(∀g∈hs,Dj (one b o) g)->Hs (World.iT w b o') L hs:=by
   intro L hs hh
   induction hh with
   |nil=>intro _;exact .nil
   |cons ha iK oO _ ih=>
    intro HK;refine .cons ha ?_ oO (ih λg hg=>HK g (jc _ hg));intro x o2 e;have jr:x≠b:=by
     intro hx;subst hx;rcases HK _ iS x with e'|e'
     ·simp[one]at e'
     ·rw[e]at e';cases e'
    simp only[World.iT];rw[Xr (Ne.symm jr)];exact iK x o2 e
  exact⟨hk,_,.cons rfl s0 d0 (key hr hd)⟩
def base (w0:ae):HP:=λh=>h=λb=>w0.heap[b]?
def Hp.start (w:ae):Hp (Cv.ko w) w [base w]:=⟨⟨rfl,rfl,rfl⟩,_,.cons rfl (λ_ _ e=>e) (λg hg=>by cases hg) .nil⟩
end Cv
namespace Cv
open Go Go.RowKit
def uR (b o n:Nat):(⟨b,o,ba⟩:ao).add n=⟨b,o+n,ba⟩:=by
 unfold Addr.add;split
 ·rename_i h;subst h;rfl
 ·rfl
def Cw (P:ab) (t:af):Bool:=
 match P.underlying t with
 |some (.struct _)=>bv
 |some (.array _ _)=>bv
 |some _=>bu
 |none=>bv
def EK (P:ab) (t:af):Option Nat:=
 match P.underlying t with
 |some (.struct _)=>(P.info? t).map λ(x:TypeInfo)=>x.size
 |some (.array _ _)=>(P.info? t).map λ(x:TypeInfo)=>x.size
 |_=>ba
def nZ {P:ab} {t:af} (h:Cw P t=bu) (w:ae):(isAgg t).run P w= .ok bv w:=by
 unfold Cw at h;cases hd:P.underlying t with
 |none=>rw[hd]at h;cases h
 |some d=>
  rw[hd]at h;unfold isAgg;simp only[bind,run_bind,run_underlying hd];cases d<;>first|rfl|(simp at h)
def bV {P:ab} {t:af} {n:Nat} (h:EK P t=az n) (w:ae):(isAgg t).run P w= .ok bu w/\(Go.sizeOf t).run P w= .ok n w:=by
 unfold EK at h;cases hd:P.underlying t with
 |none=>rw[hd]at h;cases h
 |some d=>
  rw[hd]at h;cases d<;>simp only[reduceCtorEq]at h
  all_goals
   cases hi:P.info? t with
   |none=>rw[hi]at h;cases h
   |some i=>
    rw[hi]at h;simp only[we,cu]at h;subst h;refine⟨?_,run_sizeOf hi w⟩;unfold isAgg;simp only[bind,run_bind,run_underlying hd];rfl
def z4t {P:ab} {w:ae} {a:ao} {v:ac} (h:w.cell? a=az v):(load a).run P w= .ok v w:=by
 simp only[load,be,h]
def Wd {w:ae} {b o:Nat} {l:List ac} {T:af} {fr:Nat×Nat} (hb:w.heap[b]? =az (.cells l.toArray T fr)):w.cell? ⟨b,o,ba⟩=l[o]? :=by
 simp[World.cell?,hb]
def vQ {P:ab} {t:af} {w:ae} {b o:Nat} {l:List ac} {T:af} {fr:Nat×Nat} {v:ac} (hs:Cw P t=bu)
 (hb:w.heap[b]? =az (.cells l.toArray T fr)) (hc:l[o]? =az v):pT P t ⟨b,o,ba⟩ w v:=by
 unfold pT loadVar;simp only[bind,run_bind,nZ hs,oL,if_false];exact z4t ((Wd hb).trans hc)
def pV {P:ab} {w:ae} {b o:Nat} {l:List ac} {T:af} {fr:Nat×Nat} (hb:w.heap[b]? =az (.cells l.toArray T fr)):
 ∀(n i:Nat) (acc:Array ac),o+i+n<=l.length->(loadCellsFrom ⟨b,o,ba⟩ i n acc).run P w= .ok (acc++((l.drop (o+i)).take n).toArray) w
 |0,i,acc,_=>by simp[loadCellsFrom,pure,be]
 |n+1,i,acc,h=>by
  have gn:o+i<l.length:=by omega
  have hc:w.cell? ⟨b,o+i,ba⟩=az l[o+i]:=by rw[Wd hb];exact u' gn
  unfold loadCellsFrom;simp only[bind,run_bind,uR,z4t hc];rw[pV hb n (i+1) _ (by omega)];congr 1;rw[CD gn,ux];simp[D']
def fE {P:ab} {w:ae} {b o n:Nat} {l:List ac} {T:af} {fr:Nat×Nat} (hb:w.heap[b]? =az (.cells l.toArray T fr)) (h:o+n<=l.length):
 (loadCells ⟨b,o,ba⟩ n).run P w= .ok ((l.drop o).take n).toArray w:=by
 unfold loadCells;rw[pV hb n 0 #[] (by omega)];simp
def V3 {P:ab} {t:af} {w:ae} {b o n:Nat} {l vs:List ac} {T:af} {fr:Nat×Nat} (hs:EK P t=az n)
 (hb:w.heap[b]? =az (.cells l.toArray T fr)) (hc:(l.drop o).take n=vs) (hl:vs.length=n):pT P t ⟨b,o,ba⟩ w (.agg vs.toArray):=by
 unfold pT loadVar;have hlen:o+n<=l.length\/n=0:=by
  subst hc;simp only[ng,o8]at hl;omega
 simp only[bind,run_bind,(bV hs w).1,if_true,(bV hs w).2];rcases hlen with hlen|h0
 ·rw[fE hb hlen,hc];rfl
 ·subst h0;have:vs=[]:=xu hl;subst this;rfl
def _root_.Go.Value.oh:ac->Bool
 | .agg _=>bv
 | .tuple _=>bv
 |_=>bu
def kj (l:List ac) (o:Nat) (vs:List ac):List ac:=l.take o++vs++l.drop (o+vs.length)
def yHv (w:ae) (b:Nat) (x y:Obj):World.iT (World.iT w b x) b y=World.iT w b y:=by
 simp[World.iT,Array.setIfInBounds_setIfInBounds]
def yAy {P:ab} {w:ae} {b o:Nat} {l:List ac} {T:af} {v:ac} (hb:w.heap[b]? =az (.cells l.toArray T (0,0))) (ho:o<l.length) (hv:v.oh=bu):
 (store ⟨b,o,ba⟩ v).run P w= .ok () (World.iT w b (.cells (l.set o v).toArray T (0,0))):=by
 have hc:w.cell? ⟨b,o,ba⟩=az l[o]:=by rw[Wd hb];exact u' ho
 have hf:w.frozen? ⟨b,o,ba⟩=bv:=by simp[World.frozen?,hb]
 have qj:w.setCell ⟨b,o,ba⟩ v=World.iT w b (.cells (l.set o v).toArray T (0,0)):=by
  unfold World.setCell World.iT;congr 1;apply Ri;intro i;rw[Array.getElem?_modify,Rt];have gn:b<w.heap.size:=by
   rcases vh b w.heap.size with h|h
   ·exact h
   ·rw[Hv h]at hb;cases hb
  by_cases hi:b=i
  ·subst hi;have my:w.heap[b]= .cells l.toArray T (0,0):=by rw[Rr gn]at hb;exact cw hb
   simp[gn,my]
  ·simp[hi]
 unfold store;cases v<;>first|(cases hv;done)|(simp only[be,hc,hf,oL,if_false,qj])
def UZ {l:List ac} {p:Nat} {v:ac} {vs:List ac} (h:p<l.length):kj (l.set p v) (p+1) vs=kj l p (v::vs):=by
 have h1:(l.set p v).take (p+1)=l.take p++[v]:=by
  rw[N',fc h];rw[List.take_append,ng];simp[Fy (Nat.le_of_lt h),List.take_take]
 have h2:(l.set p v).drop (p+1+vs.length)=l.drop (p+(v::vs).length):=by
  rw[List.drop_set_of_lt (by omega)];congr 1;simp only[iC];omega
 simp only[kj,h1,h2,iY,List.singleton_append]
def vA {P:ab} {b:Nat} {T:af}:∀(vs:List ac) (i o:Nat) (l:List ac) (w:ae),w.heap[b]? =az (.cells l.toArray T (0,0))->o+i+vs.length<=l.length->
 (∀v∈vs,v.oh=bu)->(storeCells ⟨b,o,ba⟩ vs i).run P w= .ok () (World.iT w b (.cells (kj l (o+i) vs).toArray T (0,0)))
 |[],i,o,l,w,hb,h,_=>by
  have gn:b<w.heap.size:=by
   rcases vh b w.heap.size with h|h
   ·exact h
   ·rw[Hv h]at hb;cases hb
  have:World.iT w b (.cells (kj l (o+i) []).toArray T (0,0))=w:=by
   have e:kj l (o+i) []=l:=by simp[kj]
   rw[e];unfold World.iT;have:w.heap.setIfInBounds b (.cells l.toArray T (0,0))=w.heap:=by
    apply Ri;intro j;rw[Rt];split
    ·rename_i hj;subst hj;rw[hb]
    ·rfl
   rw[this]
  unfold storeCells;rw[this];rfl
 |v::vs,i,o,l,w,hb,h,hv=>by
  have gn:b<w.heap.size:=by
   rcases vh b w.heap.size with h|h
   ·exact h
   ·rw[Hv h]at hb;cases hb
  simp only[iC]at h;unfold storeCells;simp only[bind,run_bind,uR,yAy hb (show o+i<l.length by omega) (hv v iS)];have Ay:(World.iT w b (.cells (l.set (o+i) v).toArray T (0,0))).heap[b]? =az (.cells (l.set (o+i) v).toArray T (0,0)):=by
   simp[World.iT,Xs gn]
  rw[vA vs (i+1) o (l.set (o+i) v) _ Ay (by rw[qm];omega) (λu hu=>hv u (jc _ hu)),yHv];rw[show o+(i+1)=o+i+1 by omega,UZ (show o+i<l.length by omega)]
end Cv
namespace Cv
open Go Go.RowKit
def oq (e sz:Nat) (a:Option ao) (n k:Nat) (xs:List ac):HP:=λh=>
 (a=ba/\n=0/\k=0/\xs=[]/\h=pe)\/
 ∃b r,a=az ⟨b,0,ba⟩/\h=one b (.cells (xs++r).toArray e)/\xs.length=n*sz/\(xs++r).length=k*sz/\n<=k
def FE (sz:Nat) (a:Option ao) (n k:Nat) (xs:List ac):HP:=λh=>
 (n=0/\xs=[]/\h=pe)\/
 ∃(b o:Nat) (l:List ac) (T:af) (fr:Nat×Nat),a=az ⟨b,o,ba⟩/\h=one b (.cells l.toArray T fr)/\(l.drop o).take (n*sz)=xs/\xs.length=n*sz/\n<=k
def nN {e sz:Nat} {a:Option ao} {n k:Nat} {xs:List ac} {h:PH} (H:oq e sz a n k xs h):FE sz a n k xs h:=by
 rcases H with⟨rfl,rfl,rfl,rfl,rfl⟩|⟨b,r,rfl,rfl,h1,h2,h3⟩
 ·exact .inl ⟨rfl,rfl,rfl⟩
 ·right;exact⟨b,0,_,e,_,rfl,rfl,by rw[Ea,<- h1];simp,h1,h3⟩
def Hp.IK {k:Ko} {w:ae} {e sz:Nat} {a:Option ao} {n c:Nat} {xs:List ac} {L:List HP} (H:Hp k w (oq e sz a n c xs::L)):Sat w (FE sz a n c xs):=by
 obtain⟨h,hh,s⟩:=H.sat;exact⟨h,nN hh,s⟩
def Hp.oD {k:Ko} {w:ae} {e sz:Nat} {a:Option ao} {n c:Nat} {xs:List ac} {L:List HP} (H:Hp k w (oq e sz a n c xs::L)):
 (a=ba/\n=0/\c=0/\xs=[]/\Hp k w L)\/
 ∃b r,a=az ⟨b,0,ba⟩/\xs.length=n*sz/\(xs++r).length=c*sz/\n<=c/\Hp k w (pt b (.cells (xs++r).toArray e)::L):=by
 obtain⟨hk,hs,hh⟩:=H;cases hh with
 |cons ha iU hd hr=>
  rcases ha with⟨h1,h2,h3,h4,h5⟩|⟨b,r,h1,h2,h3,h4,h5⟩
  ·exact .inl ⟨h1,h2,h3,h4,hk,_,hr⟩
  ·subst h2;exact .inr ⟨b,r,h1,h3,h4,h5,hk,_,.cons rfl iU hd hr⟩
def Hp.AE {k:Ko} {w:ae} {e sz b n c:Nat} {xs r:List ac} {L:List HP} (H:Hp k w (pt b (.cells (xs++r).toArray e)::L)) (h1:xs.length=n*sz) (h2:(xs++r).length=c*sz) (h3:n<=c):
 Hp k w (oq e sz (az ⟨b,0,ba⟩) n c xs::L):=H.imp λx hx=> .inr ⟨b,r,rfl,hx,h1,h2,h3⟩
def yHn (e sz:Nat):oq e sz ba 0 0 [] pe:= .inl ⟨rfl,rfl,rfl,rfl,rfl⟩
def Hp.nil {k:Ko} {w:ae} {L:List HP} (e sz:Nat) (H:Hp k w L):Hp k w (oq e sz ba 0 0 []::L):=
 ((@h9 k w True L).2 ⟨trivial,H⟩).imp λx hx=>by rw[hx.2];exact yHn e sz
def Hp.lit {k:Ko} {w:ae} {b e sz n:Nat} {l:List ac} {L:List HP} (H:Hp k w (pt b (.cells l.toArray e)::L)) (hl:l.length=n*sz):Hp k w (oq e sz (az ⟨b,0,ba⟩) n n l::L):=
 H.imp λx hx=> .inr ⟨b,[],rfl,by rw[hx,oJ],hl,by simpa using hl,lh _⟩
def UA {e sz:Nat} {a:Option ao} {n k:Nat} {xs:List ac} {h:PH} (H:oq e sz a n k xs h):xs.length=n*sz/\n<=k:=by
 rcases H with⟨rfl,rfl,rfl,rfl,rfl⟩|⟨b,r,rfl,rfl,h1,h2,h3⟩
 ·simp
 ·exact⟨h1,h3⟩
def Hp.len {k:Ko} {w:ae} {e sz:Nat} {a:Option ao} {n c:Nat} {xs:List ac} {L:List HP} (H:Hp k w (oq e sz a n c xs::L)):xs.length=n*sz/\n<=c:=by
 obtain⟨h,hh,s⟩:=H.sat;exact UA hh
def yEj {w:ae} {sz:Nat} {a:Option ao} {n k:Nat} {xs:List ac} (H:Sat w (FE sz a n k xs)):xs.length=n*sz:=by
 obtain⟨h,hh,s⟩:=H;rcases hh with⟨rfl,rfl,_⟩|⟨b,o,l,T,fr,rfl,rfl,h1,h2,_⟩
 ·simp
 ·exact h2
def K5 {w:ae} {sz:Nat} {a:Option ao} {n k:Nat} {xs:List ac} (H:Sat w (FE sz a n k xs)) (hn:0<n):
 ∃(b o:Nat) (l:List ac) (T:af) (fr:Nat×Nat),a=az ⟨b,o,ba⟩/\w.heap[b]? =az (.cells l.toArray T fr)/\(l.drop o).take (n*sz)=xs:=by
 obtain⟨h,hh,s⟩:=H;rcases hh with⟨rfl,rfl,_⟩|⟨b,o,l,T,fr,rfl,rfl,h1,h2,_⟩
 ·omega
 ·exact⟨b,o,l,T,fr,rfl,s b _ (by simp[one]),h1⟩
def zVx (m:Nat) (hm:256<=m):∀(r c:Nat),c<=2*m->Builtin.growBy m r c<=2*m
 |0,c,h=>h
 |r+1,c,h=>by
  unfold Builtin.growBy;split
  ·exact h
  ·exact zVx m hm r _ (by omega)
def zRb {need cap:Nat} (h:cap<need):Builtin.nextslicecap need cap<=2*need:=by
 unfold Builtin.nextslicecap;split
 ·omega
 ·split
  ·omega
  ·exact zVx need (by omega) 4 cap (by omega)
def Src (sz:Nat) (w:ae) (x:ac) (m:Nat) (ys:List ac):Prop:=
 (∃a k,x=.slice a m k/\Sat w (FE sz a m k ys))\/(∃s:ByteArray,x=.string s/\sz=1/\m=s.size/\ys=s.data.toList.map λb=> .int .u8 b.toNat)
def Pn {P:ab} {sz:Nat} {w:ae} {x:ac} {m:Nat} {ys:List ac} (h:Src sz w x m ys):
 (Builtin.lenOf x).run P w= .ok m w/\(bz sz m x).run P w= .ok ys.toArray w/\ys.length=m*sz:=by
 rcases h with⟨a,k,rfl,H⟩|⟨s,rfl,rfl,rfl,rfl⟩
 ·refine⟨rfl,?_,yEj H⟩;have hl:=yEj H;obtain⟨h,hh,s⟩:=H;rcases hh with⟨rfl,rfl,_⟩|⟨b,o,l,T,fr,rfl,rfl,h1,h2,_⟩
  ·cases a with
   |none=>rfl
   |some a=>simp[bz,loadCells,loadCellsFrom,pure,be]
  ·have hb:=s b _ (show one b _ b=_ by simp[one];rfl);unfold bz;by_cases h0:m*sz=0
   ·rw[h0]at h1 hl ⊢;have:ys=[]:=xu hl;subst this;rfl
   ·have:o+m*sz<=l.length:=by
     rw[<- h1,ng,o8]at h2;omega
    rw[fE hb this,h1]
 ·refine⟨rfl,?_,by simp⟩;simp only[bz];have:s.extract 0 s.size=s:=by simp
  rw[this];simp only[pure,be];congr 1;apply df;simp
def Ls (P:ab) (t:af):Bool:=
 match P.underlying t with
 |some (.slice _)=>bu
 |some .string=>bu
 |_=>bv
def YP {P:ab} {t:af} (h:Ls P t=bu):(∃e,P.underlying t=az (.slice e))\/P.underlying t=az .string:=by
 unfold Ls at h;cases hd:P.underlying t with
 |none=>rw[hd]at h;cases h
 |some d=>
  rw[hd]at h;cases d<;>first|exact .inl ⟨_,rfl⟩|exact .inr rfl|(cases h)
def Hp.append {P:ab} {k:Ko} {w:ae} {L:List HP} {t1 t2 rt e sz oC:Nat} {z:Array ac} (hi:vS P t1=az (e,sz,oC,z)) (h2:Ls P t2=bu) {a:Option ao} {n c:Nat} {xs:List ac}
 (H:Hp k w (oq e sz a n c xs::L)) {x:ac} {m:Nat} {ys:List ac} (hx:Src sz w x m ys) (hv:∀v∈ys,v.oh=bu) (hz:z.size=sz) (EY:0<oC) (hb:(n+m)*oC<=140737488355328):
 ∃a' c' w',g7 P (ce #[t1,t2] rt #[.slice a n c,x]) w (.slice a' (n+m) c') w'/\Hp k w' (oq e sz a' (n+m) c' (xs++ys)::L):=by
 obtain⟨i,zv,q1,q2,rfl,rfl,q5,rfl⟩:=jF hi;obtain⟨r1,r2,BQ⟩:=Pn (P:=P) hx;obtain⟨KA,hnc⟩:=H.len;have hnm:n+m<=140737488355328:=vz (Nat.le_mul_of_pos_right _ EY) hb;have AH:(n+m)*i.size=n*i.size+m*i.size:=zp _ _ _;by_cases te:n+m<=c
 ·--zG the capacity
  rcases H.oD with⟨rfl,rfl,rfl,rfl,H0⟩|⟨b,r,rfl,h3,h4,h5,H0⟩
  ·have hm:m=0:=by omega
   subst hm;have HD:ys=[]:=xu (by simpa using BQ);subst HD;refine⟨ba,0,w,?_,by simpa using H⟩;unfold g7 ce;rcases YP h2 with⟨e2,hd⟩|hd<;>
   simp only[Bc,CC,Bd,bind,pure,run_bind,bg,be,run_underlying q1,run_sizeOf q2,run_underlying hd,oL,if_false,r1,r2,Fw,lh,if_true,JH]
  ·have F7:n*i.size+ys.length<=(xs++r).length:=by
    rw[h4,BQ,<- AH];exact xj _ te
   have kr:=vA (P:=P) ys 0 (n*i.size) (xs++r) w H0.get (by omega) hv;simp only[Fw]at kr;have CP:kj (xs++r) (n*i.size) ys=(xs++ys)++r.drop ys.length:=by
    simp only[kj];rw[<- h3,Lz,LF];simp
   rw[CP]at kr;refine⟨az ⟨b,0,ba⟩,c,_,?_,(H0.yx _).AE (r:=r.drop ys.length) (by rw[iv,h3,BQ,AH]) ?_ te⟩
   ·unfold g7 ce;rcases YP h2 with⟨e2,hd⟩|hd<;>
    simp only[Bc,CC,Bd,bind,pure,run_bind,bg,be,run_underlying q1,run_sizeOf q2,run_underlying hd,oL,if_false,r1,r2,te,if_true,uR,nh,kr,JH]
   ·rw[<- h4];simp only[iv,o8]at F7 ⊢;omega
 ·have CI:¬(((n+m:Nat):Int)>dh.max/\(False\/i.bytes=0)):=by
   rintro⟨_,h|h⟩
   ·exact h
   ·omega
  have Ch:¬(Builtin.nextslicecap (n+m) c*i.bytes>2 ^ 48):=by
   have:=zRb (need:=n+m) (cap:=c) (by omega);have:=xj i.bytes this;have e:2*(n+m)*i.bytes=2*((n+m)*i.bytes):=by rw[Nat.mul_assoc]
   omega
  have hold:(bz i.size n (.slice a n c)).run P w= .ok xs.toArray w:=(Pn (P:=P) (.inl ⟨a,c,rfl,H.IK⟩)).2.1;have ET:∀w,(zeroValue e).run P w= .ok zv w:=λw=>lz (by unfold zero?;rw[q2];exact q5) w
  have Is:∀w,(typeInfo e).run P w= .ok i w:=λw=>zIr q2 w
  generalize IU:(Question.appendCap (n+m) c e).cut (w.tape w.drawn (.appendCap (n+m) c e))=nc;have LW:n+m<=nc:=by
   rw[<- IU];simp only[Question.cut];omega
  have r2':(bz i.size m x).run P w.drew= .ok ys.toArray w.drew:=by
   have JU:Src i.size w.drew x m ys:=by
    rcases hx with⟨a,kk,rfl,H⟩|h
    ·exact .inl ⟨a,kk,rfl,H.below ((Below.refl _ _).drew)⟩
    ·exact .inr h
   exact(Pn (P:=P) JU).2.1
  have TX:(bz i.size n (.slice a n c)).run P w.drew= .ok xs.toArray w.drew:=(Pn (P:=P) (.inl ⟨a,c,rfl,H.IK.below ((Below.refl _ _).drew)⟩)).2.1;have hch:(choose (.appendCap (n+m) c e)).run P w= .ok nc w.drew:=by
   simp only[choose,be,Question.forced,oL,if_false,IU];rfl
  have IQ:=(H.drop.drew).new (.cells (xs++(ys++(cd zv.cells (nc-(n+m))).toList)).toArray e);have hlen:(ys++(cd zv.cells (nc-(n+m))).toList).length=m*i.size+(nc-(n+m))*i.size:=by
   rw[iv,BQ,JP,size_zeroCells,hz]
  have F3:xs.toArray++ys.toArray++cd zv.cells (nc-(n+m))=(xs++(ys++(cd zv.cells (nc-(n+m))).toList)).toArray:=by
   apply df;simp
  refine⟨az ⟨w.drew.heap.size,0,ba⟩,nc,w.drew.alloc (.cells (xs++(ys++(cd zv.cells (nc-(n+m))).toList)).toArray e),?_,?_⟩
  ·unfold g7 ce;rcases YP h2 with⟨e2,hd⟩|hd<;>
   simp only[Bc,CC,Bd,bind,pure,run_bind,bg,be,run_underlying q1,run_sizeOf q2,run_underlying hd,oL,if_false,r1,te,Is,CI,Ch,hch,zOj,TX,r2',ET,JH,if_true,F3,newRow,newObj]
   all_goals rfl
  ·have:=Hp.AE (c:=nc) (n:=n+m) (sz:=i.size) (xs:=xs++ys) (r:=(cd zv.cells (nc-(n+m))).toList) (by rw[iY];exact IQ) (by rw[iv,KA,BQ,AH]) ?_ LW
   ·exact this
   ·rw[iY,iv,hlen,KA,<- zp,<- zp];congr 1;omega
end Cv
namespace Sx
@[reducible] def dl.{u} {α:Sort u} (x:α):Prop:=x=x
open Go Go.RowKit Cv
inductive D where
 |v (x:ac)
 |ro (sz:Nat) (ez:List (List D))
inductive V where
 |top
 |d (x:D)
 |nm (n off:Nat)
 |el (n sz i f:Nat)
 |re (sz:Nat) (ez:List (List D)) (i f:Nat)
 |na (n off i:Nat)
 |own (n:Nat)
 |mp (n:Nat)
 |sub (n i:Nat)
 |agg (l:List V)
 |iZ (l:List V)
 |fn (f:Nat) (first cap:List V)
 |zy (t:Nat) (x:V)
inductive fj:Type 1 where
 |gone
 |AG
 |cells (vs:List V) (t:af)
 |own (t sz:Nat) (ez:List (List D))
 |kg (sz:Nat) (ez:List (List D))
 |HA (t:af) (ez:List (List D))
 |vec (ds:List D) (t:af)
 |map (es:List (ac×List D))
 |CN (es:List (ac×List D)) (kv:ac) (b:Int)
 |iter (s:ByteArray) (pos:Nat)
 |ra (T:Type) (m:Nat) (ix:T->Nat->fj) (x:T)
 |jz (t:Nat) (T:Type) (m:Nat) (ix:T->Nat->fj) (l:List T) (hole:Option Nat)
 |ug (q:Bool) (t sz:Nat) (ez:List (List D)) (i f:Nat) (b:Bool) (m:Option Nat)
@[reducible] def Hd:=ac×List ac
structure Ev where
 F:PH
 ga:List Hd
def xp (F G:PH):Prop:=∀b o,F b=az o->G b=az o
def Ev.le (E E':Ev):Prop:=xp E.F E'.F/\E.ga<+:E'.ga
def xp.refl (F:PH):xp F F:=λ_ _ h=>h
def xp.trans {F G H:PH} (a:xp F G) (b:xp G H):xp F H:=λx o h=>b x o (a x o h)
def Ev.le.refl (E:Ev):E.le E:=⟨xp.refl _,JJ _⟩
def Ev.le.trans {E E' E2:Ev} (a:E.le E') (b:E'.le E2):E.le E2:=⟨a.1.trans b.1,a.2.trans b.2⟩
def U0 {α:Type} {l l':List α} (h:l<+:l') {n:Nat} {x:α} (e:l[n]? =az x):l'[n]? =az x:=by
 obtain⟨t,rfl⟩:=h;rw[FC]
 ·exact e
 ·exact(jf.1 e).1
def Ev.le.get {E E':Ev} (a:E.le E') {n:Nat} {x:Hd} (e:E.ga[n]? =az x):E'.ga[n]? =az x:=U0 a.2 e
mutual
def DR (F:PH):D->ac->Prop
 | .v x,y=>y=x/\x.oh=bu
 | .ro sz ez,y=>∃a c,y= .slice a ez.length c/\ez.length<=c/\(∀el∈ez,el.length=sz)/\
    (ez=[]\/∃(b o:Nat) (l:List ac) (T:af) (fr:Nat×Nat),a=az ⟨b,o,ba⟩/\F b=az (.cells l.toArray T fr)/\BG F ez (l.drop o))
def iy (F:PH):List D->List ac->Prop
 |[],l=>l=[]
 |d::ds,l=>∃x xs,l=x::xs/\DR F d x/\iy F ds xs
def BG (F:PH):List (List D)->List ac->Prop
 |[],_=>True
 |el::ez,l=>∃l1 l2,l=l1++l2/\iy F el l1/\BG F ez l2
end
mutual
theorem DR.mono {F G:PH} (h:xp F G):∀{d:D} {y:ac},DR F d y->DR G d y
 | .v x,y,e=>by simpa only[DR]using e
 | .ro sz ez,y,e=>by
   simp only[DR]at e ⊢;obtain⟨a,c,h1,h2,h3,h4⟩:=e;refine⟨a,c,h1,h2,h3,?_⟩;rcases h4 with h4|⟨b,o,l,T,fr,q1,q2,q3⟩
   ·exact .inl h4
   ·exact .inr ⟨b,o,l,T,fr,q1,h _ _ q2,BG.mono h q3⟩
theorem iy.mono {F G:PH} (h:xp F G):∀{ds:List D} {l:List ac},iy F ds l->iy G ds l
 |[],l,e=>by simpa only[iy]using e
 |d::ds,l,e=>by
  simp only[iy]at e ⊢;obtain⟨x,xs,h1,h2,h3⟩:=e;exact⟨x,xs,h1,DR.mono h h2,iy.mono h h3⟩
theorem BG.mono {F G:PH} (h:xp F G):∀{ez:List (List D)} {l:List ac},BG F ez l->BG G ez l
 |[],l,e=>by simp only[BG]
 |el::ez,l,e=>by
  simp only[BG]at e ⊢;obtain⟨x,xs,h1,h2,h3⟩:=e;exact⟨x,xs,h1,iy.mono h h2,BG.mono h h3⟩
end
mutual
def VR (E:Ev):V->ac->Prop
 | .top,_=>True
 | .d d,y=>DR E.F d y
 | .nm n o,y=>∃(b oo:Nat) (l:List ac),E.ga[n]? =az (.pointer (az ⟨b,oo,ba⟩),l)/\y= .pointer (az ⟨b,oo+o,ba⟩)
 | .el n sz i f,y=>∃(b oo m c:Nat) (l:List ac),E.ga[n]? =az (.slice (az ⟨b,oo,ba⟩) m c,l)/\y= .pointer (az ⟨b,oo+i*sz+f,ba⟩)
 | .re sz ez i f,y=>i<ez.length/\(∀el∈ez,el.length=sz)/\∃(b o:Nat) (l:List ac) (T:af) (fr:Nat×Nat),y= .pointer (az ⟨b,o+i*sz+f,ba⟩)/\E.F b=az (.cells l.toArray T fr)/\BG E.F ez (l.drop o)
 | .na n o i,y=>∃(b oo:Nat) (l:List ac),E.ga[n]? =az (.pointer (az ⟨b,oo,ba⟩),l)/\y= .pointer (az ⟨b,oo+(o+i),ba⟩)
 | .own n,y=>∃l,E.ga[n]? =az (y,l)/\∃a m c,y= .slice a m c
 | .mp n,y=>∃b l,E.ga[n]? =az (y,l)/\y= .map (az b)
 | .sub n i,y=>∃hd l b oo,E.ga[n]? =az (hd,l)/\l[i]? =az y/\y= .pointer (az ⟨b,oo,ba⟩)
 | .agg l,y=>∃ys,y= .agg ys.toArray/\gw E l ys
 | .iZ l,y=>∃ys,y= .tuple ys.toArray/\gw E l ys
 | .fn f a b,y=>∃as bs,y= .func (.func f) as.toArray bs.toArray/\gw E a as/\gw E b bs
 | .zy t x,y=>∃z,y= .iface t z/\VR E x z
def gw (E:Ev):List V->List ac->Prop
 |[],l=>l=[]
 |v::vs,l=>∃x xs,l=x::xs/\VR E v x/\gw E vs xs
end
mutual
theorem VR.mono {E E':Ev} (h:E.le E'):∀{v:V} {y:ac},VR E v y->VR E' v y
 | .top,y,e=>by simp only[VR]
 | .d d,y,e=>by simp only[VR]at e ⊢;exact e.mono h.1
 | .nm n o,y,e=>by
   simp only[VR]at e ⊢;obtain⟨b,oo,l,h1,h2⟩:=e;exact⟨b,oo,l,h.get h1,h2⟩
 | .el n sz i f,y,e=>by
   simp only[VR]at e ⊢;obtain⟨b,oo,m,c,l,h1,h2⟩:=e;exact⟨b,oo,m,c,l,h.get h1,h2⟩
 | .re sz ez i f,y,e=>by
   simp only[VR]at e ⊢;obtain⟨h0,h1,b,o,l,T,fr,h2,h3,h4⟩:=e;exact⟨h0,h1,b,o,l,T,fr,h2,h.1 _ _ h3,h4.mono h.1⟩
 | .na n o i,y,e=>by
   simp only[VR]at e ⊢;obtain⟨b,oo,l,h1,h2⟩:=e;exact⟨b,oo,l,h.get h1,h2⟩
 | .own n,y,e=>by
   simp only[VR]at e ⊢;obtain⟨l,h1,h2⟩:=e;exact⟨l,h.get h1,h2⟩
 | .mp n,y,e=>by
   simp only[VR]at e ⊢;obtain⟨b,l,h1,h2⟩:=e;exact⟨b,l,h.get h1,h2⟩
 | .sub n i,y,e=>by
   simp only[VR]at e ⊢;obtain⟨hd,l,b,oo,h1,h2⟩:=e;exact⟨hd,l,b,oo,h.get h1,h2⟩
 | .agg l,y,e=>by
   simp only[VR]at e ⊢;obtain⟨ys,h1,h2⟩:=e;exact⟨ys,h1,gw.mono h h2⟩
 | .iZ l,y,e=>by
   simp only[VR]at e ⊢;obtain⟨ys,h1,h2⟩:=e;exact⟨ys,h1,gw.mono h h2⟩
 | .fn f a b,y,e=>by
   simp only[VR]at e ⊢;obtain⟨as,bs,h1,h2,h3⟩:=e;exact⟨as,bs,h1,gw.mono h h2,gw.mono h h3⟩
 | .zy t x,y,e=>by
   simp only[VR]at e ⊢;obtain⟨z,h1,h2⟩:=e;exact⟨z,h1,VR.mono h h2⟩
theorem gw.mono {E E':Ev} (h:E.le E'):∀{vs:List V} {l:List ac},gw E vs l->gw E' vs l
 |[],l,e=>by simpa only[gw]using e
 |v::vs,l,e=>by
  simp only[gw]at e ⊢;obtain⟨x,xs,h1,h2,h3⟩:=e;exact⟨x,xs,h1,VR.mono h h2,gw.mono h h3⟩
end
def rQ:List ac->ac
 |[y]=>y
 |ys=> .agg ys.toArray
def MR (F:PH):List (ac×List D)->List ar->Prop
 |[],l=>l=[]
 |(k,ds)::es,l=>∃(m:ar) (ms:List ar),l=m::ms/\m.key=k/\(∃ys,iy F ds ys/\m.val=rQ ys)/\MR F es ms
def MR.mono {F G:PH} (h:xp F G):∀{es:List (ac×List D)} {l:List ar},MR F es l->MR G es l
 |[],l,e=>e
 |(k,ds)::es,l,e=>by
  obtain⟨m,ms,h1,h2,⟨ys,h3,h4⟩,h5⟩:=e;exact⟨m,ms,h1,h2,⟨ys,h3.mono h,h4⟩,h5.mono h⟩
def uI (l:List ar) (ck:Nat):Prop:=(l.map (·.born)).Nodup/\∀e∈l,e.born<ck
def JA (kd:TypeDesc) (x:ac):Prop:=(∃ik k n,kd=.int ik/\x=.int k n)\/(∃s,kd=.string/\x=.string s)
def UI (l:List ar) (x:ac) (b:Int):Prop:=∃kd,JA kd x/\∃q m,Instr.findNow kd x l 0=az (az (q,m.val))/\l[q]?=az m/\(m.born:Int)=b
def zm (ga:List Hd) (p:Nat) (b:Bool) (ys xs:List ac):Option Nat->Prop
 |some m=>∃y l,ga[m]? =az (y,l)/\(∃a n c,y= .slice a n c)/\xs=bif b then ys.set p y else ys
 |none=>∃y,(∃a n c,y= .slice a n c)/\xs=bif b then ys.set p y else ys
def fp (F:PH):fj->List Hd->Hd->HP
 | .gone,_,_=>λh=>h=pe
 | .AG,_,hd=>λh=>h=pe/\hd.1= .slice ba 0 0/\hd.2=[]
 | .cells vs t,ga,hd=>λh=>∃b l,hd.1= .pointer (az ⟨b,0,ba⟩)/\gw ⟨F,ga⟩ vs l/\h=one b (.cells l.toArray t)
 | .own t sz ez,ga,hd=>λh=>∃a k xs,hd.1= .slice a ez.length k/\iy F ez.flatten xs/\(∀el∈ez,el.length=sz)/\oq t sz a ez.length k xs h
 | .kg sz ez,ga,hd=>λh=>h=pe/\DR F (.ro sz ez) hd.1
 | .HA t ez,ga,hd=>λh=>∃b k xs r,hd.1= .slice (az ⟨b,0,ba⟩) ez.length k/\iy F ez.flatten xs/\(∀el∈ez,el.length=1)/\ez.length<=k/\h=one b (.cells (xs++r).toArray t ((xs++r).length,(xs++r).length+1))
 | .vec ds t,ga,hd=>λh=>∃b l,hd.1= .pointer (az ⟨b,0,ba⟩)/\iy F ds l/\h=one b (.cells l.toArray t)
 | .map es,ga,hd=>λh=>∃b fu ck,hd.1= .map (az b)/\MR F es fu/\uI fu ck/\h=one b (.map fu.toArray ck)
 | .CN es kv x,ga,hd=>λh=>∃b fu ck,hd.1= .map (az b)/\MR F es fu/\uI fu ck/\UI fu kv x/\h=one b (.map fu.toArray ck)
 | .iter s pos,ga,hd=>λh=>∃b,hd.1= .pointer (az ⟨b,0,ba⟩)/\h=one b (.stringIter s pos)
 | .ra T m ix x,ga,hd=>λh=>∃jx,jx[0]? =az hd/\jx.length=m/\hS ((dc m).map λj=>λh=>∃oO,jx[j]? =az oO/\fp F (ix x j) jx oO h) h
 | .jz t T m ix l hole,ga,hd=>λh=>∃a k,hd.1= .slice a l.length k/\hd.2.length=l.length/\(∀p∈hd.2,∃b oo,p= .pointer (az ⟨b,oo,ba⟩))/\
    hS [oq t 1 a l.length k hd.2,hS ((dc l.length).map λi=>λh=>if hole=az i then h=pe else ∃x p l0 jx,l[i]? =az x/\hd.2[i]? =az p/\jx[0]? =az (p,l0)/\jx.length=m/\
     hS ((dc m).map λj=>λh=>∃oO,jx[j]? =az oO/\fp F (ix x j) jx oO h) h)] h
 | .ug q t sz ez i f b m,ga,hd=>λh=>∃a k ys xs,hd.1= .slice a ez.length k/\iy F ez.flatten ys/\(∀el∈ez,el.length=sz)/\zm ga (i*sz+f) b ys xs m/\oq t sz a ez.length k xs h
def K9 {α:Type} {f g:α->HP} (h:∀a x,f a x->g a x):∀{l:List α} {x:PH},hS (l.map f) x->hS (l.map g) x
 |[],x,e=>e
 |[a],x,e=>h a x e
 |a::b::l,x,e=>by
  obtain⟨g1,g2,h1,h2,h3,h4⟩:=e;exact⟨g1,g2,h a _ h1,K9 h (l:=b::l) h2,h3,h4⟩
def zm.mono {ga oE:List Hd} (h:∀(n:Nat) (hd:Hd),ga[n]? =az hd->oE[n]? =az hd) {p:Nat} {b:Bool} {ys xs:List ac}:∀{m:Option Nat},zm ga p b ys xs m->zm oE p b ys xs m
 |some m,⟨y,l,h1,h2⟩=>⟨y,l,h _ _ h1,h2⟩
 |none,e=>e
def fp.mono {F G:PH} (hF:xp F G) (o:fj):∀{ga oE:List Hd} (ht:ga<+:oE) {hd:Hd} {h:PH},fp F o ga hd h->fp G o oE hd h:=by
 induction o with
 |gone=>intro _ _ _ _ _ e;exact e
 |AG=>intro _ _ _ _ _ e;exact e
 |cells vs t=>
  intro ga oE ht hd h e;simp only[fp]at e ⊢;obtain⟨b,l,h1,h2,h3⟩:=e;exact⟨b,l,h1,h2.mono ⟨hF,ht⟩,h3⟩
 |own t sz ez=>
  intro ga oE ht hd h e;simp only[fp]at e ⊢;obtain⟨a,k,xs,h1,h2,h3⟩:=e;exact⟨a,k,xs,h1,h2.mono hF,h3⟩
 |kg sz ez=>
  intro ga oE ht hd h e;simp only[fp]at e ⊢;exact⟨e.1,e.2.mono hF⟩
 |HA t ez=>
  intro ga oE ht hd h e;simp only[fp]at e ⊢;obtain⟨b,k,xs,r,h1,h2,h3⟩:=e;exact⟨b,k,xs,r,h1,h2.mono hF,h3⟩
 |vec ds t=>
  intro ga oE ht hd h e;simp only[fp]at e ⊢;obtain⟨b,l,h1,h2,h3⟩:=e;exact⟨b,l,h1,h2.mono hF,h3⟩
 |map es=>
  intro ga oE ht hd h e;simp only[fp]at e ⊢;obtain⟨b,l,ck,h1,h2,h3⟩:=e;exact⟨b,l,ck,h1,h2.mono hF,h3⟩
 |CN es kv x=>
  intro ga oE ht hd h e;simp only[fp]at e ⊢;obtain⟨b,l,ck,h1,h2,h3⟩:=e;exact⟨b,l,ck,h1,h2.mono hF,h3⟩
 |iter s pos=>intro _ _ _ _ _ e;simpa only[fp]using e
 |ra T m ix x ih=>
  intro ga oE ht hd h e;simp only[fp]at e ⊢;obtain⟨jx,h1,h2,h3⟩:=e;refine⟨jx,h1,h2,K9 ?_ h3⟩;rintro j y ⟨oO,q1,q2⟩;exact⟨oO,q1,ih x j (JJ _) q2⟩
 |jz t T m ix l hole ih=>
  intro ga oE ht hd h e;simp only[fp]at e ⊢;obtain⟨a,k,h1,h2,h3,h5⟩:=e;refine⟨a,k,h1,h2,h3,?_⟩;obtain⟨g1,g2,q1,q2,q3,q4⟩:=h5;refine⟨g1,g2,q1,K9 ?_ q2,q3,q4⟩;intro i y hy;split
  ·rename_i hi;rw[fc hi]at hy;exact hy
  ·rename_i hi;rw[eg hi]at hy;obtain⟨x,p,l0,jx,r1,r2,r3,r4,r5⟩:=hy;refine⟨x,p,l0,jx,r1,r2,r3,r4,K9 ?_ r5⟩;rintro j y ⟨oO,s1,s2⟩;exact⟨oO,s1,ih x j (JJ _) s2⟩
 |ug q t sz ez i f b m=>
  intro ga oE ht hd h e;simp only[fp]at e ⊢;obtain⟨a,k,ys,xs,h1,h2,h3,h4,h5⟩:=e;exact⟨a,k,ys,xs,h1,h2.mono hF,h3,h4.mono λn hd e=>U0 ht e,h5⟩
structure St where
 rows:List (Nat×fj)
 nx:Nat
def A4 (n:Nat):List (Nat×fj)->Option fj
 |[]=>ba
 |(m,o)::l=>bif cx m n then az o else A4 n l
def v8 (n:Nat):List (Nat×fj)->List (Nat×fj)
 |[]=>[]
 |(m,o)::l=>bif cx m n then l else(m,o)::v8 n l
def lL (n:Nat) (x:fj):List (Nat×fj)->List (Nat×fj)
 |[]=>[]
 |(m,o)::l=>bif cx m n then(m,x)::l else(m,o)::lL n x l
def St.get (s:St) (n:Nat):Option fj:=A4 n s.rows
def St.set (s:St) (n:Nat) (o:fj):St:=⟨lL n o s.rows,s.nx⟩
def St.del (s:St) (n:Nat):St:=⟨v8 n s.rows,s.nx⟩
def St.IV (s:St) (n:Nat):fj->St
 | .kg _ _=>s
 |_=>s.del n
def St.new (s:St) (o:fj):St:=⟨(s.nx,o)::s.rows,s.nx+1⟩
def uC {n:Nat} {o:fj}:∀{l:List (Nat×fj)},A4 n l=az o->l.Perm ((n,o)::v8 n l)/\∀x,(lL n x l).Perm ((n,x)::v8 n l)
 |[],h=>by cases h
 |(m,p)::l,h=>by
  simp only[A4,v8,lL]at h ⊢;cases hb:cx m n
  ·rw[hb]at h;obtain⟨h1,h2⟩:=uC (l:=l) h;exact⟨(h1.cons _).trans (.swap _ _ _),λx=>((h2 x).cons _).trans (.swap _ _ _)⟩
  ·rw[hb]at h;have:=ja hb;subst this;cases h;exact⟨.refl _,λx=> .refl _⟩
def gz (E:Ev) (r:Nat×fj):HP:=λh=>r.2= .gone/\h=pe\/∃hd,E.ga[r.1]? =az hd/\fp E.F r.2 E.ga hd h
def gz.mono {E E':Ev} (h:E.le E') (r:Nat×fj) {x:PH} (e:gz E r x):gz E' r x:=by
 rcases e with e|⟨hd,h1,h2⟩
 ·exact .inl e
 ·exact .inr ⟨hd,h.get h1,h2.mono h.1 _ h.2⟩
def xHi:List (Nat×(Obj->Prop)):=[]
def EA (F:PH):Prop:=∀g∈xHi,∃o,F g.1=az o/\g.2 o
def EA.mono {F G:PH} (h:xp F G) (e:EA F):EA G:=λg hg=>let⟨o,h1,h2⟩:=e g hg;⟨o,h _ _ h1,h2⟩
def fz (F:PH):HP:=λh=>h=F/\EA F
structure Rel (k:Ko) (L:List HP) (E:Ev) (s:St) (w:ae):Prop where
 nx:E.ga.length=s.nx
 hp:Hp k w (s.rows.map (gz E)++fz E.F::L)
end Sx
namespace Cv
open Go Go.RowKit
inductive Tr (α:Type) where
 |e
 |n (v:Option α) (l r:Tr α)
def Tr.get {α:Type}:List Bool->Tr α->Option α
 |_,.e=>ba
 |[],.n v _ _=>v
 |b::p,.n _ l r=>bif b then Tr.get p l else Tr.get p r
def Tr.set {α:Type} (x:Option α):List Bool->Tr α->Tr α
 |[],.e=> .n x .e .e
 |[],.n _ l r=> .n x l r
 |b::p,.e=>bif b then .n ba (Tr.set x p .e) .e else .n ba .e (Tr.set x p .e)
 |b::p,.n v l r=>bif b then .n v (Tr.set x p l) r else .n v l (Tr.set x p r)
def xDx:Nat->Nat->List Bool
 |0,n=>List.replicate n bu
 |f+1,n=>bif cx n 0 then[]else cx (n % 2) 1::xDx f (n / 2)
def Ry (n:Nat):List Bool:=xDx 40 n
inductive Cap where
 |k (c:Nat)
 |r (l o0:Nat)
inductive V where
 |int (k:aj) (n:Int)
 |bool (b:Bool)
 |str (l:List Nat)
 |ptr (a:Option (Nat×Nat))
 |sl (a:Option (Nat×Nat)) (n:Nat) (c:Cap)
 |map (r:Option Nat)
 |agg (l:List V)
 |iZ (l:List V)
 |fn (f:Nat) (first cap:List V)
 |TF
inductive fj where
 |cells (xs:List V) (t:af) (Dl:Option Nat)
 |map (es:List (V×V×Nat)) (clock:Nat)
 |iter (s:List Nat) (pos:Nat)
structure St where
 h:Tr fj
 nx:Nat
def St.get (s:St) (b:Nat):Option fj:=Tr.get (Ry b) s.h
def St.set (s:St) (b:Nat) (o:fj):St:=⟨Tr.set (az o) (Ry b) s.h,s.nx⟩
def St.del (s:St) (b:Nat):St:=⟨Tr.set ba (Ry b) s.h,s.nx⟩
def St.new (s:St) (o:fj):St:=⟨Tr.set (az o) (Ry s.nx) s.h,s.nx+1⟩
@[reducible] def ID:=Nat->Nat×Nat
def cvs (φ:ID) (b o n:Nat):Cap->ao
 | .k _=>⟨(φ b).1,o,ba⟩
 | .r l o0=>⟨(φ b).1,bif cx n 0 && cx (φ b).2 l then o0 else o,ba⟩
def cvc (φ:ID) (b:Nat):Cap->Nat
 | .k c=>c
 | .r l _=>(φ b).2-l
mutual
def cv (φ:ID):V->ac
 | .int k n=> .int k n
 | .bool b=> .bool b
 | .str l=> .string (bs l)
 | .ptr ba=> .pointer ba
 | .ptr (az (b,o))=> .pointer (az ⟨(φ b).1,o,ba⟩)
 | .sl ba n c=> .slice ba n (match c with| .k c=>c| .r _ _=>0)
 | .sl (az (b,o)) n c=> .slice (az (cvs φ b o n c)) n (cvc φ b c)
 | .map ba=> .map ba
 | .map (az b)=> .map (az (φ b).1)
 | .agg l=> .agg (HM φ l).toArray
 | .iZ l=> .tuple (HM φ l).toArray
 | .fn f a b=> .func (.func f) (HM φ a).toArray (HM φ b).toArray
 | .TF=> .nilFunc
def HM (φ:ID):List V->List ac
 |[]=>[]
 |v::l=>cv φ v::HM φ l
end
def P6 {α:Type}:List (Option α)->Option (List α)
 |[]=>az []
 |some a::l=>match P6 l with
  |some r=>az (a::r)
  |none=>ba
 |none::_=>ba
def Ju (ρ:Tr V):Option Nat->V->Tr V
 |none,_=>ρ
 |some d,v=>Tr.set (az v) (Ry d) ρ
def xa:aj->aj->Bool
 | .i8,.i8=>bu| .i16,.i16=>bu| .i32,.i32=>bu| .i64,.i64=>bu
 | .u8,.u8=>bu| .u16,.u16=>bu| .u32,.u32=>bu| .u64,.u64=>bu
 |_,_=>bv
def ieq:Int->Int->Bool
 | .ofNat a,.ofNat b=>cx a b
 | .negSucc a,.negSucc b=>cx a b
 |_,_=>bv
def aeq:Option (Nat×Nat)->Option (Nat×Nat)->Bool
 |none,ba=>bu
 |some (a,b),az (c,d)=>cx a c && cx b d
 |_,_=>bv
def Xy:aj->Nat
 | .i8=>128| .i16=>32768| .i32=>2147483648| .i64=>9223372036854775808
 | .u8=>256| .u16=>65536| .u32=>4294967296| .u64=>18446744073709551616
def wr (k:aj):Int->Int
 | .ofNat n=>bif cy n (Xy k)then .ofNat n else k.wrap (.ofNat n)
 |x=>k.wrap x
def P3:aj->Nat
 | .i8=>256| .i16=>65536| .i32=>4294967296| .i64=>18446744073709551616
 | .u8=>256| .u16=>65536| .u32=>4294967296| .u64=>18446744073709551616
def xIs (k:aj):Int->Int->Int
 | .ofNat a,.ofNat b=>wr k (.ofNat (Nat.land (a % P3 k) (b % P3 k)))
 |a,b=>Cs k a b
def fOr (k:aj):Int->Int->Int
 | .ofNat a,.ofNat b=>wr k (.ofNat (Nat.lor (a % P3 k) (b % P3 k)))
 |a,b=>HC k a b
def y4j (k:aj):Int->Int->Int
 | .ofNat a,.ofNat b=>wr k (.ofNat (a*2 ^ (Nat.min b k.bits)))
 |a,b=>Jy k a b
def Uv (P:ab) (t:af):Bool:=
 match P.underlying t with
 |some (.pointer _)=>bu
 |_=>bv
def HX (P:ab) (t:af):Bool:=
 match P.underlying t with
 |some (.slice _)=>bu
 |_=>bv
def z8p (P:ab) (t:af):Bool:=
 match P.underlying t with
 |some (.map _ _)=>bu
 |_=>bv
def K8 (P:ab) (t:af):Bool:=
 match P.underlying t with
 |some .string=>bu
 |_=>bv
def xIt (P:ab) (t:af):Option aj:=
 match P.underlying t with
 |some (.int k)=>az k
 |_=>ba
def ZE (P:ab) (s:af) (f:Nat):Option Nat:=
 match P.underlying s with
 |some (.struct fs)=>match fs[f]? with
  |some fd=>match P.info? fd.type with
   |some i=>bif cx i.size 0 then ba else az fd.offset
   |none=>ba
  |none=>ba
 |_=>ba
def ZJ (P:ab) (s:af) (f:Nat):Option (af×Nat):=
 match P.underlying s with
 |some (.struct fs)=>match fs[f]? with
  |some fd=>az (fd.type,fd.offset)
  |none=>ba
 |_=>ba
def UW (P:ab) (t:af):Option (Nat×af×Nat):=
 match P.underlying t with
 |some (.array n e)=>match P.info? e with
  |some i=>az (n,e,i.size)
  |none=>ba
 |_=>ba
def apart (P:ab) (t:af) (cs:List V) (off:Nat):Option V:=
 match EK P t with
 |some sz=>az (.agg ((cs.drop off).take sz))
 |none=>bif Cw P t then cs[off]? else ba
def K3 (i:Int) (n:Nat):Option Nat:=
 match i with
 | .ofNat j=>bif cy j n then az j else ba
 |_=>ba
def yMw (P:ab) (t:af):Option (List (Option (Nat×Nat))):=
 match P.underlying t with
 |some (.struct fs)=>az (fs.toList.map λfd=>match P.info? fd.type with
   |some i=>az (fd.offset,i.size)
   |none=>ba)
 |_=>ba
def z1i (l:List (Option (Nat×Nat))) (i:Nat):Option (Nat×Nat):=
 match l[i]? with
 |some r=>r
 |none=>ba
def Hi (P:ab) (t:af):Option (af×af):=
 match P.underlying t with
 |some (.map k e)=>az (k,e)
 |_=>ba
def PZ (P:ab) (t:af):Bool:=
 match P.underlying t with
 |some (.slice e)=>match P.underlying e with
  |some (.int .u8)=>bu
  |_=>bv
 |_=>bv
def pY (P:ab) (t:af):Option Nat:=
 match P.info? t with
 |some i=>az i.size
 |none=>ba
end Cv
namespace Cv
open Go Go.RowKit
def cme (φ:ID) (e:V×V×Nat):ar:={key:=cv φ e.1,val:=cv φ e.2.1,born:=e.2.2}
def coT (φ:ID) (b:Nat):fj->Obj->Prop
 | .cells xs t ba,O=>O= .cells (HM φ xs).toArray t
 | .cells xs t (az sz),O=>∃r,O= .cells (HM φ xs++r).toArray t/\xs.length+r.length=(φ b).2*sz
 | .map es ck,O=>O= .map (es.map (cme φ)).toArray ck
 | .iter l pos,O=>O= .stringIter (bs l) pos
structure Rel (φ:ID) (s:St) (w:ae):Prop where
 obj:∀b o,s.get b=az o->∃O,w.heap[(φ b).1]? =az O/\coT φ b o O
 inj:∀b c,s.get b≠ba->s.get c≠ba->(φ b).1=(φ c).1->b=c
 lt:∀b,s.get b≠ba->b<s.nx
def Hc (s:ByteArray):bs (s.data.toList.map UInt8.toNat)=s:=by
 unfold bs;rw[vy];have:(Nat.toUInt8∘UInt8.toNat)=id:=by
  funext x;simp[Nat.toUInt8]
 rw[this];simp
def ZD {off:Nat}:∀(vs:List ac) (k:Nat) (l:List ac),off+k+vs.length<=l.length->
 List.foldl (λ(cs:Array ac) (p:ac×Nat)=>cs.setIfInBounds (off+p.2) p.1) l.toArray (vs.zipIdx k)=(kj l (off+k) vs).toArray
 |[],k,l,_=>by simp[kj]
 |v::vs,k,l,h=>by
  simp only[iC]at h;simp only[List.zipIdx_cons,A7,List.setIfInBounds_toArray];rw[ZD vs (k+1) (l.set (off+k) v) (by rw[qm];omega),show off+(k+1)=off+k+1 by omega,UZ (by omega)]
end Cv
namespace Cv
open Go Go.RowKit
def zYh {k k':aj} (h:xa k k'=bu):k=k':=by cases k<;>cases k'<;>first|rfl|cases h
def z7z {k:aj} {n:Nat} (h:n<Xy k):k.wrap (.ofNat n)= .ofNat n:=by
 cases k<;>simp only[Xy]at h<;>simp[di,IntKind.bits,dj]<;>omega
def W4 (k:aj) (x:Int):wr k x=k.wrap x:=by
 cases x with
 |ofNat n=>
  simp only[wr];cases h:cy n (Xy k)
  ·rfl
  ·exact(z7z (by simpa[yj]using h)).symm
 |negSucc n=>rfl
def yYw (k:aj):P3 k=2 ^ k.bits:=by cases k<;>rfl
def zOq (w a:Nat):db w (Int.ofNat a)=BitVec.ofNat w a:=by
 apply BitVec.eq_of_toNat_eq;simp
def y9f (k:aj) (a b:Int):fOr k a b=HC k a b:=by
 unfold fOr;split
 ·rename_i a b;rw[W4,yYw];unfold HC;rw[zOq,zOq];simp only[BitVec.toNat_or,BitVec.toNat_ofNat];rfl
 ·rfl
def yYg (k:aj) (a b:Int):y4j k a b=Jy k a b:=by
 unfold y4j;split
 ·rename_i a b;rw[W4];unfold Jy;congr 1
 ·rfl
end Cv
namespace Cv
open Go Go.RowKit
def z4y {P:ab} {t:af} (h:Uv P t=bu):∃e,P.underlying t=az (.pointer e):=by
 unfold Uv at h;split at h
 ·exact⟨_,by assumption⟩
 ·cases h
def tH {P:ab} {t:af} (h:HX P t=bu):∃e,P.underlying t=az (.slice e):=by
 unfold HX at h;split at h
 ·exact⟨_,by assumption⟩
 ·cases h
def z4e {P:ab} {t:af} (h:z8p P t=bu):∃k e,P.underlying t=az (.map k e):=by
 unfold z8p at h;split at h
 ·exact⟨_,_,by assumption⟩
 ·cases h
def pK {P:ab} {t:af} (h:K8 P t=bu):P.underlying t=az .string:=by
 unfold K8 at h;split at h
 ·assumption
 ·cases h
end Cv
namespace Cv
open Go Go.RowKit
def y4 {α:Type} {b:Bool} {x:Option α} {v:α} (h:(bif b then x else ba)=az v):b=bu/\x=az v:=by
 cases b
 ·cases h
 ·exact⟨rfl,h⟩
def zSq {i:Int} {n j:Nat} (h:K3 i n=az j):i=(j:Int)/\j<n:=by
 unfold K3 at h;split at h
 ·rename_i m;obtain⟨hb,h⟩:=y4 h;simp only[cu]at h;subst h;exact⟨rfl,by simpa[yj]using hb⟩
 ·cases h
def zVn {P:ab} {s f off:Nat} (h:ZE P s f=az off):∃fs fd i,P.underlying s=az (.struct fs)/\fs[f]? =az fd/\P.info? fd.type=az i/\i.size≠0/\fd.offset=off:=by
 unfold ZE at h;split at h<;>first|(cases h;done)|skip
 rename_i fs xw;split at h<;>first|(cases h;done)|skip
 rename_i fd Se;split at h<;>first|(cases h;done)|skip
 rename_i i hi;cases hb:cx i.size 0
 ·rw[hb]at h;simp only[cond_false,cu]at h;exact⟨fs,fd,i,xw,Se,hi,(λe=>by rw[e]at hb;cases hb),h⟩
 ·rw[hb]at h;cases h
def zUx {P:ab} {s f ft off:Nat} (h:ZJ P s f=az (ft,off)):∃fs fd,P.underlying s=az (.struct fs)/\fs[f]? =az fd/\fd.type=ft/\fd.offset=off:=by
 unfold ZJ at h;split at h<;>first|(cases h;done)|skip
 rename_i fs xw;split at h<;>first|(cases h;done)|skip
 rename_i fd Se;simp only[cu,dk]at h;exact⟨fs,fd,xw,Se,h.1,h.2⟩
def zIw {P:ab} {t n e sz:Nat} (h:UW P t=az (n,e,sz)):∃i,P.underlying t=az (.array n e)/\P.info? e=az i/\i.size=sz:=by
 unfold UW at h;split at h<;>first|(cases h;done)|skip
 rename_i n' e' ht;split at h<;>first|(cases h;done)|skip
 rename_i i hi;simp only[cu,dk]at h;obtain⟨rfl,rfl,rfl⟩:=h;exact⟨i,ht,hi,rfl⟩
def zWe {α:Type}:∀{l:List (Option α)} {L:List α},P6 l=az L->l=L.map az
 |[],L,h=>by simp only[P6,cu]at h;subst h;rfl
 |none::l,L,h=>by cases h
 |some a::l,L,h=>by
  simp only[P6]at h;split at h<;>first|(cases h;done)|skip
  rename_i r hr;simp only[cu]at h;subst h;rw[jj,<- zWe hr]
def zRd {P:ab} (w:ae):∀{fs:List Field} {L:List (Nat×Nat)},
 (fs.map λfd=>match P.info? fd.type with|some i=>az (fd.offset,i.size)|none=>ba)=L.map az->
 ((fs.mapM λf=>(do pure (f.offset,<- Go.sizeOf f.type):Sem (Nat×Nat))):Sem (List (Nat×Nat))).run P w= .ok L w
 |[],L,h=>by
  cases L with
  |nil=>rfl
  |cons a l=>cases h
 |fd::fs,L,h=>by
  cases L with
  |nil=>cases h
  |cons a l=>
   simp only[jj,List.cons.injEq]at h;obtain⟨h1,h2⟩:=h;split at h1<;>first|(cases h1;done)|skip
   rename_i i hi;simp only[cu]at h1;subst h1;have ih:=zRd w h2;simp only[dd,bind,pure,run_bind,bg,be,run_sizeOf hi]at ih ⊢;rw[ih]
def wO {ρ:Env} {o:ak} {c:Call} {b:Builtin} (ho:o.op= .call c) (hc:c.callee= .builtin b):
 ag (ev ρ) o=builtin b c.argTypes o.type (c.args.map λ| .const _=>bu|_=>bv) (c.args.map (ev ρ)):=by
 have tp:ag (ev ρ) o=(au (ev ρ) c o.type).bind λd=>invoke d.target d.args:=by
  simp only[ag,ho];rfl
 rw[tp];unfold au;rw[hc];rfl
end Cv
