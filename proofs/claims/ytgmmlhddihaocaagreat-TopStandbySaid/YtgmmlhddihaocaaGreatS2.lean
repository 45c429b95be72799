/- Texts of ours. No condition. -/
import Derived.Laws.Cover1
import Derived.Laws.StructEq
import Derived.MapKept
import Derived.Test.YtgmmlhddihaocaaGreatS1
set_option linter.all false
open Go renaming Value->aa,Program->ab,TypeId->ac,execOp->ae,World->af,Operand->ag,MapEntry->aj,Oper->ak,Addr->am,IntKind->ao
open Option renaming some->ap,none->aq
open Bool renaming true->ar,false->au
open List renaming range->av,replicate->aw,take_take->ax,drop_take->ay,drop_left->az
open Option.some renaming injEq->ba,inj->bc
open Nat renaming beq->be,ble->bg,zero_mul->bo,blt->bu
open Go.Instr renaming findNow->bv,typeAssert->bz,lookup->cd
open Go.Sem renaming run->ce,bind->cf,pure->cg
open Go.Op renaming operands->cm,equalIn->cn
open List.Perm renaming cons->co,append_left->cp,append_right->cq,swap->cr
open Prod.mk renaming injEq->ct
open Go.Builtin renaming len_->cu,firstCells->cw
open Array renaming ext'->cx
namespace Sx
open Go Go.RowKit Cv
def gw.length {E:Ev}:∀{vs:List V} {l:List aa},gw E vs l->l.length=vs.length
 |[],l,h=>by simp only[gw]at h;subst h;rfl
 |v::vs,l,h=>by simp only[gw]at h;obtain⟨x,xs,rfl,h1,h2⟩:=h;simp[h2.length]
def gw.get {E:Ev}:∀{vs:List V} {l:List aa},gw E vs l->∀{i:Nat} {v:V},vs[i]? =ap v->∃y,l[i]? =ap y/\VR E v y
 |[],l,h,i,v,e=>by simp at e
 |v::vs,l,h,i,u,e=>by
  simp only[gw]at h;obtain⟨x,xs,rfl,h1,h2⟩:=h;cases i with
  |zero=>simp at e;subst e;exact⟨x,rfl,h1⟩
  |succ i=>simp at e ⊢;exact h2.get e
def gw.take {E:Ev}:∀{vs:List V} {l:List aa},gw E vs l->∀(n:Nat),gw E (vs.take n) (l.take n)
 |[],l,h,n=>by simp only[gw]at h;subst h;simp[gw]
 |v::vs,l,h,n=>by
  simp only[gw]at h;obtain⟨x,xs,rfl,h1,h2⟩:=h;cases n with
  |zero=>simp[gw]
  |succ n=>simp only[vo,gw];exact⟨_,_,rfl,h1,h2.take n⟩
def gw.drop {E:Ev}:∀{vs:List V} {l:List aa},gw E vs l->∀(n:Nat),gw E (vs.drop n) (l.drop n)
 |[],l,h,n=>by simp only[gw]at h;subst h;simp[gw]
 |v::vs,l,h,n=>by
  have h0:=h;simp only[gw]at h;obtain⟨x,xs,rfl,h1,h2⟩:=h;cases n with
  |zero=>exact h0
  |succ n=>simp only[List.drop_succ_cons];exact h2.drop n
def gw.append {E:Ev}:∀{vs:List V} {l:List aa},gw E vs l->∀{us:List V} {m:List aa},gw E us m->gw E (vs++us) (l++m)
 |[],l,h,us,m,h'=>by simp only[gw]at h;subst h;exact h'
 |v::vs,l,h,us,m,h'=>by
  simp only[gw]at h;obtain⟨x,xs,rfl,h1,h2⟩:=h;simp only[uc,gw];exact⟨_,_,rfl,h1,h2.append h'⟩
def gw.one {E:Ev} {v:V} {y:aa} (h:VR E v y):gw E [v] [y]:=by simp only[gw];exact⟨_,_,rfl,h,rfl⟩
def gw.nil {E:Ev}:gw E [] []:=by simp only[gw]
def iF.length {F:PH}:∀{vs:List D} {l:List aa},iF F vs l->l.length=vs.length
 |[],l,h=>by simp only[iF]at h;subst h;rfl
 |v::vs,l,h=>by simp only[iF]at h;obtain⟨x,xs,rfl,h1,h2⟩:=h;simp[h2.length]
def iF.append {F:PH}:∀{vs:List D} {l:List aa},iF F vs l->∀{us:List D} {m:List aa},iF F us m->iF F (vs++us) (l++m)
 |[],l,h,us,m,h'=>by simp only[iF]at h;subst h;exact h'
 |v::vs,l,h,us,m,h'=>by
  simp only[iF]at h;obtain⟨x,xs,rfl,h1,h2⟩:=h;simp only[uc,iF];exact⟨_,_,rfl,h1,h2.append h'⟩
def iF.split {F:PH}:∀{vs us:List D} {l:List aa},iF F (vs++us) l->∃l1 l2,l=l1++l2/\iF F vs l1/\iF F us l2
 |[],us,l,h=>⟨[],l,rfl,by simp only[iF],h⟩
 |v::vs,us,l,h=>by
  simp only[uc,iF]at h;obtain⟨x,xs,rfl,h1,h2⟩:=h;obtain⟨l1,l2,rfl,h3,h4⟩:=h2.split;exact⟨x::l1,l2,rfl,by simp only[iF];exact⟨_,_,rfl,h1,h3⟩,h4⟩
def iF.take {F:PH}:∀{vs:List D} {l:List aa},iF F vs l->∀(n:Nat),iF F (vs.take n) (l.take n)
 |[],l,h,n=>by simp only[iF]at h;subst h;simp[iF]
 |v::vs,l,h,n=>by
  simp only[iF]at h;obtain⟨x,xs,rfl,h1,h2⟩:=h;cases n with
  |zero=>simp[iF]
  |succ n=>simp only[vo,iF];exact⟨_,_,rfl,h1,h2.take n⟩
def iF.drop {F:PH}:∀{vs:List D} {l:List aa},iF F vs l->∀(n:Nat),iF F (vs.drop n) (l.drop n)
 |[],l,h,n=>by simp only[iF]at h;subst h;simp[iF]
 |v::vs,l,h,n=>by
  have h0:=h;simp only[iF]at h;obtain⟨x,xs,rfl,h1,h2⟩:=h;cases n with
  |zero=>exact h0
  |succ n=>simp only[List.drop_succ_cons];exact h2.drop n
def iF.one {F:PH}:∀{vs:List D} {l:List aa},iF F vs l->∀v∈l,v.og=ar
 |[],l,h=>by simp only[iF]at h;subst h;simp
 |v::vs,l,h=>by
  simp only[iF]at h;obtain⟨x,xs,rfl,h1,h2⟩:=h;intro u hu;rcases mn.1 hu with rfl|hu
  ·cases v with
   |v y=>simp only[DR]at h1;rw[h1.1];exact h1.2
   |ro sz ez=>simp only[DR]at h1;obtain⟨a,c,rfl,_⟩:=h1;rfl
  ·exact h2.one u hu
def iF.get {F:PH}:∀{vs:List D} {l:List aa},iF F vs l->∀{i:Nat} {v:D},vs[i]? =ap v->∃y,l[i]? =ap y/\DR F v y
 |[],l,h,i,v,e=>by simp at e
 |v::vs,l,h,i,u,e=>by
  simp only[iF]at h;obtain⟨x,xs,rfl,h1,h2⟩:=h;cases i with
  |zero=>simp at e;subst e;exact⟨x,rfl,h1⟩
  |succ i=>simp at e ⊢;exact h2.get e
def iF.M9 {E:Ev}:∀{vs:List D} {l:List aa},iF E.F vs l->gw E (vs.map .d) l
 |[],l,h=>by simp only[iF]at h;subst h;simp[gw]
 |v::vs,l,h=>by
  simp only[iF]at h;obtain⟨x,xs,rfl,h1,h2⟩:=h;simp only[jx,gw,VR];exact⟨_,_,rfl,h1,h2.M9⟩
def oR {F:PH}:∀{ez:List (List D)} {l:List aa},A' F ez l↔∃xs r,l=xs++r/\iF F ez.flatten xs
 |[],l=>by simp only[A',List.flatten_nil,true_iff,iF];exact⟨[],l,rfl,rfl⟩
 |el::ez,l=>by
  simp only[A',AM];constructor
  ·rintro⟨l1,l2,rfl,h1,h2⟩;obtain⟨xs,r,rfl,h3⟩:=oR.1 h2;exact⟨l1++xs,r,by simp,h1.append h3⟩
  ·rintro⟨xs,r,rfl,h⟩;obtain⟨l1,l2,rfl,h1,h2⟩:=h.split;exact⟨l1,l2++r,by simp,h1,oR.2 ⟨l2,r,rfl,h2⟩⟩
def jS {α:Type} {sz:Nat}:∀{ez:List (List α)},(∀el∈ez,el.length=sz)->ez.flatten.length=ez.length*sz
 |[],_=>by simp
 |el::ez,h=>by
  rw[AM,iv,h el jm,jS (λe he=>h e (kg _ he)),iJ,zj];omega
def r9 {α:Type} {sz:Nat}:∀{ez:List (List α)} (i:Nat),(∀el∈ez,el.length=sz)->ez.flatten.drop (i*sz)=(ez.drop i).flatten
 |[],i,_=>by simp
 |el::ez,0,h=>by simp
 |el::ez,i+1,h=>by
  rw[AM,List.drop_succ_cons,<- r9 i (λe he=>h e (kg _ he)),zj,EI,<- CJ];rw[show(el++ez.flatten).drop sz=ez.flatten by rw[<- h el jm,az]]
def sC {α:Type} {sz:Nat}:∀{ez:List (List α)} (i:Nat),(∀el∈ez,el.length=sz)->ez.flatten.take (i*sz)=(ez.take i).flatten
 |[],i,_=>by simp
 |el::ez,0,h=>by simp
 |el::ez,i+1,h=>by
  rw[AM,vo,AM,<- sC i (λe he=>h e (kg _ he)),zj,EI,List.take_append,h el jm];simp[h el jm];rw[oh (by rw[h el jm];omega)]
def Yh {α:Type} {sz:Nat} {ez:List (List α)} {i f n:Nat} {el:List α} (h:∀el∈ez,el.length=sz) (hi:ez[i]? =ap el) (hf:f+n<=sz):(ez.flatten.drop (i*sz+f)).take n=(el.drop f).take n:=by
 have hm:=lq hi;have gv:i<ez.length:=(jv.1 hi).1;rw[<- CJ,r9 i h];have:ez.drop i=el::ez.drop (i+1):=by
  rw[DC gv];congr 1;exact(jv.1 hi).2
 rw[this,AM,EN (by rw[h el hm];omega),xk (by rw[pd,h el hm];omega)]
def okc:aa->Bool
 | .agg cs=>cs.toList.all (·.og)
 | .tuple cs=>cs.toList.all (·.og)
 |_=>ar
def CL (x:aa):V:=
 bif okc x then(match x with
 | .agg cs=> .agg (cs.toList.map λy=> .d (.v y))
 | .tuple cs=> .ja (cs.toList.map λy=> .d (.v y))
 |x=> .d (.v x))else .top
def yKm {E:Ev}:∀{l:List aa},(l.all (·.og))=ar->gw E (l.map λy=> .d (.v y)) l
 |[],_=>by simp[gw]
 |y::l,h=>by
  simp only[List.all_cons,lr]at h;simp only[jx,gw,VR,DR];exact⟨y,l,rfl,⟨rfl,h.1⟩,yKm h.2⟩
def NR (E:Ev) (x:aa):VR E (CL x) x:=by
 unfold CL;cases h:okc x
 ·simp[VR]
 ·cases x<;>simp only[cond_true,VR,DR]<;>first|exact⟨rfl,rfl⟩|exact⟨trivial,rfl⟩|(rename_i cs;exact⟨cs.toList,by simp,yKm h⟩)
@[reducible] def xA:=Nat->V
def lz (ρ:xA):ag->V
 | .tmp t=>ρ t
 | .const x=>CL x
 | .func f=> .fn f [] []
 | .global _=> .top
def lE (ρ:xA):Option Nat->V->xA
 |none,_=>ρ
 |some d,v=>λi=>bif be i d then v else ρ i
def ld (E:Ev) (ρS:xA) (ρ:Env):Prop:=∀t,VR E (ρS t) (ρ t)
def ld.ev {E:Ev} {ρS:xA} {ρ:Env} (h:ld E ρS ρ) (x:ag):VR E (lz ρS x) (ev ρ x):=by
 cases x with
 |tmp t=>exact h t
 |const v=>exact NR E v
 |func f=>simp only[lz,Cv.ev,VR];exact⟨[],[],rfl,gw.nil,gw.nil⟩
 |global g=>simp only[lz,VR]
def ld.put {E:Ev} {ρS:xA} {ρ:Env} (h:ld E ρS ρ) (d:Option Nat) {v:V} {y:aa} (hv:VR E v y):ld E (lE ρS d v) (Cv.put ρ d y):=by
 cases d with
 |none=>exact h
 |some d=>
  intro t;simp only[lE,Cv.put];cases be t d
  ·exact h t
  ·exact hv
def ld.mono {E E':Ev} (h:E.le E') {ρS:xA} {ρ:Env} (e:ld E ρS ρ):ld E' ρS ρ:=λt=>(e t).mono h
def CU (ρ:xA):List ag->List V
 |[]=>[]
 |x::l=>lz ρ x::CU ρ l
def yKc {E:Ev} {ρS:xA} {ρ:Env} (h:ld E ρS ρ):∀(l:List ag),gw E (CU ρS l) (l.map (ev ρ))
 |[]=>by simp[CU,gw]
 |x::l=>by simp only[CU,jx,gw];exact⟨_,_,rfl,h.ev x,yKc h l⟩
def aE {E:Ev} {ρS:xA} {ρ:Env} (h:ld E ρS ρ) (l:Array ag):∃ys:List aa,l.map (ev ρ)=ys.toArray/\gw E (CU ρS l.toList) ys:=
 ⟨l.toList.map (ev ρ),by apply cx;simp,yKc h _⟩
def Ox:List V->Option (List aa)
 |[]=>ap []
 | .d (.v x)::l=>match Ox l with
   |some r=>ap (x::r)
   |none=>aq
 |_::_=>aq
def Gr:V->Option aa
 | .d (.v x)=>ap x
 | .agg l=>match Ox l with
   |some r=>ap (.agg r.toArray)
   |none=>aq
 | .fn f [] []=>ap (.func (.func f) #[] #[])
 |_=>aq
def zZx {E:Ev}:∀{l:List V} {r ys:List aa},Ox l=ap r->gw E l ys->ys=r
 |[],r,ys,h,e=>by simp only[Ox,ba]at h;subst h;simpa only[gw]using e
 |v::l,r,ys,h,e=>by
  simp only[gw]at e;obtain⟨x,xs,rfl,h1,h2⟩:=e;unfold Ox at h;split at h
  ·rename_i heq;cases heq
  ·rename_i x' l' heq;cases heq;simp only[VR,DR]at h1;split at h<;>first|(cases h;done)|skip
   rename_i r' hr;cases h;rw[h1.1,zZx hr h2]
  ·cases h
def eM {E:Ev} {v:V} {x y:aa} (h:Gr v=ap x) (e:VR E v y):y=x:=by
 unfold Gr at h;split at h
 ·cases h;simp only[VR,DR]at e;exact e.1
 ·rename_i l;split at h<;>first|(cases h;done)|skip
  rename_i r hr;cases h;simp only[VR]at e;obtain⟨ys,rfl,h2⟩:=e;rw[zZx hr h2]
 ·cases h;simp only[VR]at e;obtain⟨as,bs,rfl,h2,h3⟩:=e;simp only[gw]at h2 h3;subst h2 h3;rfl
 ·cases h
def U0 (ρ:xA):ag->Bool
 | .tmp t=>match Gr (ρ t)with
   |some _=>ar
   |none=>au
 |_=>ar
def Uk (ρ:xA):List ag->Bool
 |[]=>ar
 |x::l=>bif U0 ρ x then Uk ρ l else au
def Uq (ρ:xA):Env:=λt=>match Gr (ρ t)with
 |some x=>x
 |none=>undef
def yXj {E:Ev} {ρS:xA} {ρ:Env} (h:ld E ρS ρ) {x:ag} (hl:U0 ρS x=ar):ev (Uq ρS) x=ev ρ x:=by
 cases x with
 |tmp t=>
  simp only[U0]at hl;split at hl<;>first|(cases hl;done)|skip
  rename_i y hy;simp only[Cv.ev,Uq,hy];exact(eM hy (h t)).symm
 |_=>rfl
def yBd {E:Ev} {ρS:xA} {ρ:Env} (h:ld E ρS ρ):∀{l:List ag},Uk ρS l=ar->∀x∈l,ev (Uq ρS) x=ev ρ x
 |[],_,x,hx=>by cases hx
 |y::l,hl,x,hx=>by
  simp only[Uk]at hl;cases hy:U0 ρS y with
  |false=>rw[hy]at hl;cases hl
  |true=>
   rw[hy]at hl;rcases mn.1 hx with rfl|hx
   ·exact yXj h hy
   ·exact yBd h hl x hx
def Oj:Op->Bool
 | .binOp _ _ _ _ _=>ar
 | .unOp _ _ _=>ar
 | .convert _ _ _=>ar
 | .index _ _ _=>ar
 | .nilCheck _=>ar
 | .slice _ _ _ _ aq=>ar
 | .call {callee:= .builtin _,..}=>ar
 |_=>au
def yEz {ρ ρ':Env} {o:ak} (hp:Oj o.op=ar) (h:∀x∈o.op.operands.toList,ev ρ x=ev ρ' x):ae (ev ρ) o=ae (ev ρ') o:=by
 obtain⟨dst,op,ty,pos,after,gd⟩:=o;cases op<;>simp only[Oj,oK]at hp
 case binOp a b x y c=>simp only[cm,mn,M0,or_false,forall_eq_or_imp,forall_eq]at h;simp only[ae,h]
 case unOp a b x=>simp only[cm,mn,M0,or_false,forall_eq]at h;simp only[ae,h]
 case convert a b x=>simp only[cm,mn,M0,or_false,forall_eq]at h;simp only[ae,h]
 case index a x y=>simp only[cm,mn,M0,or_false,forall_eq_or_imp,forall_eq]at h;simp only[ae,h]
 case nilCheck x=>simp only[cm,mn,M0,or_false,forall_eq]at h;simp only[ae,h]
 case slice a x lo hi mx=>
  cases mx with
  |some m=>simp[Oj]at hp
  |none=>
   have hl:lo.map (ev ρ)=lo.map (ev ρ'):=by
    cases lo with
    |none=>rfl
    |some z=>simp only[we];rw[h z (by simp[cm])]
   have hh:hi.map (ev ρ)=hi.map (ev ρ'):=by
    cases hi with
    |none=>rfl
    |some z=>simp only[we];rw[h z (by simp[cm])]
   simp only[ae,hl,hh,h x (by simp[cm])];rfl
 case call c=>
  obtain⟨callee,args,ats⟩:=c;cases callee<;>simp only[Oj,oK]at hp
  have ha:args.map (ev ρ)=args.map (ev ρ'):=by
   apply Array.map_congr_left;intro x hx;exact h x (by simp[cm,Call.operands,hx])
  simp only[ae,resolve,ha]
def Kz (P:ab) (t:ac) (x y:aa):Option Bool:=
 match P.underlying t with
 |some (.int _)=>match x with
  | .int k a=>match y with
    | .int k' b=>bif wj k k' then ap (a==b)else aq
    |_=>aq
  |_=>aq
 |some .string=>match x with
  | .string a=>match y with
    | .string b=>ap (a==b)
    |_=>aq
  |_=>aq
 |some .bool=>match x with
  | .bool a=>match y with
    | .bool b=>ap (a==b)
    |_=>aq
  |_=>aq
 |_=>aq
def KD (P:ab) (xs ys:List aa):List Field->Option Bool
 |[]=>ap ar
 | f :: fs => bif f.name == "_" then none else match xs[f.offset]?, ys[f.offset]? with
   |some x,ap y=>match Kz P f.type x y with
    |some a=>match KD P xs ys fs with
     |some b=>ap (a && b)
     |none=>aq
    |none=>aq
   |_,_=>aq
def Uv (P:ab) (f:Field) (xs ys:List aa):Option Bool:=
 match P.underlying f.type with
 |some (.struct gs)=>match D' P f.type with
  |some n=>bif P.stoodInHeld f.type then aq else KD P ((xs.drop f.offset).take n) ((ys.drop f.offset).take n) gs.toList
  |none=>aq
 |_=>match xs[f.offset]?,ys[f.offset]? with
  |some x,ap y=>Kz P f.type x y
  |_,_=>aq
def Mm (P:ab) (xs ys:List aa):List Field->Option Bool
 |[]=>ap ar
 | f :: fs => bif f.name == "_" then none else match Uv P f xs ys with
   |some a=>match Mm P xs ys fs with
    |some b=>ap (a && b)
    |none=>aq
   |none=>aq
def yJo (P:ab) (t:ac) (xs ys:List aa):Option Bool:=
 match P.underlying t with
 |some (.struct fs)=>bif P.stoodInHeld t then aq else Mm P xs ys fs.toList
 |_=>aq
def T0 {P:ab} {t:ac} {x y:aa} {b:Bool} (h:Kz P t x y=ap b):B1 P t=ar:=by
 unfold Kz at h;unfold B1;split at h<;>first|(cases h;done)|skip
 all_goals(rename_i he;rw[he])
def z0s {P:ab} {t:ac} {x y:aa} {b:Bool} {d:Nat} (h:Kz P t x y=ap b) (w:af):(cn (d+1) t x y).run P w= .ok b w:=by
 unfold Kz at h;split at h<;>first|(cases h;done)|skip
 all_goals
  rename_i he;split at h<;>first|(cases h;done)|skip
  split at h<;>first|(cases h;done)|skip
  unfold cn;simp only[bind,pure,run_bind,Cv.run_underlying he]
 ·obtain⟨hk,hb⟩:=yU h;clear h;have:=zVv hk;subst this;cases hb;simp only[if_true,ce]
 ·cases h;rfl
 ·cases h;rfl
def Td {P:ab} {t off:Nat} {cs:List aa} {v:aa} (hs:B1 P t=ar) (h:cs[off]? =ap v) (w:af):(part t cs.toArray off).run P w= .ok v w:=by
 unfold part;have:cs.toArray[off]? =ap v:=by simp[h]
 simp only[bind,run_bind,mP hs w,oK,if_false,this];rfl
def zVs {P:ab} (w:af) {xs ys:List aa} {σ:Type} {s0:σ} {fin:σ} {F:Field->σ->Sem (ForInStep σ)}
 (hF : ∀ f x y b, (f.name == "_") = false -> xs[f.offset]? = some x -> ys[f.offset]? = some y -> Kz P f.type x y = some b -> (F f s0).run P w = .ok (if b then .yield s0 else .done fin) w) :
 ∀{fs:List Field} {b:Bool},KD P xs ys fs=ap b->((forIn fs s0 F):Sem σ).run P w= .ok (if b then s0 else fin) w
 |[],b,h=>by
  simp only[KD,ba]at h;subst h;rfl
 |f::fs,b,h=>by
  simp only[KD]at h;have hn : (f.name == "_") = false := by
   cases hb : (f.name == "_")
   ·rfl
   ·rw[hb]at h;cases h
  rw[hn]at h;simp only[cond_false]at h;split at h<;>first|(cases h;done)|skip
  rename_i x y hx hy;split at h<;>first|(cases h;done)|skip
  rename_i a ha;split at h<;>first|(cases h;done)|skip
  rename_i b' hb;cases h;have h1:=hF f x y a hn hx hy ha;have ih:=zVs (P:=P) w hF hb;simp only[List.forIn_cons,bind,run_bind,h1];cases a
  ·rfl
  ·simpa using ih
def zXe {P:ab} {t:ac} {fs:Array Field} {xs ys:List aa} {b:Bool} {d:Nat} (xl:P.underlying t=ap (.struct fs)) (ln:P.stoodInHeld t=au) (h:KD P xs ys fs.toList=ap b) (w:af):
 (cn (d+2) t (.agg xs.toArray) (.agg ys.toArray)).run P w= .ok b w:=by
 unfold cn;simp only[bind,pure,run_bind,Cv.run_underlying xl,program,ce,cf,ln,oK,if_false];rw[<- Array.forIn_toList];have := zVs (P := P) (xs := xs) (ys := ys) w (σ := Option Bool × Unit) (s0 := (none, ())) (fin := (some false, ())) (F := λf __s => if f.name ≠ "_" then
  (part f.type xs.toArray f.offset).bind λx=>(part f.type ys.toArray f.offset).bind λy=>(cn (d+1) f.type x y).bind λc=>
    if(!c)=ar then cg (ForInStep.done (ap au,()))else cg (ForInStep.yield (aq,()))
  else cg (ForInStep.yield (aq,()))) (by
  intro f x y c hn hx hy hc;have ji : f.name ≠ "_" := by simpa using hn
  simp only[ji,ne_eq,not_false_eq_true,if_true,run_bind,Td (T0 hc) hx,Td (T0 hc) hy,z0s (d:=d) hc];cases c<;>rfl) h
 rw[this];cases b<;>rfl
def zHg {P:ab} {t off n:Nat} {cs:List aa} (hs:D' P t=ap n) (w:af):(part t cs.toArray off).run P w= .ok (.agg ((cs.drop off).take n).toArray) w:=by
 obtain⟨h1,h2⟩:=c8 hs w;unfold part;have e:cs.toArray.extract off (off+n)=((cs.drop off).take n).toArray:=by
  rw[List.extract_toArray,List.extract_eq_take_drop];simp
 simp only[bind,pure,run_bind,h1,if_true,h2,ce,e]
def zPp {P:ab} (w:af) {xs ys:List aa} {σ:Type} {s0:σ} {fin:σ} {F:Field->σ->Sem (ForInStep σ)}
 (hF : ∀ f b, (f.name == "_") = false -> Uv P f xs ys = some b -> (F f s0).run P w = .ok (if b then .yield s0 else .done fin) w) :
 ∀{fs:List Field} {b:Bool},Mm P xs ys fs=ap b->((forIn fs s0 F):Sem σ).run P w= .ok (if b then s0 else fin) w
 |[],b,h=>by
  simp only[Mm,ba]at h;subst h;rfl
 |f::fs,b,h=>by
  simp only[Mm]at h;have hn : (f.name == "_") = false := by
   cases hb : (f.name == "_")
   ·rfl
   ·rw[hb]at h;cases h
  rw[hn]at h;simp only[cond_false]at h;split at h<;>first|(cases h;done)|skip
  rename_i a ha;split at h<;>first|(cases h;done)|skip
  rename_i b' hb;cases h;have h1:=hF f a hn ha;have ih:=zPp (P:=P) w hF hb;simp only[List.forIn_cons,bind,run_bind,h1];cases a
  ·rfl
  ·simpa using ih
def yJw {P:ab} {f:Field} {xs ys:List aa} {b:Bool} (h:Uv P f xs ys=ap b) (w:af):
 ∃x y,(part f.type xs.toArray f.offset).run P w= .ok x w/\(part f.type ys.toArray f.offset).run P w= .ok y w/\(cn 9999 f.type x y).run P w= .ok b w:=by
 unfold Uv at h;split at h
 ·rename_i gs hgs;split at h<;>first|(cases h;done)|skip
  rename_i n hn;have ln:P.stoodInHeld f.type=au/\KD P ((xs.drop f.offset).take n) ((ys.drop f.offset).take n) gs.toList=ap b:=by
   revert h;cases P.stoodInHeld f.type<;>intro h
   ·exact⟨rfl,h⟩
   ·cases h
  exact⟨_,_,zHg hn w,zHg hn w,zXe (d:=9997) hgs ln.1 ln.2 w⟩
 ·split at h<;>first|(cases h;done)|skip
  rename_i x y hx hy;exact⟨x,y,Td (T0 h) hx w,Td (T0 h) hy w,z0s (d:=9998) h w⟩
def yFo {P:ab} {t:ac} {xs ys:List aa} {b:Bool} (h:yJo P t xs ys=ap b) (w:af):(Op.equal t (.agg xs.toArray) (.agg ys.toArray)).run P w= .ok b w:=by
 unfold yJo at h;split at h<;>first|(cases h;done)|skip
 rename_i fs xl;have ln:P.stoodInHeld t=au/\Mm P xs ys fs.toList=ap b:=by
  revert h;cases P.stoodInHeld t<;>intro h
  ·exact⟨rfl,h⟩
  ·cases h
 rw[mW];unfold cn;simp only[bind,pure,run_bind,Cv.run_underlying xl,program,ce,cf,ln.1,oK,if_false];rw[<- Array.forIn_toList];have := zPp (P := P) (xs := xs) (ys := ys) w (σ := Option Bool × Unit) (s0 := (none, ())) (fin := (some false, ())) (F := λf __s => if f.name ≠ "_" then
  (part f.type xs.toArray f.offset).bind λx=>(part f.type ys.toArray f.offset).bind λy=>(cn 9999 f.type x y).bind λc=>
    if(!c)=ar then cg (ForInStep.done (ap au,()))else cg (ForInStep.yield (aq,()))
  else cg (ForInStep.yield (aq,()))) (by
  intro f c hn hc;have ji : f.name ≠ "_" := by simpa using hn
  obtain⟨x,y,r1,r2,r3⟩:=yJw hc w;simp only[ji,ne_eq,not_false_eq_true,if_true,run_bind,r1,r2,r3];cases c<;>rfl) ln.2
 rw[this];cases b<;>rfl
def V.cl:V->List V
 | .agg l=>l
 |v=>[v]
def T9 (P:ab) (t:ac) (cs:List V) (off:Nat):Option V:=
 match D' P t with
 |some sz=>ap (.agg ((cs.drop off).take sz))
 |none=>bif B1 P t then cs[off]? else aq
def iI {α:Type} (x:Option α) (K:α->Prop):Prop:=
 match x with
 |some v=>K v
 |none=>False
def zM {α:Type} {x:Option α} {K:α->Prop} (h:iI x K):∃v,x=ap v/\K v:=by
 cases x with
 |none=>exact h.elim
 |some v=>exact⟨v,rfl,h⟩
def zLu {P:ab} {E:Ev} {t:ac} {cs:List V} {ys:List aa} {off:Nat} {v:V} (hr:gw E cs ys) (h:T9 P t cs off=ap v):∃y,VR E v y/\∀w,(part t ys.toArray off).run P w= .ok y w:=by
 unfold T9 at h;split at h
 ·rename_i sz hs;simp only[ba]at h;subst h;refine⟨.agg ((ys.drop off).take sz).toArray,?_,λw=> ?_⟩
  ·simp only[VR];exact⟨_,rfl,(hr.drop off).take sz⟩
  obtain⟨h1,h2⟩:=c8 hs w;unfold part;simp only[bind,run_bind,h1,h2,if_true,pure,ce];congr 3;simp[List.extract_eq_take_drop]
 ·rename_i hs;obtain⟨hb,h⟩:=yU h;obtain⟨y,h1,h2⟩:=hr.get h;refine⟨y,h2,λw=> ?_⟩;unfold part;have:ys.toArray[off]? =ap y:=by simp[h1]
  simp only[bind,run_bind,mP hb w,oK,if_false,this];rfl
def Mn (place:Nat->Option (Nat×Nat)):List (Nat×V)->List V->Option (List V)
 |[],cs=>ap cs
 |(i,v)::rest,cs=>
  match place i with
  |none=>aq
  |some (off,size)=>bif be v.cl.length size && bg (off+size) cs.length then Mn place rest (cs.take off++(v.cl++cs.drop (off+size)))else aq
def BV (E:Ev):List (Nat×V)->List (Nat×aa)->Prop
 |[],l=>l=[]
 |(i,v)::ps,l=>∃y ys,l=(i,y)::ys/\VR E v y/\BV E ps ys
def lY:V->Bool
 | .top=>au
 |_=>ar
def VR.cells {E:Ev} {v:V} {y:aa} (ht:lY v=ar) (h:VR E v y):∃l,y.cells=l.toArray/\gw E v.cl l:=by
 cases v
 case agg l=>simp only[VR]at h;obtain⟨ys,rfl,h⟩:=h;exact⟨ys,rfl,h⟩
 case top=>cases ht
 case d x=>
  have h0:=h;simp only[VR]at h;refine⟨[y],?_,gw.one h0⟩;cases x with
  |v x=>simp only[DR]at h;obtain⟨rfl,h⟩:=h;cases y<;>first|rfl|cases h
  |ro sz ez=>simp only[DR]at h;obtain⟨a,c,rfl,_⟩:=h;rfl
 case nm n o=>have h0:=h;simp only[VR]at h;obtain⟨b,oo,l,h1,rfl⟩:=h;exact⟨[_],rfl,gw.one h0⟩
 case el n sz i f=>have h0:=h;simp only[VR]at h;obtain⟨b,oo,m,c,l,h1,rfl⟩:=h;exact⟨[_],rfl,gw.one h0⟩
 case re sz ez i f=>have h0:=h;simp only[VR]at h;obtain⟨_,_,b,o,l,T,fr,rfl,_⟩:=h;exact⟨[_],rfl,gw.one h0⟩
 case na n o i=>have h0:=h;simp only[VR]at h;obtain⟨b,oo,l,h1,rfl⟩:=h;exact⟨[_],rfl,gw.one h0⟩
 case own n=>have h0:=h;simp only[VR]at h;obtain⟨l,h1,a,m,c,rfl⟩:=h;exact⟨[_],rfl,gw.one h0⟩
 case mp n=>have h0:=h;simp only[VR]at h;obtain⟨b,l,h1,rfl⟩:=h;exact⟨[_],rfl,gw.one h0⟩
 case sub n i=>have h0:=h;simp only[VR]at h;obtain⟨hd,l,b,oo,h1,h2,rfl⟩:=h;exact⟨[_],rfl,gw.one h0⟩
 case ja l=>have h0:=h;simp only[VR]at h;obtain⟨ys,rfl,h⟩:=h;exact⟨[_],rfl,gw.one h0⟩
 case fn f a b=>have h0:=h;simp only[VR]at h;obtain⟨as,bs,rfl,h⟩:=h;exact⟨[_],rfl,gw.one h0⟩
 case zo t x=>have h0:=h;simp only[VR]at h;obtain⟨z,rfl,h⟩:=h;exact⟨[_],rfl,gw.one h0⟩
def UC:List (Nat×V)->Bool
 |[]=>ar
 |p::l=>bif lY p.2 then UC l else au
def l7 {E:Ev} {place:Nat->Option (Nat×Nat)}:∀{ps:List (Nat×V)} {cs r:List V} {qs:List (Nat×aa)} {ys:List aa},UC ps=ar->Mn place ps cs=ap r->BV E ps qs->gw E cs ys->
 ∃zs,Instr.fill place ys.toArray qs=ap zs.toArray/\gw E r zs
 |[],cs,r,qs,ys,_,h,hp,hc=>by
  simp only[Mn,ba]at h;simp only[BV]at hp;subst h hp;exact⟨ys,rfl,hc⟩
 |(i,v)::ps,cs,r,qs,ys,ht,h,hp,hc=>by
  simp only[Mn]at h;simp only[BV]at hp;obtain⟨y,qs,rfl,hv,hp⟩:=hp;simp only[UC]at ht;cases Vh:lY v<;>rw[Vh]at ht<;>simp only[cond_false,cond_true,oK]at ht
  obtain⟨l,hl,Nl⟩:=VR.cells Vh hv;split at h<;>first|(cases h;done)|skip
  rename_i off size yx;obtain⟨hb,h⟩:=yU h;simp only[lr]at hb;have h1:=jb hb.1;have h2:=BL hb.2;have e1:=Nl.length;have e2:=hc.length;have oZ:y.cells.size=size:=by rw[hl,I8,e1,h1]
  have HN:(decide (y.cells.size≠size)||decide (off+y.cells.size>ys.toArray.size))=au:=by
   rw[oZ,I8];simp;omega
  have hc':gw E (cs.take off++(v.cl++cs.drop (off+size))) (ys.take off++(l++ys.drop (off+size))):=(hc.take off).append (Nl.append (hc.drop _));obtain⟨zs,q1,q2⟩:=l7 ht h hp hc';refine⟨zs,?_,q2⟩;simp only[Instr.fill,yx];have Ft:y.cells.zipIdx.foldl (λ(cs:Array aa) (p:aa×Nat)=>cs.setIfInBounds (off+p.2) p.1) ys.toArray=(ys.take off++(l++ys.drop (off+size))).toArray:=by
   have hz:l.toArray.zipIdx=(l.zipIdx).toArray:=by
    apply cx;simp
   rw[hl,hz,List.foldl_toArray];rw[Xg (off:=off) l 0 ys (by omega)];simp only[kj,EJ,e1,h1,jh]
  rw[fb (by rw[HN];simp),Ft];exact q1
def pB (P:ab) (t:ac):Option aa:=
 match P.info? t with
 |some i=>i.zero
 |none=>aq
def z4l (P:ab) (t:ac) (ps:List (Nat×V)):Option V:=
 match pB P t with
 |some z=>bif lY (CL z) && UC ps then(match yOf P t with
  |some pl=>match OE pl with
   |some _=>match Mn (V8 pl) ps (CL z).cl with
    |some cs=>ap (.agg cs)
    |none=>aq
   |none=>aq
  |none=>match SN P t with
   |some (_,_,sz)=>match Mn (λi=>ap (i*sz,sz)) ps (CL z).cl with
    |some cs=>ap (.agg cs)
    |none=>aq
   |none=>aq)else aq
 |none=>aq
def cF {P:ab} {t:ac} {z:aa} (h:pB P t=ap z):zero? P t=ap z:=by
 unfold pB at h;unfold zero?;split at h
 ·rename_i i hi;rw[hi];exact h
 ·cases h
def zYr {P:ab} {E:Ev} {t:ac} {ps:List (Nat×V)} {qs:List (Nat×aa)} {v:V} (hp:BV E ps qs) (h:z4l P t ps=ap v):
 ∃y,VR E v y/\∀w,(Instr.build t qs.toArray).run P w= .ok y w:=by
 unfold z4l at h;split at h<;>first|(cases h;done)|skip
 rename_i z hz;have Eh:=λw=>me (cF hz) w
 obtain⟨hb,h⟩:=yU h;simp only[lr]at hb;obtain⟨zl,CO,U6⟩:=VR.cells (E:=E) hb.1 (NR E z);split at h
 ·rename_i pl yx;split at h<;>first|(cases h;done)|skip
  rename_i L hL;split at h<;>first|(cases h;done)|skip
  rename_i cs GY;simp only[ba]at h;subst h;have aaI:=zTl hL;subst aaI;unfold yOf at yx;split at yx<;>first|(cases yx;done)|skip
  rename_i fs xl;simp only[ba]at yx;have Vd:(λi=>L.toArray[i]?)=V8 (L.map ap):=by
   funext i;unfold V8;simp only[AO,vc];cases L[i]? <;>rfl
  obtain⟨zs,hf,Nk⟩:=l7 hb.2 GY hp U6;refine⟨.agg zs.toArray,by simp only[VR];exact⟨zs,rfl,Nk⟩,λw=> ?_⟩;have hm:=zQy w yx;have hmA:((fs.mapM λf=>(do pure (f.offset,<- Go.sizeOf f.type):Sem (Nat×Nat))):Sem (Array (Nat×Nat))).run P w= .ok L.toArray w:=by
   rw[Array.mapM_eq_mapM_toList,map_eq_pure_bind];simp only[bind,pure,run_bind]at hm ⊢;rw[hm];rfl
  unfold Instr.build;simp only[bind]at hmA;simp only[bind,run_bind,Eh,Cv.run_underlying xl,hmA,CO,Vd,hf];rfl
 ·split at h<;>first|(cases h;done)|skip
  rename_i n e sz Jr;split at h<;>first|(cases h;done)|skip
  rename_i cs GY;simp only[ba]at h;subst h;obtain⟨i,h1,h2,rfl⟩:=zHl Jr;obtain⟨zs,hf,Nk⟩:=l7 hb.2 GY hp U6;refine⟨.agg zs.toArray,by simp only[VR];exact⟨zs,rfl,Nk⟩,λw=> ?_⟩;unfold Instr.build;simp only[bind,run_bind,Eh,Cv.run_underlying h1,run_sizeOf h2,CO,hf];rfl
def Kv (ρ:xA):List (Nat×ag)->List (Nat×V)
 |[]=>[]
 |(i,x)::l=>(i,lz ρ x)::Kv ρ l
def TR {E:Ev} {ρS:xA} {ρ:Env} (h:ld E ρS ρ):∀(l:List (Nat×ag)),BV E (Kv ρS l) (l.map λp=>(p.1,ev ρ p.2))
 |[]=>by simp[Kv,BV]
 |(i,x)::l=>by simp only[Kv,jx,BV];exact⟨_,_,rfl,h.ev x,TR h l⟩
def bT (P:ab) (t:ac):Bool:=
 match P.underlying t with
 |some (.interface _)=>ar
 |none=>ar
 |_=>au
def Un:V->Bool
 | .nm _ _=>ar
 | .el _ _ _ _=>ar
 | .re _ _ _ _=>ar
 | .sub _ _=>ar
 |_=>au
def yAx {E:Ev} {v:V} {y:aa} (hp:Un v=ar) (h:VR E v y):∃a,y= .pointer (ap a):=by
 cases v<;>simp only[Un,oK]at hp<;>simp only[VR]at h
 ·obtain⟨b,oo,l,h1,rfl⟩:=h;exact⟨_,rfl⟩
 ·obtain⟨b,oo,m,c,l,h1,rfl⟩:=h;exact⟨_,rfl⟩
 ·obtain⟨_,_,b,o,l,T,fr,rfl,_⟩:=h;exact⟨_,rfl⟩
 ·obtain⟨hd,l,b,oo,h1,h2,rfl⟩:=h;exact⟨_,rfl⟩
def Gu (ρ:xA):Option ag->Option (Option Int)
 |none=>ap aq
 |some x=>match lz ρ x with
  | .d (.v (.int _ n))=>ap (ap n)
  |_=>aq
def MS (sz:Nat) (ez:List (List D)) (lo hi:Option Int) (K:V->Prop):Prop:=
 match lo,hi with
 |none,aq=>K (.d (.ro sz ez))
 |some l,aq=>(0<=l/\l<=ez.length)/\K (.d (.ro sz (ez.drop l.toNat)))
 |none,ap h=>(0<=h/\h<=ez.length)/\K (.d (.ro sz (ez.take h.toNat)))
 |some l,ap h=>(0<=l/\l<=h/\h<=ez.length)/\K (.d (.ro sz ((ez.take h.toNat).drop l.toNat)))
def So:ag->Bool
 | .const (.slice aq 0 0)=>ar
 |_=>au
def Zy (op:BinOp) (ez:List (List D)) (K:V->Prop):Prop:=
 ∀b:Bool,(b=ar->ez=[])->match op with
  | .eql=>K (.d (.v (.bool b)))
  | .neq=>K (.d (.v (.bool !b)))
  |_=>False
def ZF:V->V->Bool
 | .nm n o,.nm m p=>be n m && be o p
 |_,_=>au
def UF (P:ab) (t:ac):Bool:=
 match P.underlying t with
 |some (.pointer e)=>(nU P e).isSome
 |_=>au
def z6e {P:ab} {t:ac} (h:UF P t=ar):∃e i,P.underlying t=ap (.pointer e)/\P.info? e=ap i:=by
 unfold UF at h;split at h<;>first|(cases h;done)|skip
 rename_i e he;unfold nU at h;split at h<;>first|(cases h;done)|skip
 rename_i i hi;exact⟨e,i,he,hi⟩
def yGb {E:Ev} {u v:V} {x y:aa} (h:ZF u v=ar) (hx:VR E u x) (hy:VR E v y):∃a,x= .pointer (ap a)/\y= .pointer (ap a):=by
 unfold ZF at h;split at h<;>first|(cases h;done)|skip
 simp only[lr]at h;have h1:=jb h.1;have h2:=jb h.2;subst h1 h2;simp only[VR]at hx hy;obtain⟨b,oo,l,e1,rfl⟩:=hx;obtain⟨b',oo',l',e2,rfl⟩:=hy;rw[e1]at e2;cases e2;exact⟨_,rfl,rfl⟩
def zLp {P:ab} {t:ac} (h:UF P t=ar) (a:am) (w:af):(Op.equal t (.pointer (ap a)) (.pointer (ap a))).run P w= .ok ar w:=by
 obtain⟨e,i,h1,h2⟩:=z6e h;rw[mW];generalize 9999=d;unfold cn;simp only[bind,pure,Cv.run_bind,Cv.run_underlying h1,Cv.run_sizeOf h2];split
 ·simp only[sameAddr,bind,pure,beq_self_eq_true,if_true];rfl
 ·simp only[beq_self_eq_true,if_true];rfl
def mpV (P:ab) (t:ac) (v:V) (y:ag):Bool:=
 match v,y with
 | .mp _,.const (.map aq)=>(match P.underlying t with
   |some (.map _ _)=>ar
   |_=>au)
 |_,_=>au
def yLi {P:ab} {t:ac} {v:V} {y:ag} (h:mpV P t v y=ar):(∃n,v= .mp n)/\y= .const (.map aq)/\∃a b,P.underlying t=ap (.map a b):=by
 unfold mpV at h;split at h<;>first|(cases h;done)|skip
 rename_i n;split at h<;>first|(cases h;done)|skip
 rename_i a b hu;exact⟨⟨n,rfl⟩,rfl,a,b,hu⟩
def Ed (P:ab) (o:ak) (ρ:xA) (K:V->Prop):Prop:=
 bif Oj o.op then(bif Uk ρ o.op.operands.toList then cR P o (Uq ρ) (λx=>K (CL x))else False)else False
def sq (P:ab) (o:ak) (ρ:xA) (K:V->Prop):Prop:=
 match o.op with
 | .move x=>K (lz ρ x)
 | .assign x=>K (lz ρ x)
 | .pick c a b=>match lz ρ c with
   | .d (.v (.bool t))=>dq t (K (lz ρ a)) (K (lz ρ b))
   |_=>False
 | .nilCheck x=>bif Un (lz ρ x)then K (lz ρ x)else Ed P o ρ K
 | .fieldAddr s x f=>iI (W9 P s f) λoff=>match lz ρ x with
   | .nm n o=>K (.nm n (o+off))
   | .el n sz i g=>K (.el n sz i (g+off))
   | .re sz ez i g=>K (.re sz ez i (g+off))
   |_=>False
 | .indexAddr t x i=>match lz ρ i with
   | .d (.v (.int _ i))=>match lz ρ x with
     | .d (.ro sz ez)=>iI (gC P t) λoA=>bif be sz oA then(0<=i/\i<ez.length)/\K (.re sz ez i.toNat 0)else False
     | .nm n o=>iI (aD P t) λns=>bif bg 32 ns.1 && be ns.2 1 then(0<=i/\i<ns.1)/\K (.na n o i.toNat)else iI (Km i ns.1) λj=>K (.nm n (o+j*ns.2))
     | .el n sz k g=>iI (aD P t) λns=>iI (Km i ns.1) λj=>K (.el n sz k (g+j*ns.2))
     | .re sz ez k g=>iI (aD P t) λns=>iI (Km i ns.1) λj=>K (.re sz ez k (g+j*ns.2))
     |_=>False
   |_=>False
 | .index t x i=>match lz ρ x with
   | .agg cs=>match lz ρ i with
     | .d (.v (.int _ i))=>iI (SN P t) λns=>iI (Km i ns.1) λj=>iI (T9 P ns.2.1 cs (j*ns.2.2)) K
     |_=>False
   |_=>Ed P o ρ K
 | .field t x f=>match lz ρ x with
   | .agg cs=>iI (Yv P t f) λfo=>iI (T9 P fo.1 cs fo.2) K
   |_=>False
 | .extract x i=>match lz ρ x with
   | .ja l=>iI l[i]? K
   |_=>False
 | .build t ps=>iI (z4l P t (Kv ρ ps.toList)) K
 | .makeFunc (.func f) a b=>K (.fn f (CU ρ a.toList) (CU ρ b.toList))
 | .makeInterface t x=>bif bT P t then False else K (.zo t (lz ρ x))
 | .typeAssert x _ a au=>bif bT P a then False else(match lz ρ x with
   | .zo t v=>bif be t a then K v else False
   |_=>False)
 | .typeAssert x _ a ar=>bif bT P a then False else(match lz ρ x with
   | .zo t v=>bif be t a then K (.ja [v,.d (.v (.bool ar))])else iI (pB P a) λz=>K (.ja [CL z,.d (.v (.bool au))])
   | .d (.v .nilIface)=>iI (pB P a) λz=>K (.ja [CL z,.d (.v (.bool au))])
   |_=>False)
 | .binOp op t x y _=>bif ZF (lz ρ x) (lz ρ y) && UF P t then(match op with
    | .eql=>K (.d (.v (.bool ar)))
    | .neq=>K (.d (.v (.bool au)))
    |_=>False)else bif mpV P t (lz ρ x) y then(match op with
    | .eql=>K (.d (.v (.bool au)))
    | .neq=>K (.d (.v (.bool ar)))
    |_=>False)else bif Un (lz ρ x) && Sq P t && NV y then(match op with
    | .eql=>K (.d (.v (.bool au)))
    | .neq=>K (.d (.v (.bool ar)))
    |_=>False)else bif So y && Hk P t then(match lz ρ x with
     | .d (.ro _ ez)=>Zy op ez K
     |_=>Ed P o ρ K)else match Gr (lz ρ x)with
    |some (.agg xs)=>match Gr (lz ρ y)with
     |some (.agg ys)=>bif P.eqGuardType P.depth t then False else iI (yJo P t xs.toList ys.toList) λb=>match op with
      | .eql=>K (.d (.v (.bool b)))
      | .neq=>K (.d (.v (.bool !b)))
      |_=>False
     |_=>False
    |_=>Ed P o ρ K
 | .call c=>match c.callee with
   | .builtin .len=>match CU ρ c.args.toList with
     |[.d (.ro _ ez)]=>iI c.argTypes[0]? λt=>bif Hk P t then K (.d (.v (.int .i64 ez.length)))else False
     |_=>Ed P o ρ K
   | .builtin .min=>match CU ρ c.args.toList with
     |[.d (.v (.int k x)),.d (.v (.int _ y))]=>K (.d (.v (.int k (min x y))))
     |[.d (.v (.int k x)),.d (.v (.int _ y)),.d (.v (.int _ z))]=>K (.d (.v (.int k (min (min x y) z))))
     |_=>Ed P o ρ K
   |_=>Ed P o ρ K
 | .slice t x lo hi aq=>match lz ρ x with
   | .d (.ro sz ez)=>iI (gC P t) λoA=>bif be sz oA then D8 (Gu ρ lo) (Gu ρ hi) λl h=>MS sz ez l h K else False
   |_=>Ed P o ρ K
 | .unOp _ _ _=>Ed P o ρ K
 | .convert _ _ _=>Ed P o ρ K
 |_=>False
def dC {b:Bool} {A B:Prop} (h:bif b then A else B):(b=ar/\A)\/(b=au/\B):=by
 cases b
 ·exact .inr ⟨rfl,h⟩
 ·exact .inl ⟨rfl,h⟩
def yBr {b:Bool} {A B:Prop} (h:dq b A B):(b=ar/\A)\/(b=au/\B):=by
 cases b
 ·exact .inr ⟨rfl,h⟩
 ·exact .inl ⟨rfl,h⟩
def y1y (P:ab) (E:Ev) (o:ak) (ρ:Env) (K:V->Prop):Prop:=∃v y,K v/\VR E v y/\EA P (ae (ev ρ) o) y
def vP {P:ab} {E:Ev} {ρS:xA} {ρ:Env} (he:ld E ρS ρ) {o:ak} {K:V->Prop} (h:Ed P o ρS K):y1y P E o ρ K:=by
 unfold Ed at h;obtain⟨hp,h⟩:=zK h;obtain⟨hl,h⟩:=zK h;obtain⟨y,hk,hf⟩:=gX h;exact⟨_,y,hk,NR E y,by rw[<- yEz hp (yBd he hl)];exact hf⟩
def VR.DQ {E:Ev} {k:ao} {i:Int} {y:aa} (h:VR E (.d (.v (.int k i))) y):y= .int k i:=by
 simp only[VR,DR]at h;exact h.1
def jV {E:Ev} {x:aa} (h:x.og=ar):VR E (.d (.v x)) x:=by
 simp only[VR,DR];exact⟨trivial,h⟩
def fT {E:Ev} {ρS:xA} {ρ:Env} (he:ld E ρS ρ) {x:Option ag} {r:Option Int} (h:Gu ρS x=ap r):CY ρ x=ap r:=by
 cases x with
 |none=>exact h
 |some x=>
  simp only[Gu]at h;split at h<;>first|(cases h;done)|skip
  rename_i k n hx;have:=he.ev x;rw[hx]at this;simp only[CY,this.DQ];exact h
def DR.Fl {F:PH} {sz lo hi:Nat} {ez:List (List D)} {a:Option am} {c:Nat} (h:DR F (.ro sz ez) (.slice a ez.length c)) (h1:lo<=hi) (h2:hi<=ez.length):
 DR F (.ro sz ((ez.take hi).drop lo)) (.slice (if c=lo then a else a.map (·.add (lo*sz))) (hi-lo) (c-lo)):=by
 simp only[DR]at h ⊢;obtain⟨a',c',e,hc,hs,hm⟩:=h;cases e;have hlen:((ez.take hi).drop lo).length=hi-lo:=by rw[pd,om];omega
 refine⟨_,c-lo,by rw[hlen],by rw[hlen];omega,λel oT=>hs el (M6 (Jb oT)),?_⟩;by_cases h0:lo=hi
 ·left;exact yh (by omega)
 ·right;rcases hm with hm|⟨b,o,l,T,fr,rfl,h4,h5⟩
  ·subst hm;simp at h2;omega
  ·refine⟨b,o+lo*sz,l,T,fr,?_,h4,?_⟩
   ·rw[fb (by omega)];simp[uD]
   ·obtain⟨xs,r,e,hx⟩:=oR.1 h5;refine oR.2 ⟨(xs.drop (lo*sz)).take ((hi-lo)*sz),(xs.drop (lo*sz)).drop ((hi-lo)*sz)++r,?_,?_⟩
    ·rw[<- jh,BK,<- CJ,e,EN];rw[hx.length,jS hs];exact wz _ (by omega)
    ·have:=(hx.drop (lo*sz)).take ((hi-lo)*sz);rw[r9 lo hs,sC (hi-lo) (λel oT=>hs el (Jb oT)),List.take_drop]at this;rw[show lo+(hi-lo)=hi by omega]at this;exact this
def DR.FG {F:PH} {sz:Nat} {ez:List (List D)} {y:aa} (h:DR F (.ro sz ez) y) {lo hi:Option Int} {K:V->Prop} (hk:MS sz ez lo hi K):
 ∃a c v,y= .slice a ez.length c/\K v/\tn a ez.length c lo hi sz λp n c=>∀E:Ev,E.F=F->VR E v (.slice p n c):=by
 have h0:=h;simp only[DR]at h0;obtain⟨a,c,rfl,hc,_⟩:=h0;unfold MS at hk;split at hk
 ·exact⟨a,c,_,rfl,hk,by simp only[tn];exact⟨hc,λE hE=>by subst hE;simpa only[VR]using h⟩⟩
 ·rename_i l;obtain⟨⟨h1,h2⟩,hk⟩:=hk;refine⟨a,c,_,rfl,hk,?_⟩;simp only[tn];refine⟨⟨h1,h2,hc⟩,λE hE=> ?_⟩;subst hE;have:=h.Fl (lo:=l.toNat) (hi:=ez.length) (by omega) (lk _);rw[oh (lk _)]at this;simpa only[VR]using this
 ·rename_i u;obtain⟨⟨h1,h2⟩,hk⟩:=hk;refine⟨a,c,_,rfl,hk,?_⟩;simp only[tn];refine⟨⟨h1,by omega⟩,λE hE=> ?_⟩;subst hE;have:=h.Fl (lo:=0) (hi:=u.toNat) (by omega) (by omega);simp only[bo,eA,ite_self,Nat.sub_zero,DA]at this;simpa only[VR]using this
 ·rename_i l u;obtain⟨⟨h1,h2,h3⟩,hk⟩:=hk;refine⟨a,c,_,rfl,hk,?_⟩;simp only[tn];refine⟨⟨h1,h2,by omega⟩,λE hE=> ?_⟩;subst hE;have:=h.Fl (lo:=l.toNat) (hi:=u.toNat) (by omega) (by omega);simpa only[VR]using this
def zZy {p:Option am} {n c:Nat} {lo hi:Option Int} {sz:Nat} {K K':Option am->Nat->Nat->Prop} (h:∀p n c,K p n c->K' p n c) (hk:tn p n c lo hi sz K):tn p n c lo hi sz K':=by
 unfold tn at*;cases lo<;>cases hi<;>exact⟨hk.1,h _ _ _ hk.2⟩
def zPn {P:ab} {t:ac} (h:Sq P t=ar) (a:am):dQ P t (.pointer (ap a))=ap au:=by
 obtain⟨e,he⟩:=z3a h;unfold dQ;rw[he];rfl
def yDt {y:ag} (h:NV y=ar):y= .const (.pointer aq):=by
 unfold NV at h;split at h
 ·rfl
 ·cases h
def zRa {P:ab} {E:Ev} {ρ:Env} {o:ak} {op:BinOp} {t u:ac} {x y:ag} {ez:List (List D)} {K:V->Prop} {a:Option am} {n c:Nat} (ho:o.op= .binOp op t x y u) (hy:So y=ar) (ht:Hk P t=ar)
 (hx:ev ρ x= .slice a n c) (ha:a=aq->ez=[]) (h:Zy op ez K):y1y P E o ρ K:=by
 have pf:y= .const (.slice aq 0 0):=by
  unfold So at hy;split at hy
  ·rfl
  ·cases hy
 subst pf;obtain⟨e,he⟩:=eT ht;have hn:dQ P t (.slice a n c)=ap a.isNone:=by unfold dQ;rw[he]
 have hk:=h a.isNone (λhb=>ha (by simpa using hb));split at hk<;>first|exact hk.elim|skip
 ·refine⟨_,.bool a.isNone,hk,jV rfl,?_⟩;have:=xQ (P:=P) (neg:=au) (r:=a.isNone) (ρ:=ρ) ho (by rw[hx];trivial) trivial (λw=>by rw[hx];exact y9 trivial w) (λw=>by rw[hx];exact gR hn w);simpa using this
 ·refine⟨_,.bool (!a.isNone),hk,jV rfl,?_⟩;have:=xQ (P:=P) (neg:=ar) (r:=a.isNone) (ρ:=ρ) ho (by rw[hx];trivial) trivial (λw=>by rw[hx];exact y9 trivial w) (λw=>by rw[hx];exact gR hn w);simpa using this
def z2h {P:ab} {E:Ev} {ρS:xA} {ρ:Env} (he:ld E ρS ρ) {o:ak} {K:V->Prop} (h:sq P o ρS K):y1y P E o ρ K:=by
 cases ho:o.op
 case move x=>simp only[sq,ho]at h;exact⟨_,_,h,he.ev x,λw=>by simp only[ae,ho];rfl⟩
 case assign x=>simp only[sq,ho]at h;exact⟨_,_,h,he.ev x,λw=>by simp only[ae,ho];rfl⟩
 case pick c a b=>
  simp only[sq,ho]at h;split at h<;>first|exact h.elim|skip
  rename_i t hc;have hv:=he.ev c;rw[hc]at hv;simp only[VR,DR]at hv;rcases yBr h with⟨rfl,h⟩|⟨rfl,h⟩
  ·exact⟨_,_,h,he.ev a,λw=>by simp only[ae,ho,hv.1,asBool,bind,pure,cf,ce];rfl⟩
  ·exact⟨_,_,h,he.ev b,λw=>by simp only[ae,ho,hv.1,asBool,bind,pure,cf,ce];rfl⟩
 case nilCheck x=>
  simp only[sq,ho]at h;rcases dC h with⟨hp,h⟩|⟨_,h⟩
  ·obtain⟨a,ha⟩:=yAx hp (he.ev x);exact⟨_,_,h,he.ev x,λw=>by simp only[ae,ho,ha];rfl⟩
  ·exact vP he h
 case fieldAddr s x f=>
  simp only[sq,ho]at h;obtain⟨off,hf,h⟩:=zM h;obtain⟨fs,fd,i,h1,h2,h3,h4,rfl⟩:=zSn hf;have hv:=he.ev x;have run:∀b oo,ev ρ x= .pointer (ap ⟨b,oo,aq⟩)->EA P (ae (ev ρ) o) (.pointer (ap ⟨b,oo+fd.offset,aq⟩)):=by
   intro b oo hx;simp only[ae,ho,hx];refine yC λw=> ?_
   simp only[Instr.fieldAt,Instr.sureAddr,fieldPlace,bind,pure,run_bind,cf,ce,Cv.run_underlying h1,h2,run_sizeOf h3,fb h4,uD]
  split at h<;>first|exact h.elim|skip
  ·rename_i n o' hx;rw[hx]at hv;simp only[VR]at hv;obtain⟨b,oo,l,e1,e2⟩:=hv;exact⟨_,_,h,by simp only[VR];exact⟨b,oo,l,e1,rfl⟩,by have:=run _ _ e2;rw[CH]at this;exact this⟩
  ·rename_i n sz i g hx;rw[hx]at hv;simp only[VR]at hv;obtain⟨b,oo,m,c,l,e1,e2⟩:=hv;exact⟨_,_,h,by simp only[VR];exact⟨b,oo,m,c,l,e1,rfl⟩,by have:=run _ _ e2;rw[CH _ g]at this;exact this⟩
  ·rename_i sz ez i g hx;rw[hx]at hv;simp only[VR]at hv;obtain⟨e0,e1,b,oo,l,T,fr,e2,e3,e4⟩:=hv;exact⟨_,_,h,by simp only[VR];exact⟨e0,e1,b,oo,l,T,fr,rfl,e3,e4⟩,by have:=run _ _ e2;rw[CH _ g]at this;exact this⟩
 case indexAddr t x i=>
  simp only[sq,ho]at h;split at h<;>first|exact h.elim|skip
  rename_i k i' hi;have AQ:=he.ev i;rw[hi]at AQ;have AQ:=AQ.DQ;have hv:=he.ev x;have arr:∀{b oo:Nat} {ns:Nat×Nat} {j:Nat},aD P t=ap ns->Km i' ns.1=ap j->ev ρ x= .pointer (ap ⟨b,oo,aq⟩)->EA P (ae (ev ρ) o) (.pointer (ap ⟨b,oo+j*ns.2,aq⟩)):=by
   intro b oo ns j oZ hj hx;obtain⟨rfl,gv⟩:=zRe hj;simp only[ae,ho,hx,AQ];refine yC λw=> ?_
   rw[dN oZ ⟨by omega,by omega⟩,uD];simp
  split at h<;>first|exact h.elim|skip
  ·rename_i sz ez hx;obtain⟨oA,hs,h⟩:=zM h;obtain⟨hb,⟨h0,h1⟩,hk⟩:=zK h;have:=jb hb;subst this;rw[hx]at hv;simp only[VR,DR]at hv;obtain⟨a,c,e1,e2,e3,e4⟩:=hv;rcases e4 with e4|⟨b,oo,l,T,fr,rfl,e5,e6⟩
   ·subst e4;simp at h1;omega
   refine⟨_,.pointer (ap ⟨b,oo+i'.toNat*sz,aq⟩),hk,?_,?_⟩
   ·simp only[VR];exact⟨by omega,e3,b,oo,l,T,fr,rfl,e5,e6⟩
   ·simp only[ae,ho,e1,AQ];refine yC λw=> ?_
    rw[jW hs ⟨h0,by omega⟩,uD]
  ·rename_i n o' hx;obtain⟨ns,hs,h⟩:=zM h;rcases dC h with⟨hb,⟨h0,h1⟩,h⟩|⟨_,h⟩
   ·simp only[lr]at hb;have nh:=jb hb.2;rw[hx]at hv;simp only[VR]at hv;obtain⟨b,oo,l,e1,e2⟩:=hv;refine⟨_,.pointer (ap ⟨b,oo+(o'+i'.toNat),aq⟩),h,by simp only[VR];exact⟨b,oo,l,e1,rfl⟩,?_⟩;simp only[ae,ho,e2,AQ];refine yC λw=> ?_
    rw[dN hs ⟨h0,h1⟩,uD,nh,Nat.mul_one,CH]
   obtain⟨j,hj,h⟩:=zM h;rw[hx]at hv;simp only[VR]at hv;obtain⟨b,oo,l,e1,e2⟩:=hv;exact⟨_,_,h,by simp only[VR];exact⟨b,oo,l,e1,rfl⟩,by have:=arr hs hj e2;rw[CH]at this;exact this⟩
  ·rename_i n sz i g hx;obtain⟨ns,hs,h⟩:=zM h;obtain⟨j,hj,h⟩:=zM h;rw[hx]at hv;simp only[VR]at hv;obtain⟨b,oo,m,c,l,e1,e2⟩:=hv;exact⟨_,_,h,by simp only[VR];exact⟨b,oo,m,c,l,e1,rfl⟩,by have:=arr hs hj e2;rw[CH _ g]at this;exact this⟩
  ·rename_i sz ez i g hx;obtain⟨ns,hs,h⟩:=zM h;obtain⟨j,hj,h⟩:=zM h;rw[hx]at hv;simp only[VR]at hv;obtain⟨e0,e1,b,oo,l,T,fr,e2,e3,e4⟩:=hv;exact⟨_,_,h,by simp only[VR];exact⟨e0,e1,b,oo,l,T,fr,rfl,e3,e4⟩,by have:=arr hs hj e2;rw[CH _ g]at this;exact this⟩
 case index t x i=>
  simp only[sq,ho]at h;split at h
  ·rename_i cs hx;split at h<;>first|exact h.elim|skip
   rename_i k i' hi;obtain⟨⟨n,e,sz⟩,hs,h⟩:=zM h;obtain⟨j,hj,h⟩:=zM h;obtain⟨v,hp,hk⟩:=zM h;have AQ:=he.ev i;rw[hi]at AQ;have AQ:=AQ.DQ;have hv:=he.ev x;rw[hx]at hv;simp only[VR]at hv;obtain⟨ys,e1,e2⟩:=hv;obtain⟨y,hy,hr⟩:=zLu e2 hp;obtain⟨rfl,gv⟩:=zRe hj;obtain⟨inf,q1,q2,q3⟩:=zHl hs;refine⟨v,y,hk,hy,?_⟩;simp only[ae,ho,e1,AQ];refine yC λw=> ?_
   have hb:(0:Int)<=(j:Int)/\(j:Int)<n:=⟨by omega,by omega⟩
   simp only[Instr.index,asIntOf,bind,pure,run_bind,cf,ce,Cv.run_underlying q1,fh hb,run_sizeOf q2,q3];exact hr w
  ·exact vP he h
 case field t x f=>
  simp only[sq,ho]at h;split at h<;>first|exact h.elim|skip
  rename_i cs hx;obtain⟨⟨ft,off⟩,hf,h⟩:=zM h;obtain⟨v,hp,hk⟩:=zM h;have hv:=he.ev x;rw[hx]at hv;simp only[VR]at hv;obtain⟨ys,e1,e2⟩:=hv;obtain⟨y,hy,hr⟩:=zLu e2 hp;obtain⟨fs,fd,h1,h2,rfl,rfl⟩:=zOo hf;refine⟨v,y,hk,hy,?_⟩;simp only[ae,ho,e1];refine yC λw=> ?_
  simp only[Instr.field,asAgg,bind,pure,run_bind,cf,ce,Cv.run_underlying h1,h2];exact hr w
 case extract x i=>
  simp only[sq,ho]at h;split at h<;>first|exact h.elim|skip
  rename_i l hx;obtain⟨v,hl,h⟩:=zM h;have hv:=he.ev x;rw[hx]at hv;simp only[VR]at hv;obtain⟨ys,e1,e2⟩:=hv;obtain⟨y,hy,hr⟩:=e2.get hl;refine⟨v,y,h,hr,?_⟩;simp only[ae,ho,e1];refine yC λw=> ?_
  have:ys.toArray[i]? =ap y:=by simp[hy]
  simp only[Instr.extract,this];rfl
 case build t ps=>
  simp only[sq,ho]at h;obtain⟨v,hb,h⟩:=zM h;obtain⟨y,hy,hr⟩:=zYr (TR he ps.toList) hb;refine⟨v,y,h,hy,?_⟩;simp only[ae,ho];refine yC λw=> ?_
  have:(ps.map λ(i,x)=>(i,ev ρ x))=(ps.toList.map λp=>(p.1,ev ρ p.2)).toArray:=by
   apply cx;simp
  rw[this];exact hr w
 case makeFunc fn a b=>
  cases fn<;>simp only[sq,ho]at h
  rename_i f;obtain⟨as,e1,e2⟩:=aE he a;obtain⟨bs,e3,e4⟩:=aE he b;refine⟨_,.func (.func f) as.toArray bs.toArray,h,by simp only[VR];exact⟨as,bs,rfl,e2,e4⟩,?_⟩;simp only[ae,ho,e1,e3];exact yC λw=>rfl
 case makeInterface t x=>
  simp only[sq,ho]at h;obtain⟨hb,h⟩:bT P t=au/\K (.zo t (lz ρS x)):=by
   revert h;cases bT P t<;>intro h
   ·exact⟨rfl,h⟩
   ·exact h.elim
  refine⟨_,.iface t (ev ρ x),h,by simp only[VR];exact⟨_,rfl,he.ev x⟩,?_⟩;simp only[ae,ho];refine yC λw=> ?_
  unfold bT at hb;cases hd:P.underlying t with
  |none=>rw[hd]at hb;cases hb
  |some d=>
   rw[hd]at hb;unfold Instr.makeInterface;simp only[bind,run_bind,Cv.run_underlying hd];cases d<;>first|rfl|cases hb
 case typeAssert x xt a ok=>
  cases ok with
  |true=>
   simp only[sq,ho]at h;obtain⟨hb,h⟩:bT P a=au/\(match lz ρS x with
    | .zo t v=>bif be t a then K (.ja [v,.d (.v (.bool ar))])else iI (pB P a) λz=>K (.ja [CL z,.d (.v (.bool au))])
    | .d (.v .nilIface)=>iI (pB P a) λz=>K (.ja [CL z,.d (.v (.bool au))])
    |_=>False):=by
    revert h;cases bT P a<;>intro h
    ·exact⟨rfl,h⟩
    ·exact h.elim
   have ji:∃d,P.underlying a=ap d/\∀ms,d≠.interface ms:=by
    unfold bT at hb;split at hb<;>first|(cases hb;done)|skip
    rename_i Lt Ls;cases hu:P.underlying a with
    |none=>exact absurd hu Ls
    |some d=>exact⟨d,rfl,λms e=>Lt ms (by rw[hu,e])⟩
   obtain⟨d,hu,hd⟩:=ji;have J4:∀z,pB P a=ap z->VR E (.ja [CL z,.d (.v (.bool au))]) (.tuple #[z,.bool au]):=λz hz=>by
    simp only[VR,gw,DR];exact⟨[z,.bool au],rfl,_,_,rfl,NR E z,_,_,rfl,⟨rfl,rfl⟩,rfl⟩
   split at h<;>first|exact h.elim|skip
   ·rename_i t v hx;have hv:=he.ev x;rw[hx]at hv;simp only[VR]at hv;obtain⟨z,e1,e2⟩:=hv;rcases dC h with⟨ht,hk⟩|⟨ht,hk⟩
    ·have:=jb ht;subst this;refine⟨_,.tuple #[z,.bool ar],hk,?_,?_⟩
     ·simp only[VR,gw,DR];exact⟨[z,.bool ar],rfl,_,_,rfl,e2,_,_,rfl,⟨rfl,rfl⟩,rfl⟩
     ·simp only[ae,ho,e1];refine yC λw=> ?_
      simp only[bz,bind,run_bind,Cv.run_underlying hu];cases d<;>first|rfl|exact absurd rfl (hd _)|(simp only[if_true];rfl)
    ·obtain⟨z0,hz,hk⟩:=zM hk;have hta:¬t=a:=λe=>by subst e;rw[Nat.beq_refl]at ht;cases ht
     refine⟨_,.tuple #[z0,.bool au],hk,J4 z0 hz,?_⟩;simp only[ae,ho,e1];refine yC λw=> ?_
     simp only[bz,bind,run_bind,Cv.run_underlying hu];cases d<;>first|exact absurd rfl (hd _)|(simp only[fb hta,if_true,bind,run_bind,Cv.me (cF hz) w];rfl)
   ·rename_i hx;have hv:=he.ev x;rw[hx]at hv;simp only[VR,DR]at hv;obtain⟨z0,hz,hk⟩:=zM h;refine⟨_,.tuple #[z0,.bool au],hk,J4 z0 hz,?_⟩;simp only[ae,ho,hv.1];refine yC λw=> ?_
    simp only[bz,bind,run_bind,Cv.run_underlying hu];cases d<;>first|exact absurd rfl (hd _)|(simp only[if_true,bind,run_bind,Cv.me (cF hz) w];rfl)
  |false=>
   simp only[sq,ho]at h;obtain⟨hb,h⟩:bT P a=au/\(match lz ρS x with
    | .zo t v=>bif be t a then K v else False
    |_=>False):=by
    revert h;cases bT P a<;>intro h
    ·exact⟨rfl,h⟩
    ·exact h.elim
   split at h<;>first|exact h.elim|skip
   rename_i t v hx;obtain⟨ht,hk⟩:=zK h;have:=jb ht;subst this;have hv:=he.ev x;rw[hx]at hv;simp only[VR]at hv;obtain⟨z,e1,e2⟩:=hv;refine⟨v,z,hk,e2,?_⟩;simp only[ae,ho,e1];refine yC λw=> ?_
   unfold bT at hb;split at hb<;>first|(cases hb;done)|skip
   rename_i Lt Ls;cases hu:P.underlying t with
   |none=>exact absurd hu Ls
   |some d=>
    simp only[bz,bind,run_bind,Cv.run_underlying hu];cases d<;>first|rfl|exact absurd hu (Lt _)|(simp only[if_true];rfl)
 case binOp op t x y u=>
  simp only[sq,ho]at h;rcases dC h with⟨hp,hk⟩|⟨_,h⟩
  ·simp only[lr]at hp;obtain⟨a,hx,hy⟩:=yGb hp.1 (he.ev x) (he.ev y);clear h;split at hk<;>first|exact hk.elim|skip
   ·refine⟨_,.bool ar,hk,jV rfl,?_⟩;have:=xQ (P:=P) (neg:=au) (r:=ar) (ρ:=ρ) ho (by rw[hx];trivial) (by rw[hy];trivial) (λw=>by rw[hx,hy];exact y9 trivial w) (λw=>by rw[hx,hy];exact zLp hp.2 a w);simpa using this
   ·refine⟨_,.bool au,hk,jV rfl,?_⟩;have:=xQ (P:=P) (neg:=ar) (r:=ar) (ρ:=ρ) ho (by rw[hx];trivial) (by rw[hy];trivial) (λw=>by rw[hx,hy];exact y9 trivial w) (λw=>by rw[hx,hy];exact zLp hp.2 a w);simpa using this
  rcases dC h with⟨hp,hk⟩|⟨_,h⟩
  ·obtain⟨⟨n,hx⟩,rfl,ka,kb,hu⟩:=yLi hp;have hv:=he.ev x;rw[hx]at hv;simp only[VR]at hv;obtain⟨b,l,_,ha⟩:=hv;have hr:dQ P t (.map (ap b))=ap au:=by simp[dQ,hu]
   clear h;split at hk<;>first|exact hk.elim|skip
   ·refine⟨_,.bool au,hk,jV rfl,?_⟩;have:=xQ (P:=P) (neg:=au) (r:=au) (ρ:=ρ) ho (by rw[ha];trivial) trivial (λw=>by rw[ha];exact y9 trivial w) (λw=>by rw[ha];exact cS hr w);simpa using this
   ·refine⟨_,.bool ar,hk,jV rfl,?_⟩;have:=xQ (P:=P) (neg:=ar) (r:=au) (ρ:=ρ) ho (by rw[ha];trivial) trivial (λw=>by rw[ha];exact y9 trivial w) (λw=>by rw[ha];exact cS hr w);simpa using this
  rcases dC h with⟨hp,hk⟩|⟨_,h⟩
  ·simp only[lr]at hp;obtain⟨⟨Ve,Jl⟩,hp3⟩:=hp;obtain⟨a,ha⟩:=yAx Ve (he.ev x);have hy:=yDt hp3;subst hy;clear h;split at hk<;>first|exact hk.elim|skip
   ·refine⟨_,.bool au,hk,jV rfl,?_⟩;have:=xQ (P:=P) (neg:=au) (r:=au) (ρ:=ρ) ho (by rw[ha];trivial) trivial (λw=>by rw[ha];exact y9 trivial w) (λw=>by rw[ha];exact cU (zPn Jl a) w);simpa using this
   ·refine⟨_,.bool ar,hk,jV rfl,?_⟩;have:=xQ (P:=P) (neg:=ar) (r:=au) (ρ:=ρ) ho (by rw[ha];trivial) trivial (λw=>by rw[ha];exact y9 trivial w) (λw=>by rw[ha];exact cU (zPn Jl a) w);simpa using this
  ·rcases dC h with⟨hp,hk⟩|⟨_,h⟩
   ·simp only[lr]at hp;clear h;split at hk
    ·rename_i sz ez hx;have hv:=he.ev x;rw[hx]at hv;simp only[VR,DR]at hv;obtain⟨a,c,e1,_,_,e4⟩:=hv;exact zRa ho hp.1 hp.2 e1 (λha=>by
      rcases e4 with e4|⟨_,_,_,_,_,e5,_⟩
      ·exact e4
      ·rw[ha]at e5;cases e5) hk
    ·exact vP he hk
   ·split at h
    ·rename_i xs vp;split at h<;>first|exact h.elim|skip
     rename_i ys GM;rcases dC h with⟨_,hk⟩|⟨hgt,hk⟩
     ·exact hk.elim
     clear h;obtain⟨b,hb,hk⟩:=zM hk;have ex:=eM vp (he.ev x);have ey:=eM GM (he.ev y);have jk:=λw=>yFo (P:=P) hb w
     simp only[OT]at jk;have hg:∀(op:BinOp) w,(eqGuard op t x y (.agg xs) (.agg ys)).run P w= .ok () w:=by
      intro op w;unfold eqGuard;cases op<;>first|rfl|(simp[bind,pure,run_bind,program,ce,cf,hgt])
     split at hk<;>first|exact hk.elim|skip
     ·refine⟨_,.bool b,hk,jV rfl,?_⟩;have:=xQ (P:=P) (neg:=au) (r:=b) (ρ:=ρ) ho (by rw[ex];trivial) (by rw[ey];trivial) (λw=>by rw[ex,ey];exact hg _ w) (λw=>by rw[ex,ey];exact jk w);simpa using this
     ·refine⟨_,.bool (!b),hk,jV rfl,?_⟩;have:=xQ (P:=P) (neg:=ar) (r:=b) (ρ:=ρ) ho (by rw[ex];trivial) (by rw[ey];trivial) (λw=>by rw[ex,ey];exact hg _ w) (λw=>by rw[ex,ey];exact jk w);simpa using this
    ·exact vP he h
 case call c=>
  simp only[sq,ho]at h;split at h
  ·rename_i hc;split at h
   ·rename_i sz ez nt;obtain⟨t,ht,h⟩:=zM h;obtain⟨hs,h⟩:=zK h;obtain⟨ys,e1,e2⟩:=aE he c.args;rw[nt]at e2;simp only[gw,VR,DR]at e2;obtain⟨y,_,rfl,⟨a,k,rfl,_⟩,rfl⟩:=e2;refine⟨_,.int .i64 ez.length,h,jV rfl,?_⟩;rw[j7 ho hc,e1];obtain⟨e,K1⟩:=eT hs;refine yC λw=> ?_
    simp only[cu,ht,AO,CK,bind,run_bind,Cv.run_underlying K1];rfl
   ·exact vP he h
  ·rename_i hc;split at h
   ·rename_i kk x k2 y nt;obtain⟨ys,e1,e2⟩:=aE he c.args;rw[nt]at e2;simp only[gw,VR,DR]at e2;obtain⟨_,_,rfl,⟨rfl,_⟩,_,_,rfl,⟨rfl,_⟩,rfl⟩:=e2;refine⟨_,.int kk (min x y),h,jV rfl,?_⟩;rw[j7 ho hc,e1];refine yC λw=> ?_
    rw[show min x y=if y<x then y else x by rw[Int.min_def];split<;>split<;>omega];apply run_min_int2
   ·rename_i kk x k2 y k3 z nt;obtain⟨ys,e1,e2⟩:=aE he c.args;rw[nt]at e2;simp only[gw,VR,DR]at e2;obtain⟨_,_,rfl,⟨rfl,_⟩,_,_,rfl,⟨rfl,_⟩,_,_,rfl,⟨rfl,_⟩,rfl⟩:=e2;refine⟨_,.int kk (min (min x y) z),h,jV rfl,?_⟩;rw[j7 ho hc,e1];refine yC λw=> ?_
    rw[show min (min x y) z=if z<(if y<x then y else x)then z else(if y<x then y else x)by rw[Int.min_def,Int.min_def];repeat' split<;>omega];apply run_min_int3
   ·exact vP he h
  ·exact vP he h
 case slice t x lo hi mx=>
  cases mx with
  |some m=>simp only[sq,ho]at h
  |none=>
   simp only[sq,ho]at h;split at h
   ·rename_i sz ez hx;obtain⟨oA,hs,h⟩:=zM h;obtain⟨hb,hh⟩:=zK h;have:=jb hb;subst this;obtain⟨l,u,h1,h2,hh⟩:=sA hh;have hv:=he.ev x;rw[hx]at hv;simp only[VR]at hv;obtain⟨a,c,v,e1,hk,ym⟩:=hv.FG hh;have hp:cR P o ρ (λy=>VR E v y):=by
     simp only[cR,ho,e1,hs,fT he h1,fT he h2,D8];exact zZy (λp n c hh=>hh E rfl) ym
    obtain⟨y,hy,hf⟩:=gX hp;exact⟨v,y,hk,hy,hf⟩
   ·exact vP he h
 case unOp op t x=>simp only[sq,ho]at h;exact vP he h
 case convert s d x=>simp only[sq,ho]at h;exact vP he h
 all_goals(simp only[sq,ho]at h)
end Sx
namespace Cv
open Go Go.RowKit
def yFb {φ:HV} {b:Nat} {xs:List V} {t:ac} {CN:Option Nat} {O:Obj} (h:coT φ b (.cells xs t CN) O):∃r,O= .cells (G4 φ xs++r).toArray t/\(∀sz,CN=ap sz->xs.length+r.length=(φ b).2*sz)/\(CN=aq->r=[]):=by
 cases CN with
 |none=>
  have h':O= .cells (G4 φ xs).toArray t:=h;exact⟨[],by rw[h',oU],by simp,λ_=>rfl⟩
 |some sz=>
  obtain⟨r,h1,h2⟩:=h;exact⟨r,h1,λs hs=>(by cases hs;exact h2),by simp⟩
def Rel.cells {φ:HV} {s:St} {w:af} (R:Rel φ s w) {b:Nat} {xs:List V} {t:ac} {CN:Option Nat} (h:s.get b=ap (.cells xs t CN)):
 ∃r,w.heap[(φ b).1]? =ap (.cells (G4 φ xs++r).toArray t)/\(∀sz,CN=ap sz->xs.length+r.length=(φ b).2*sz)/\(CN=aq->r=[]):=by
 obtain⟨O,h1,h2⟩:=R.obj b _ h;obtain⟨r,rfl,h3,h4⟩:=yFb h2;exact⟨r,h1,h3,h4⟩
def uR {P:ab} {t k e:ac} (h:Gv P t=ap (k,e)):P.underlying t=ap (.map k e):=by
 unfold Gv at h;split at h
 ·simp only[ba,ct]at h;obtain⟨rfl,rfl⟩:=h;assumption
 ·cases h
def qM {P:ab} {w:af} {r:Nat} {O:Obj} (h:w.heap[r]? =ap O) (hO:match O with| .cells _ _ _=>False|_=>True):(getObj r).run P w= .ok O w:=by
 simp only[getObj,ce,h];cases O<;>first|exact hO.elim|rfl
def yFw {P:ab} {t:ac} (h:OJ P t=ar):∃e,P.underlying t=ap (.slice e)/\P.underlying e=ap (.int .u8):=by
 unfold OJ at h;split at h<;>first|(cases h;done)|skip
 rename_i e he;split at h<;>first|(cases h;done)|skip
 exact⟨e,he,by assumption⟩
def zGz {P:ab} (w:af) {F:aa->ByteArray->Sem (ForInStep ByteArray)} (hF:∀(n:Nat) (s:ByteArray),F (.int .u8 (n:Int)) s= .pure (.yield (s.push (UInt8.ofNat n)))):∀(l:List Nat) (acc:ByteArray),
 ((forIn (l.map λ(n:Nat)=>Value.int .u8 (n:Int)) acc F):Sem ByteArray).run P w= .ok (acc++bs l) w
 |[],acc=>by
  have:acc++bs []=acc:=by apply ByteArray.ext;simp[bs]
  rw[this];rfl
 |n::l,acc=>by
  have ih:=zGz (P:=P) w hF l (acc.push (UInt8.ofNat n));simp only[jx,List.forIn_cons,bind,hF,cf];rw[ih];congr 1;apply ByteArray.ext;simp[bs,Nat.toUInt8]
end Cv
namespace Sx
open Go Go.RowKit Cv
def Rel.focus {k:Ko} {L:List HP} {E:Ev} {s:St} {w:af} (R:Rel k L E s w) {n:Nat} {o:fi} (h:s.get n=ap o):
 Hp k w (gz E (n,o)::((vK n s.rows).map (gz E)++fz E.F::L)):=by
 refine R.hp.perm ?_;have:=((vN h).1.map (gz E)).append_right (fz E.F::L);simpa using this
def Rel.nu {k:Ko} {L:List HP} {E:Ev} {s:St} {w w':af} (R:Rel k L E s w) {n:Nat} {o:fi} (h:s.get n=ap o) {o':fi}
 (H:Hp k w' (gz E (n,o')::((vK n s.rows).map (gz E)++fz E.F::L))):Rel k L E (s.set n o') w':=by
 refine⟨R.nx,H.perm ?_⟩;have:=(((vN h).2 o').map (gz E)).append_right (fz E.F::L);simpa[St.set]using this.symm
def Rel.frozen {k:Ko} {L:List HP} {E:Ev} {s:St} {w:af} (R:Rel k L E s w):∀b o,E.F b=ap o->w.heap[b]? =ap o:=by
 have H:Hp k w (fz E.F::(s.rows.map (gz E)++L)):=R.hp.perm mo;obtain⟨h,⟨rfl,_⟩,hs⟩:=H.sat;exact hs
def Rel.row {k:Ko} {L:List HP} {E:Ev} {s:St} {w:af} (R:Rel k L E s w) {n:Nat} {o:fi} (h:s.get n=ap o) (hg:o≠.gone):
 ∃hd x,E.gf[n]? =ap hd/\fm E.F o E.gf hd x/\Sub x w:=by
 obtain⟨x,hx,hs⟩:=(R.focus h).sat;rcases hx with⟨e,_⟩|⟨hd,h1,h2⟩
 ·exact absurd e hg
 ·exact⟨hd,x,h1,h2,hs⟩
def Rel.cells {k:Ko} {L:List HP} {E:Ev} {s:St} {w:af} (R:Rel k L E s w) {n:Nat} {vs:List V} {t:ac} (h:s.get n=ap (.cells vs t)):
 ∃b l sub,E.gf[n]? =ap (.pointer (ap ⟨b,0,aq⟩),sub)/\gw E vs l/\w.heap[b]? =ap (.cells l.toArray t):=by
 obtain⟨⟨hv,sub⟩,x,h1,h2,h3⟩:=R.row h (by simp);simp only[fm]at h2;obtain⟨b,l,rfl,h4,rfl⟩:=h2;exact⟨b,l,sub,h1,h4,h3 b _ (by simp[one])⟩
def Rel.vec {k:Ko} {L:List HP} {E:Ev} {s:St} {w:af} (R:Rel k L E s w) {n:Nat} {ds:List D} {t:ac} (h:s.get n=ap (.vec ds t)):
 ∃b l sub,E.gf[n]? =ap (.pointer (ap ⟨b,0,aq⟩),sub)/\iF E.F ds l/\w.heap[b]? =ap (.cells l.toArray t):=by
 obtain⟨⟨hv,sub⟩,x,h1,h2,h3⟩:=R.row h (by simp);simp only[fm]at h2;obtain⟨b,l,rfl,h4,rfl⟩:=h2;exact⟨b,l,sub,h1,h4,h3 b _ (by simp[one])⟩
def eG (s:St):V->Option (Nat×List (List D))
 | .d (.ro sz ez)=>ap (sz,ez)
 | .own n=>match s.get n with
   |some (.own _ sz ez)=>ap (sz,ez)
   |some (.jc sz ez)=>ap (sz,ez)
   |some (.GJ _ ez)=>ap (1,ez)
   |_=>aq
 |_=>aq
def Xp {k:Ko} {L:List HP} {E:Ev} {s:St} {w:af} (R:Rel k L E s w) {sz:Nat} {ez:List (List D)} {y:aa} (h:DR E.F (.ro sz ez) y):
 ∃a c xs,y= .slice a ez.length c/\ez.length<=c/\iF E.F ez.flatten xs/\(∀el∈ez,el.length=sz)/\Sat w (EO sz a ez.length c xs):=by
 simp only[DR]at h;obtain⟨a,c,rfl,h1,h2,h3⟩:=h;rcases h3 with rfl|⟨b,o,l,T,fr,rfl,h4,h5⟩
 ·exact⟨a,c,[],rfl,h1,by simp[iF],h2,pe,.inl ⟨rfl,rfl,rfl⟩,Sub.pe w⟩
 ·obtain⟨xs,r,e,hx⟩:=oR.1 h5;have hl:xs.length=ez.length*sz:=by rw[hx.length,jS h2]
  refine⟨_,c,xs,rfl,h1,hx,h2,one b (.cells l.toArray T fr),.inr ⟨b,o,l,T,fr,rfl,rfl,?_,hl,h1⟩,?_⟩
  ·rw[e,xk (by omega),oh (by omega)]
  ·intro b' o' e';simp only[one]at e';split at e'
   ·rename_i hb;subst hb;cases e';exact R.frozen _ _ h4
   ·cases e'
def aV {k:Ko} {L:List HP} {E:Ev} {s:St} {w:af} (R:Rel k L E s w) {v:V} {y:aa} (hv:VR E v y) {sz:Nat} {ez:List (List D)} (h:eG s v=ap (sz,ez)):
 ∃a c xs,y= .slice a ez.length c/\ez.length<=c/\iF E.F ez.flatten xs/\(∀el∈ez,el.length=sz)/\Sat w (EO sz a ez.length c xs):=by
 unfold eG at h;split at h
 ·simp only[ba,ct]at h;obtain⟨rfl,rfl⟩:=h;simp only[VR]at hv;exact Xp R hv
 ·rename_i n;simp only[VR]at hv;obtain⟨sub,h1,h2⟩:=hv;split at h<;>first|(cases h;done)|skip
  ·rename_i t oA lj hg;simp only[ba,ct]at h;obtain⟨rfl,rfl⟩:=h;obtain⟨hd,x,q1,q2,q3⟩:=R.row hg (by simp);rw[h1]at q1;cases q1;simp only[fm]at q2;obtain⟨a,c,xs,rfl,q4,q5,q6⟩:=q2;exact⟨a,c,xs,rfl,(SY q6).2,q4,q5,x,mG q6,q3⟩
  ·rename_i oA lj hg;simp only[ba,ct]at h;obtain⟨rfl,rfl⟩:=h;obtain⟨hd,x,q1,q2,q3⟩:=R.row hg (by simp);rw[h1]at q1;cases q1;simp only[fm]at q2;exact Xp R q2.2
  ·rename_i t lj hg;simp only[ba,ct]at h;obtain⟨rfl,rfl⟩:=h;obtain⟨hd,x,q1,q2,q3⟩:=R.row hg (by simp);rw[h1]at q1;cases q1;simp only[fm]at q2;obtain⟨b,c,xs,r,rfl,q4,q5,q6,q7⟩:=q2;have hl:xs.length=lj.length*1:=by rw[q4.length,jS q5]
   exact⟨_,c,xs,rfl,q6,q4,q5,x,.inr ⟨b,0,xs++r,t,_,rfl,q7,by rw[DA,xk (by omega),oh (by omega)],hl,q6⟩,q3⟩
 ·cases h
def zD (ez:List (List D)) (i f n:Nat):Option (List D):=
 match ez[i]? with
 |some el=>bif bg (f+n) el.length then ap ((el.drop f).take n)else aq
 |none=>aq
def UU:aa->(D->Prop)->Prop
 | .int k _,K=>∃n:Int,K (.v (.int k n))
 | .bool _,K=>∃b:Bool,K (.v (.bool b))
 | .string _,K=>∃s:ByteArray,K (.v (.string s))
 | .slice _ _ _,K=>∃(sz:Nat) (ez:List (List D)),K (.ro sz ez)
 |_,K=>∃d:D,K d
def shL:List aa->(List D->Prop)->Prop
 |[],K=>K []
 |z::zs,K=>UU z λd=>shL zs λds=>K (d::ds)
def Of (P:ab):Nat->ac->List ac
 |0,t=>[t]
 |f+1,t=>match P.underlying t with
  |some (.struct fs)=>(fs.toList.map λfd=>Of P f fd.type).flatten
  |some (.array n e)=>(aw n (Of P f e)).flatten
  |_=>[t]
def KE (P:ab):List ac->List aa->(List D->Prop)->Prop
 |t::ts,z::zs,K=>match gC P t with
  |some sz=>∃ez:List (List D),KE P ts zs λds=>K (.ro sz ez::ds)
  |none=>UU z λd=>KE P ts zs λds=>K (d::ds)
 |_,zs,K=>shL zs K
def HA (P:ab) (t:ac) (K:List D->Prop):Prop:=
 match pB P t with
 |some z=>KE P (Of P 6 t) z.cells.toList K
 |none=>False
def yBc {z:aa} {K:D->Prop} (h:UU z K):∃d,K d:=by
 cases z<;>simp only[UU]at h<;>first|(obtain⟨n,h⟩:=h;exact⟨_,h⟩)|(obtain⟨a,n,h⟩:=h;exact⟨_,h⟩)
def Wd:∀{zs:List aa} {K:List D->Prop},shL zs K->∃ds,K ds
 |[],_,h=>⟨_,h⟩
 |_::_,_,h=>let⟨_,h1⟩:=yBc h;let⟨_,h2⟩:=Wd h1;⟨_,h2⟩
def Wt {P:ab}:∀{ts:List ac} {zs:List aa} {K:List D->Prop},KE P ts zs K->∃ds,K ds
 |t::ts,z::zs,K,h=>by
  unfold KE at h;split at h
  ·obtain⟨ez,h⟩:=h;obtain⟨ds,h⟩:=Wt h;exact⟨_,h⟩
  ·obtain⟨d,h⟩:=yBc h;obtain⟨ds,h⟩:=Wt h;exact⟨_,h⟩
 |[],zs,K,h=>by unfold KE at h;exact Wd h
 |t::ts,[],K,h=>by unfold KE at h;exact Wd h
def aC {P:ab} {t:ac} {K:List D->Prop} (h:HA P t K):∃ds,K ds:=by
 unfold HA at h;split at h
 ·exact Wt h
 ·exact h.elim
def HE (P:ab) (t:ac) (ds:List D):Option V:=
 match D' P t with
 |some n=>bif be ds.length n then ap (.agg (ds.map .d))else aq
 |none=>bif B1 P t then(match ds with
  |[d]=>ap (.d d)
  |_=>aq)else aq
def zLk {P:ab} {E:Ev} {w:af} {t sz i f:Nat} {ez:List (List D)} {b oo:Nat} {c:Nat} {xs:List aa} {ds:List D} {v:V} (hx:iF E.F ez.flatten xs) (hu:∀el∈ez,el.length=sz)
 (hs:Sat w (EO sz (ap ⟨b,oo,aq⟩) ez.length c xs)) (hp:zD ez i f ds.length=ap ds) (hm:HE P t ds=ap v):∃y,VR E v y/\nX P t ⟨b,oo+i*sz+f,aq⟩ w y:=by
 unfold zD at hp;split at hp<;>first|(cases hp;done)|skip
 rename_i el oT;obtain⟨hb,hp⟩:=yU hp;have hb:=BL hb;have tu:=lq oT;have hi:i<ez.length:=(jv.1 oT).1;rw[hu el tu]at hb;obtain⟨b',o',l,T,fr,e1,e2,e3⟩:=Kt hs (by omega);cases e1;have my:=(hx.drop (i*sz+f)).take ds.length;have hfp:=Yh hu oT hb;rw[hfp,bc hp]at my;have hlen:xs.length=ez.length*sz:=by rw[hx.length,jS hu]
 have vt:i*sz+sz<=ez.length*sz:=by
  have:=wz sz (show i+1<=ez.length by omega);rwa [zj]at this
 have nv:(l.drop (oo+i*sz+f)).take ds.length=(xs.drop (i*sz+f)).take ds.length:=by
  rw[<- e3,ay,ax,CJ,CH oo];congr 1;rw[GD];omega
 unfold HE at hm;split at hm
 ·rename_i n hn;obtain⟨hq,hm⟩:=yU hm;have:=jb hq;cases hm;refine⟨.agg ((xs.drop (i*sz+f)).take ds.length).toArray,by simp only[VR];exact⟨_,rfl,my.M9⟩,?_⟩;refine TC hn e2 (by rw[<- this];exact nv) ?_;rw[my.length,this]
 ·obtain⟨hq,hm⟩:=yU hm;split at hm<;>first|(cases hm;done)|skip
  rename_i d;cases hm;simp only[iJ,ua,iF]at my nv;obtain⟨y,ys,e4,h4,h5⟩:=my;subst h5;refine⟨y,by simpa only[VR]using h4,vC hq e2 ?_⟩;have:((l.drop (oo+i*sz+f)).take 1)[0]? =ap y:=by rw[nv,e4];rfl
  rw[I',fh (by omega),AZ]at this;simpa using this
def UD (P:ab) (t:ac) (vs:List V) (off:Nat):Option V:=
 match D' P t with
 |some sz=>bif bg (off+sz) vs.length then ap (.agg ((vs.drop off).take sz))else aq
 |none=>bif B1 P t then vs[off]? else aq
def zMe {P:ab} {E:Ev} {w:af} {t b off:Nat} {vs:List V} {l:List aa} {T:ac} {fr:Nat×Nat} {v:V} (hv:gw E vs l) (hb:w.heap[b]? =ap (.cells l.toArray T fr)) (h:UD P t vs off=ap v):
 ∃y,VR E v y/\nX P t ⟨b,off,aq⟩ w y:=by
 unfold UD at h;split at h
 ·rename_i n hn;obtain⟨hq,h⟩:=yU h;have hq:=BL hq;cases h;have hp:=(hv.drop off).take n;refine⟨.agg ((l.drop off).take n).toArray,by simp only[VR];exact⟨_,rfl,hp⟩,TC hn hb rfl ?_⟩;rw[hp.length,om,pd];omega
 ·obtain⟨hq,h⟩:=yU h;obtain⟨y,h1,h2⟩:=hv.get h;exact⟨y,h2,vC hq hb h1⟩
def jI (s:ByteArray):List (List D):=s.data.toList.map λb=>[.v (.int .u8 b.toNat)]
def aA:aa->aa->Bool
 | .int k a,.int k' b=>wj k k' && decide (a=b)
 | .string a,.string b=>decide (a=b)
 |_,_=>au
def kR (x:aa):List (aa×List D)->Option (List D)
 |[]=>aq
 |(y,ds)::l=>bif aA x y then ap ds else kR x l
def LK (es:List (aa×List D)) (x:aa) (z ds:List D) (b:Bool):Prop:=(kR x es=ap ds/\b=ar)\/(kR x es=aq/\ds=z/\b=au)
def yZs:aa->Bool
 | .int _ _=>ar
 |_=>au
def yXb:aa->Bool
 | .string _=>ar
 |_=>au
def MM (P:ab) (t:ac) (x:aa):Bool:=
 match P.underlying t with
 |some (.int _)=>yZs x
 |some .string=>yXb x
 |_=>au
def ma:aa->aa->Bool
 | .int k _,.int k' _=>wj k k'
 | .string _,.string _=>ar
 |_,_=>au
def tD (x:aa) (es:List (aa×List D)):Prop:=∀p∈es,ma x p.1=ar
def u9 (x:aa) (ds:List D):List (aa×List D)->List (aa×List D)
 |[]=>[(x,ds)]
 |(y,e)::l=>bif aA x y then(y,ds)::l else(y,e)::u9 x ds l
def BI (x:aa):List (aa×List D)->List (aa×List D)
 |[]=>[]
 |(y,e)::l=>bif aA x y then l else(y,e)::BI x l
def GK (P:ab) (t:ac) (ds:List D):Option V:=
 match D' P t with
 |some n=>bif be ds.length n && !(be n 1)then ap (.agg (ds.map .d))else aq
 |none=>bif B1 P t then(match ds with
  |[d]=>ap (.d d)
  |_=>aq)else aq
def Gv (P:ab) (t:ac):Option (ac×ac):=
 match P.underlying t with
 |some (.map k e)=>ap (k,e)
 |_=>aq
def yGu {a b:ao} (h:wj a b=ar):a=b:=by
 cases a<;>cases b<;>first|rfl|cases h
def ySn {x y:aa} (h:aA x y=ar):x=y:=by
 unfold aA at h;split at h
 ·simp only[lr,ud]at h;rw[yGu h.1,h.2]
 ·rw[oV h]
 ·cases h
def T7 {P:ab} {t:ac} {x:aa} (h:MM P t x=ar):∃kd,P.underlying t=ap kd/\IS kd x:=by
 unfold MM at h;split at h
 ·rename_i ik hu;refine⟨_,hu,.inl ?_⟩;cases x<;>first|(cases h;done)|exact⟨_,_,_,rfl,rfl⟩
 ·rename_i hu;refine⟨_,hu,.inr ?_⟩;cases x<;>first|(cases h;done)|exact⟨_,rfl,rfl⟩
 ·cases h
def z8z (s s':ByteArray):(s==s')=decide (s=s'):=by
 by_cases h:s=s'
 ·subst h;rw[lg rfl];show(s.data==s.data)=ar;simp
 ·rw[ku h];cases hb:s==s'
  ·rfl
  ·have:(s.data==s'.data)=ar:=hb;exact absurd (ByteArray.ext (eq_of_beq this)) h
def tL {kd:TypeDesc} {x y:aa} (hk:IS kd x) (hl:ma x y=ar):Instr.sameNow kd x y=ap (aA x y):=by
 rcases hk with⟨ik,k,n,rfl,rfl⟩|⟨s,rfl,rfl⟩
 ·cases y<;>simp only[ma,oK]at hl
  rename_i k' m;have:=yGu hl;subst this;simp only[Instr.sameNow,if_true,aA,hl,Ae];rfl
 ·cases y<;>simp only[ma,oK]at hl
  rename_i s';simp only[Instr.sameNow,aA];congr 1;exact z8z s s'
def z0t (k:ao):wj k k=ar:=by cases k<;>rfl
def zVk {kd:TypeDesc} {x:aa} (hk:IS kd x):ma x x=ar:=by
 rcases hk with⟨ik,k,n,rfl,rfl⟩|⟨s,rfl,rfl⟩
 ·exact z0t k
 ·rfl
def zUg {kd:TypeDesc} {x:aa} (hk:IS kd x):aA x x=ar:=by
 rcases hk with⟨ik,k,n,rfl,rfl⟩|⟨s,rfl,rfl⟩
 ·simp only[aA,z0t,Ae,decide_true]
 ·simp only[aA,decide_true]
def zTi {l:List aj} {ck:Nat} (h:vW l ck) {e:aj} (he:e.born=ck):vW (l++[e]) (ck+1):=by
 refine⟨?_,λx hx=> ?_⟩
 ·rw[jr,Af];refine⟨h.1,by simp,λa ha b hb=> ?_⟩;obtain⟨x,hx,rfl⟩:=pj.1 ha;have:=h.2 x hx;simp only[jx,CG,vm]at hb;omega
 ·rcases pz.1 hx with hx|hx
  ·have:=h.2 x hx;omega
  ·rw[vm.1 hx,he];omega
def Xh {l:List aj} {ck q:Nat} (h:vW l ck) {m e:aj} (hm:l[q]? =ap m) (he:e.born=m.born):vW (l.set q e) ck:=by
 have hq:(l.set q e).map (·.born)=l.map (·.born):=by
  apply Hw;intro i;rw[vc,vc,GF];split
  ·rename_i hi;subst hi;split
   ·rw[hm];simp[he]
   ·rename_i gv;rw[ue (by omega)];first|rfl|done
  ·rfl
 refine⟨by rw[hq];exact h.1,λx hx=> ?_⟩;rcases List.mem_or_eq_of_mem_set hx with hx|rfl
 ·exact h.2 x hx
 ·rw[he];exact h.2 m (lq hm)
def z8d {l:List aj} {ck q:Nat} (h:vW l ck):vW (l.eraseIdx q) ck:=
 ⟨((List.eraseIdx_sublist l q).map _).nodup h.1,λx hx=>h.2 x ((List.eraseIdx_sublist l q).mem hx)⟩
def yKs:vW [] 0:=⟨by simp,by simp⟩
def MC {F:PH} {kd:TypeDesc} {x:aa} (hk:IS kd x):∀{es:List (aa×List D)} {fy:List aj} (i:Nat),MR F es fy->tD x es->
 (bv kd x fy i=ap aq/\kR x es=aq/\(∀ds,u9 x ds es=es++[(x,ds)])/\BI x es=es/\∀e:aj,e.key=x->bv kd x (fy++[e]) i=ap (ap (i+fy.length,e.val)))\/
 (∃q m ds ys,bv kd x fy i=ap (ap (i+q,m.val))/\fy[q]? =ap m/\m.key=x/\kR x es=ap ds/\iF F ds ys/\m.val=rI ys/\
   (∀CW Dz (e:aj),iF F CW Dz->e.key=x->e.val=rI Dz->MR F (u9 x CW es) (fy.set q e))/\MR F (BI x es) (fy.eraseIdx q)/\∀e:aj,e.key=x->bv kd x (fy.set q e) i=ap (ap (i+q,e.val)))
 |[],fy,i,h,_=>by
  simp only[MR]at h;subst h;exact .inl ⟨rfl,rfl,λds=>rfl,rfl,λe he=>by
   have hx:ma x x=ar:=zVk hk;simp only[xj,bv,he,tL hk hx,zUg hk];rfl⟩
 |(y,e)::es,fy,i,h,hl=>by
  simp only[MR]at h;obtain⟨m,ms,rfl,h1,⟨ys,h2,h3⟩,h4⟩:=h;have hy:ma x y=ar:=hl (y,e) jm;have hs:=tL hk hy;cases hb:aA x y with
  |true=>
   have hxy:=ySn hb;refine .inr ⟨0,m,e,ys,?_,rfl,by rw[h1,hxy],?_,h2,h3,?_,?_,?_⟩
   ·simp only[bv,h1,hs,hb];rfl
   ·simp only[kR,hb,cond_true]
   ·intro CW Dz e' q1 q2 q3;simp only[u9,hb,cond_true,OP,MR];exact⟨e',ms,rfl,by rw[q2,hxy],⟨Dz,q1,q3⟩,h4⟩
   ·simp only[BI,hb,cond_true,List.eraseIdx_cons_zero];exact h4
   ·intro e' ri;simp only[OP,bv,ri,tL hk (zVk hk),zUg hk];rfl
  |false=>
   have hl':tD x es:=λp hp=>hl p (kg _ hp)
   rcases MC hk (i+1) h4 hl' with⟨q1,q2,q3,q4,q5⟩|⟨q,m',ds,Dz,q1,q2,q3,q4,q5,q6,q7,q8,q9⟩
   ·refine .inl ⟨?_,?_,λds=> ?_,?_,λe' ri=> ?_⟩
    ·simp only[bv,h1,hs,hb];exact q1
    ·simp only[kR,hb,cond_false];exact q2
    ·simp only[u9,hb,cond_false,q3 ds,uc]
    ·simp only[BI,hb,cond_false,q4]
    ·simp only[uc,bv,h1,hs,hb];rw[q5 e' ri,iJ,show i+1+ms.length=i+(ms.length+1)by omega]
   ·refine .inr ⟨q+1,m',ds,Dz,?_,by simpa using q2,q3,?_,q5,q6,?_,?_,λe' ri=> ?_⟩
    ·simp only[bv,h1,hs,hb];rw[q1,show i+1+q=i+(q+1)by omega]
    ·simp only[kR,hb,cond_false];exact q4
    ·intro CW ys2 e' r1 r2 r3;simp only[u9,hb,cond_false,OO,MR];exact⟨m,_,rfl,h1,⟨ys,h2,h3⟩,q7 CW ys2 e' r1 r2 r3⟩
    ·simp only[BI,hb,cond_false,List.eraseIdx_cons_succ,MR];exact⟨m,_,rfl,h1,⟨ys,h2,h3⟩,q8⟩
    ·simp only[OO,bv,h1,hs,hb];rw[q9 e' ri,show i+1+q=i+(q+1)by omega]
def jT {P:ab} {kt:ac} {kd:TypeDesc} (hu:P.underlying kt=ap kd) {x:aa} (hk:IS kd x) (b:Bool) (w:af):(Instr.checkKey b 10000 kt x).run P w= .ok () w:=by
 rcases hk with⟨ik,k,n,rfl,rfl⟩|⟨s,rfl,rfl⟩<;>
  (unfold Instr.checkKey;simp only[bind,run_bind,Cv.run_underlying hu];rfl)
def wV {P:ab} {kt:ac} {kd:TypeDesc} (hu:P.underlying kt=ap kd) {x:aa} {fy:List aj} {r:Option (Nat×aa)} (h:bv kd x fy 0=ap r) (w:af):(Instr.findKey kt x fy).run P w= .ok r w:=by
 simp only[Instr.findKey,bind,run_bind,Cv.run_underlying hu,h];rfl
def uR {P:ab} {t:ac} {ke:ac×ac} (h:Gv P t=ap ke):P.underlying t=ap (.map ke.1 ke.2):=by
 unfold Gv at h;split at h
 ·rename_i k e hu;cases h;exact hu
 ·cases h
def Wa {P:ab} {E:Ev} {t:ac} {ds:List D} {v:V} (h:GK P t ds=ap v) {ys:List aa} (hd:iF E.F ds ys):VR E v (rI ys):=by
 unfold GK at h;split at h
 ·obtain⟨hb,h⟩:=yU h;cases h;simp only[lr,EM]at hb;have h1:=jb hb.1;have hl:ys.length=ds.length:=hd.length;have:rI ys= .agg ys.toArray:=by
   unfold rI;split
   ·rename_i y;rw[h1]at hl;simp only[iJ,ua]at hl;rw[<- hl]at hb;exact absurd hb.2 (by decide)
   ·rfl
  rw[this];simp only[VR];exact⟨ys,rfl,hd.M9⟩
 ·obtain⟨hb,h⟩:=yU h;split at h<;>first|(cases h;done)|skip
  cases h;simp only[iF]at hd;obtain⟨x,xs,rfl,h1,rfl⟩:=hd;simpa only[VR,rI]using h1
def Me (P:ab) (t:ac):Option (List D):=
 match pB P t with
 |some (.agg cs)=>(match D' P t with
  |some _=>bif okc (.agg cs)then ap (cs.toList.map .v)else aq
  |none=>aq)
 |some z=>(match D' P t with
  |some _=>aq
  |none=>bif z.og then ap [.v z]else aq)
 |none=>aq
def yIe {P:ab} {E:Ev} {t:ac} {ds:List D} {v:V} (h:Me P t=ap ds) (hm:GK P t ds=ap v):∃z,pB P t=ap z/\VR E v z:=by
 unfold Me at h;split at h
 ·rename_i cs hz;split at h<;>first|(cases h;done)|skip
  rename_i n hn;obtain⟨hb,h⟩:=yU h;cases h;refine⟨_,hz,?_⟩;simp only[GK,hn]at hm;obtain⟨_,hm⟩:=yU hm;cases hm;simp only[VR];refine⟨cs.toList,by simp,?_⟩;rw[wb];exact yKm hb
 ·rename_i z ji hz;split at h<;>first|(cases h;done)|skip
  rename_i hn;obtain⟨hb,h⟩:=yU h;cases h;refine⟨_,hz,?_⟩;simp only[GK,hn]at hm;obtain⟨_,hm⟩:=yU hm;cases hm;simp only[VR,DR];exact⟨trivial,hb⟩
 ·cases h
def Ku (s:St) (n:Nat):Option Nat:=
 match s.get n with
 |some (.jz _ _ _ _ l _)=>ap l.length
 |_=>aq
def Xw {k:Ko} {L:List HP} {E:Ev} {s:St} {w:af} (R:Rel k L E s w) {n len:Nat} (h:Ku s n=ap len):
 ∃a c sub,E.gf[n]? =ap (.slice a len c,sub)/\sub.length=len/\(∀p∈sub,∃b oo,p= .pointer (ap ⟨b,oo,aq⟩))/\Sat w (EO 1 a len c sub):=by
 unfold Ku at h;split at h<;>first|(cases h;done)|skip
 rename_i t T m iC l hole hg;cases h;obtain⟨⟨v,sub⟩,x,h1,h2,h3⟩:=R.row hg (by simp);simp only[fm]at h2;obtain⟨a,c,e1,e2,e3,e4⟩:=h2;obtain⟨g,g',q1,q2,q3,rfl⟩:=e4;subst e1;exact⟨a,c,sub,h1,e2,e3,g,mG q1,λb o e=>h3 b o (by simp[un,e])⟩
structure wy where
 q:Bool
 T:Nat
 sz:Nat
 ez:List (List D)
 i:Nat
 f:Nat
 b:Bool
 m:Option Nat
def mL (s:St) (n:Nat):Option wy:=
 match s.get n with
 |some (.vf q t sz ez i f b m)=>ap ⟨q,t,sz,ez,i,f,b,m⟩
 |_=>aq
def eH {s:St} {n:Nat} {x:wy} (h:mL s n=ap x):s.get n=ap (.vf x.q x.T x.sz x.ez x.i x.f x.b x.m):=by
 unfold mL at h;split at h<;>first|(cases h;done)|skip
 rename_i hg;cases h;exact hg
def wy.clear (x:wy) (i f k:Nat):Prop:=x.f<x.sz/\(x.b=ar->i=x.i->f+k<=x.f\/x.f<f)
def Rel.vf {k:Ko} {L:List HP} {E:Ev} {s:St} {w:af} (R:Rel k L E s w) {n:Nat} {x:wy} (h:mL s n=ap x):
 ∃a c sub ys xs,E.gf[n]? =ap (.slice a x.ez.length c,sub)/\iF E.F x.ez.flatten ys/\(∀el∈x.ez,el.length=x.sz)/\zf E.gf (x.i*x.sz+x.f) x.b ys xs x.m/\Sat w (EO x.sz a x.ez.length c xs):=by
 obtain⟨⟨hv,sub⟩,z,h1,h2,h3⟩:=R.row (eH h) (by simp);simp only[fm]at h2;obtain⟨a,c,ys,xs,rfl,q2,q3,q4,q5⟩:=h2;exact⟨a,c,sub,ys,xs,h1,q2,q3,q4,z,mG q5,h3⟩
def W3 {gf:List Hd} {p:Nat} {b:Bool} {ys xs:List aa}:∀{m:Option Nat},zf gf p b ys xs m->xs.length=ys.length
 |some m,⟨y,l,h1,h2,h3⟩=>by cases b<;>simp[h3]
 |none,⟨y,h1,h3⟩=>by cases b<;>simp[h3]
def yOb {gf:List Hd} {p:Nat} {b:Bool} {ys xs:List aa}:∀{m:Option Nat},zf gf p b ys xs m->∀o n,(b=ar->o+n<=p\/p<o)->(xs.drop o).take n=(ys.drop o).take n:=by
 have key:∀{y:aa},xs=(bif b then ys.set p y else ys)->∀o n,(b=ar->o+n<=p\/p<o)->(xs.drop o).take n=(ys.drop o).take n:=by
  intro y h o n hc;cases b with
  |false=>rw[h];rfl
  |true=>
   rw[h,cond_true];apply Hw;intro j;rw[I',I'];split
   ·rw[AZ,AZ,GF,fb (by have:=hc rfl;omega)]
   ·rfl
 intro m;cases m with
 |none=>rintro⟨y,_,h⟩;exact key h
 |some m=>rintro⟨y,l,_,_,h⟩;exact key h
def z8u {sz i f i0 f0 k:Nat} (h1:f+k<=sz) (h2:f0<sz) (ji:i=i0->f+k<=f0\/f0<f):i*sz+f+k<=i0*sz+f0\/i0*sz+f0<i*sz+f:=by
 rcases Nat.lt_trichotomy i i0 with h|h|h
 ·have:=wz sz (show i+1<=i0 by omega);rw[zj]at this;left;omega
 ·subst h;rcases ji rfl with h|h
  ·left;omega
  ·right;omega
 ·have:=wz sz (show i0+1<=i by omega);rw[zj]at this;right;omega
def zSl {P:ab} {E:Ev} {w:af} {t sz i f:Nat} {ez:List (List D)} {b oo:Nat} {c:Nat} {xs:List aa} {ds:List D} {v:V} (hlen:xs.length=ez.length*sz) (hu:∀el∈ez,el.length=sz)
 (hs:Sat w (EO sz (ap ⟨b,oo,aq⟩) ez.length c xs)) (hp:zD ez i f ds.length=ap ds) (my:iF E.F ds ((xs.drop (i*sz+f)).take ds.length)) (hm:HE P t ds=ap v):∃y,VR E v y/\nX P t ⟨b,oo+i*sz+f,aq⟩ w y:=by
 unfold zD at hp;split at hp<;>first|(cases hp;done)|skip
 rename_i el oT;obtain⟨hb,hp⟩:=yU hp;have hb:=BL hb;have tu:=lq oT;have hi:i<ez.length:=(jv.1 oT).1;rw[hu el tu]at hb;obtain⟨b',o',l,T,fr,e1,e2,e3⟩:=Kt hs (by omega);cases e1;have vt:i*sz+sz<=ez.length*sz:=by
  have:=wz sz (show i+1<=ez.length by omega);rwa [zj]at this
 have nv:(l.drop (oo+i*sz+f)).take ds.length=(xs.drop (i*sz+f)).take ds.length:=by
  rw[<- e3,ay,ax,CJ,CH oo];congr 1;rw[GD];omega
 unfold HE at hm;split at hm
 ·rename_i n hn;obtain⟨hq,hm⟩:=yU hm;have:=jb hq;cases hm;refine⟨.agg ((xs.drop (i*sz+f)).take ds.length).toArray,by simp only[VR];exact⟨_,rfl,my.M9⟩,?_⟩;refine TC hn e2 (by rw[<- this];exact nv) ?_;rw[my.length,this]
 ·obtain⟨hq,hm⟩:=yU hm;split at hm<;>first|(cases hm;done)|skip
  rename_i d;cases hm;simp only[iJ,ua,iF]at my nv;obtain⟨y,ys,e4,h4,h5⟩:=my;subst h5;refine⟨y,by simpa only[VR]using h4,vC hq e2 ?_⟩;have:((l.drop (oo+i*sz+f)).take 1)[0]? =ap y:=by rw[nv,e4];rfl
  rw[I',fh (by omega),AZ]at this;simpa using this
def VC (P:ab) (t:ac) (x:wy) (sz i f:Nat) (K:V->Prop):Prop:=
 bif be sz x.sz then(match x.q,x.m,gC P t with
  |true,ap c,ap _=>bif B1 P t then(i=x.i/\f=x.f/\x.b=ar/\i<x.ez.length/\f<sz)/\K (.own c)else False
  |_,_,_=>HA P t λds=>zD x.ez i f ds.length=ap ds/\x.clear i f ds.length/\iI (HE P t ds) K)else False
def z4n {P:ab} {k:Ko} {L:List HP} {E:Ev} {s:St} {w:af} (R:Rel k L E s w) {t n sz i f:Nat} {x:wy} {K:V->Prop} (hx:mL s n=ap x) (h:VC P t x sz i f K)
 {b oo m c:Nat} {l:List aa} (e1:E.gf[n]? =ap (.slice (ap ⟨b,oo,aq⟩) m c,l)):∃v y,K v/\VR E v y/\nX P t ⟨b,oo+i*sz+f,aq⟩ w y:=by
 unfold VC at h;obtain⟨hb,h⟩:=zK h;have e:=jb hb;subst e;obtain⟨a,c',sub,ys,xs,q1,q2,q3,q4,q5⟩:=R.vf hx;rw[e1]at q1;cases q1;have CP:ys.length=x.ez.length*x.sz:=by rw[q2.length,jS q3]
 have xd:xs.length=x.ez.length*x.sz:=by rw[W3 q4,CP]
 split at h
 ·rename_i cc tt hq hm hs;obtain⟨Pm,⟨rfl,rfl,hbt,hi,hf⟩,hk⟩:=zK h;rw[hm]at q4;obtain⟨y,ly,r1,⟨ya,yn,yc,r2⟩,r3⟩:=q4;rw[hbt,cond_true]at r3;have vt:x.i*x.sz+x.sz<=x.ez.length*x.sz:=by
   have:=wz x.sz (show x.i+1<=x.ez.length by omega);rwa [zj]at this
  obtain⟨b',o',l',T,fr,e2,e3,e4⟩:=Kt q5 (by omega);cases e2;refine⟨_,y,hk,by simp only[VR];exact⟨ly,r1,ya,yn,yc,r2⟩,vC Pm e3 ?_⟩;have:xs[x.i*x.sz+x.f]? =ap y:=by rw[r3,GF,fh rfl,fh (by omega)]
  rw[<- e4,I',fh (by omega),AZ]at this;rw[show oo+x.i*x.sz+x.f=oo+(x.i*x.sz+x.f)by omega];exact this
 ·obtain⟨ds,hp,⟨xl,wm⟩,h⟩:=aC h;obtain⟨v,hm,hk⟩:=zM h;have Ns:=hp;unfold zD at Ns;split at Ns<;>first|(cases Ns;done)|skip
  rename_i el oT;obtain⟨HN,Ns⟩:=yU Ns;have HN:=BL HN;rw[q3 el (lq oT)]at HN;have my:=(q2.drop (i*x.sz+f)).take ds.length;rw[Yh q3 oT HN,bc Ns]at my;rw[<- yOb q4 (i*x.sz+f) ds.length (λhb=>z8u HN xl (wm hb))]at my;obtain⟨y,hy,hh⟩:=zSl xd q3 q5 hp my hm;exact⟨v,y,hk,hy,hh⟩
def sr (P:ab) (o:ak) (ρ:xA) (s:St) (K:V->Prop):Prop:=
 match o.op with
 | .load t x=>match lz ρ x with
   | .nm n off=>match s.get n with
     |some (.cells vs _)=>iI (UD P t vs off) K
     |_=>False
   | .el n sz i f=>match Ku s n with
     |some len=>bif be sz 1 && be f 0 && B1 P t then i<len/\K (.sub n i)else False
     |none=>match mL s n with
     |some x=>VC P t x sz i f K
     |none=>iI (eG s (.own n)) λse=>bif be sz se.1 then HA P t λds=>zD se.2 i f ds.length=ap ds/\iI (HE P t ds) K else False
   | .re sz ez i f=>HA P t λds=>zD ez i f ds.length=ap ds/\iI (HE P t ds) K
   | .na n off i=>match s.get n with
     |some (.cells vs _)=>bif B1 P t then HA P t λds=>match ds with
      |[d]=>(vs.drop off)[i]?=ap (.d d)/\K (.d d)
      |_=>False else False
     |some (.vec es _)=>bif B1 P t then HA P t λds=>match ds with
      |[d]=>(es.drop off)[i]?=ap d/\K (.d d)
      |_=>False else False
     |_=>False
   |_=>False
 | .indexAddr t x i=>match lz ρ x with
   | .own n=>match lz ρ i with
     | .d (.v (.int _ i))=>iI (gC P t) λsz=>match Ku s n with
       |some len=>bif be sz 1 then(0<=i/\i<len)/\K (.el n 1 i.toNat 0)else False
       |none=>match mL s n with
       |some x=>bif be sz x.sz then(0<=i/\i<x.ez.length)/\K (.el n sz i.toNat 0)else False
       |none=>iI (eG s (.own n)) λse=>bif be sz se.1 then(0<=i/\i<se.2.length)/\K (.el n sz i.toNat 0)else False
     |_=>False
   |_=>False
 | .binOp op t x y _=>match lz ρ x with
   | .own n=>bif So y && Hk P t then iI (eG s (.own n)) λse=>Zy op se.2 K else False
   |_=>False
 | .convert st d x=>bif OJ P st && Kr P d then iI (eG s (lz ρ x)) λse=>∃b:ByteArray,se.1=1/\se.2=jI b/\K (.d (.v (.string b)))else False
 | .call c=>match c.callee with
   | .builtin .len=>match CU ρ c.args.toList with
     |[.own n]=>iI c.argTypes[0]? λt=>bif Hk P t then(match Ku s n with
      |some len=>K (.d (.v (.int .i64 len)))
      |none=>iI (eG s (.own n)) λse=>K (.d (.v (.int .i64 se.2.length))))else False
     |[.mp n]=>iI c.argTypes[0]? λt=>bif ZZ P t then(match s.get n with
      |some (.map es)=>K (.d (.v (.int .i64 es.length)))
      |_=>False)else False
     |_=>False
   |_=>False
 | .lookup t x i ok=>match lz ρ x with
   | .mp n=>match s.get n with
     |some (.map es)=>iI (Gv P t) λke=>iI (Gr (lz ρ i)) λkv=>bif MM P ke.1 kv then iI (Me P ke.2) λz=>tD kv es/\∃b,HA P ke.2 λds=>LK es kv z ds b/\iI (GK P ke.2 ds) λv=>K (bif ok then .ja [v,.d (.v (.bool b))]else v)else False
     |_=>False
   |_=>False
 |_=>False
def y7h (P:ab) (E:Ev) (o:ak) (ρ:Env) (w:af) (K:V->Prop):Prop:=∃v y,K v/\VR E v y/\(ae (ev ρ) o).run P w=.ok (.value y) w
def z5n {P:ab} {F:PH} {b:ByteArray} {xs:List aa} (h:iF F (jI b).flatten xs):xs=(b.data.toList.map UInt8.toNat).map λ(n:Nat)=>Value.int .u8 (n:Int):=by
 unfold jI at h;revert h;generalize b.data.toList=l
 induction l generalizing xs with
 |nil=>intro h;simpa[iF]using h
 |cons a l ih=>
  intro h;simp only[jx,AM,uc,xj,iF,DR]at h;obtain⟨x,ys,rfl,⟨rfl,_⟩,h⟩:=h;simp only[jx];rw[ih h]
def WV {P:ab} {k:Ko} {L:List HP} {E:Ev} {s:St} {w:af} (R:Rel k L E s w) {ρS:xA} {ρ:Env} (he:ld E ρS ρ) {o:ak} {K:V->Prop} (h:sr P o ρS s K):y7h P E o ρ w K:=by
 cases ho:o.op
 case load t x=>
  simp only[sr,ho]at h;have hv:=he.ev x;split at h<;>first|exact h.elim|skip
  ·rename_i n off hx;rw[hx]at hv;simp only[VR]at hv;obtain⟨b,oo,l,e1,e2⟩:=hv;split at h<;>first|exact h.elim|skip
   rename_i vs T hg;obtain⟨v,hp,hk⟩:=zM h;obtain⟨b',l',sub,q1,q2,q3⟩:=R.cells hg;rw[e1]at q1;cases q1;obtain⟨y,hy,hh⟩:=zMe q2 q3 hp;refine⟨v,y,hk,hy,?_⟩;simp only[ae,ho,e2,oa];exact yF hh
  ·rename_i n sz i f hx;rw[hx]at hv;simp only[VR]at hv;obtain⟨b,oo,m,c,l,e1,e2⟩:=hv;split at h
   ·rename_i len Jm;obtain⟨hb,hi,hk⟩:=zK h;simp only[lr]at hb;have b1:=jb hb.1.1;have b2:=jb hb.1.2;subst b1 b2;obtain⟨a,c',sub,q1,q2,q3,q4⟩:=Xw R Jm;rw[e1]at q1;cases q1;obtain⟨bb,o',ll,T,fr,r1,r2,r3⟩:=Kt q4 (by omega);cases r1;obtain⟨p,hp⟩:∃p,l[i]? =ap p:=⟨_,vd (by omega)⟩
    obtain⟨pb,po,rfl⟩:=q3 p (lq hp);refine⟨.sub n i,.pointer (ap ⟨pb,po,aq⟩),hk,by simp only[VR];exact⟨_,l,pb,po,e1,hp,rfl⟩,?_⟩;simp only[ae,ho,e2];refine yF (vC hb.2 r2 ?_);rw[<- r3,I',fh (by omega),AZ]at hp;rw[show oo+i*1+0=oo+i by omega];exact hp
   split at h
   ·rename_i x hx;obtain⟨v,y,hk,hy,hh⟩:=z4n R hx h e1;refine⟨v,y,hk,hy,?_⟩;simp only[ae,ho,e2];exact yF hh
   obtain⟨⟨oA,ez⟩,hd,h⟩:=zM h;obtain⟨hb,h⟩:=zK h;have:=jb hb;simp only at this;subst this;obtain⟨ds,hp,h⟩:=aC h;obtain⟨v,hm,hk⟩:=zM h;obtain⟨a,c',xs,q1,q2,q3,q4,q5⟩:=aV R (v:= .own n) (y:= .slice (ap ⟨b,oo,aq⟩) m c) (by simp only[VR];exact⟨l,e1,_,_,_,rfl⟩) hd;cases q1;obtain⟨y,hy,hh⟩:=zLk q3 q4 q5 hp hm;refine⟨v,y,hk,hy,?_⟩;simp only[ae,ho,e2];exact yF hh
  ·rename_i sz ez i f hx;rw[hx]at hv;simp only[VR]at hv;obtain⟨e0,e1,b,oo,l,T,fr,e2,e3,e4⟩:=hv;obtain⟨ds,hp,h⟩:=aC h;obtain⟨v,hm,hk⟩:=zM h;obtain⟨a,c',xs,q1,q2,q3,q4,q5⟩:=Xp R (sz:=sz) (ez:=ez) (y:= .slice (ap ⟨b,oo,aq⟩) ez.length ez.length) (by
    simp only[DR];exact⟨_,_,rfl,lk _,e1,.inr ⟨b,oo,l,T,fr,rfl,e3,e4⟩⟩)
   cases q1;obtain⟨y,hy,hh⟩:=zLk q3 q4 q5 hp hm;refine⟨v,y,hk,hy,?_⟩;simp only[ae,ho,e2];exact yF hh
  ·rename_i n off i hx;rw[hx]at hv;simp only[VR]at hv;obtain⟨b,oo,l,e1,e2⟩:=hv;split at h<;>first|exact h.elim|skip
   rename_i vs T hg;obtain⟨Pm,h⟩:=zK h;obtain⟨ds,h⟩:=aC h;split at h<;>first|exact h.elim|skip
   rename_i d;obtain⟨hd,hk⟩:=h;obtain⟨b',l',sub,q1,q2,q3⟩:=R.cells hg;rw[e1]at q1;cases q1;obtain⟨y,hy,hh⟩:=(q2.drop off).get hd;rw[AZ]at hy;refine⟨.d d,y,hk,hh,?_⟩;simp only[ae,ho,e2,oa];exact yF (vC Pm q3 hy);rename_i vs T hg;obtain⟨Pm,h⟩:=zK h;obtain⟨ds,h⟩:=aC h;split at h<;>first|exact h.elim|skip
   rename_i d;obtain⟨hd,hk⟩:=h;obtain⟨b',l',sub,q1,q2,q3⟩:=R.vec hg;rw[e1]at q1;cases q1;obtain⟨y,hy,hh⟩:=(q2.drop off).get hd;rw[AZ]at hy;refine⟨.d d,y,hk,by simpa only[VR]using hh,?_⟩;simp only[ae,ho,e2,oa];exact yF (vC Pm q3 hy)
 case indexAddr t x i=>
  simp only[sr,ho]at h;have hv:=he.ev x;split at h<;>first|exact h.elim|skip
  rename_i n hx;split at h<;>first|exact h.elim|skip
  rename_i kk i' hi;have AQ:=he.ev i;rw[hi]at AQ;have AQ:=AQ.DQ;obtain⟨sz,hs,h⟩:=zM h;split at h
  ·rename_i len Jm;obtain⟨hb,⟨h0,h1⟩,hk⟩:=zK h;have b1:=jb hb;subst b1;obtain⟨a,c',sub,q1,q2,q3,q4⟩:=Xw R Jm;rw[hx]at hv;simp only[VR]at hv;obtain⟨l,e1,_⟩:=hv;rw[q1]at e1;obtain⟨b,oo,ll,T,fr,rfl,r2,r3⟩:=Kt q4 (by omega);have e1:=bc e1;have e2:ev ρ x= .slice (ap ⟨b,oo,aq⟩) len c':=(congrArg Prod.fst e1).symm;refine⟨_,.pointer (ap ⟨b,oo+i'.toNat*1+0,aq⟩),hk,by simp only[VR];exact⟨_,_,_,_,_,q1,rfl⟩,?_⟩;simp only[ae,ho,e2,AQ];refine yF ?_;rw[jW hs ⟨h0,by omega⟩,uD];rfl
  split at h
  ·rename_i xh hxh;obtain⟨hb,⟨h0,h1⟩,hk⟩:=zK h;have b1:=jb hb;subst b1;obtain⟨a,c',sub,ys,xs,q1,q2,q3,q4,q5⟩:=R.vf hxh;rw[hx]at hv;simp only[VR]at hv;obtain⟨l,e1,_⟩:=hv;rw[q1]at e1;obtain⟨b,oo,ll,T,fr,rfl,r2,r3⟩:=Kt q5 (by omega);have e1:=bc e1;have e2:ev ρ x= .slice (ap ⟨b,oo,aq⟩) xh.ez.length c':=(congrArg Prod.fst e1).symm;refine⟨_,.pointer (ap ⟨b,oo+i'.toNat*xh.sz+0,aq⟩),hk,by simp only[VR];exact⟨_,_,_,_,_,q1,rfl⟩,?_⟩;simp only[ae,ho,e2,AQ];refine yF ?_;rw[jW hs ⟨h0,by omega⟩,uD];rfl
  obtain⟨⟨oA,ez⟩,hd,h⟩:=zM h;obtain⟨hb,⟨h0,h1⟩,hk⟩:=zK h;have:=jb hb;simp only at this;subst this;simp only at h1;rw[hx]at hv;have Jh:=hv;simp only[VR]at Jh;obtain⟨sub,e1,_⟩:=Jh;obtain⟨a,c',xs,q1,q2,q3,q4,q5⟩:=aV R hv hd;obtain⟨b,oo,l,T,fr,rfl,e2,e3⟩:=Kt q5 (by omega);rw[q1]at e1;refine⟨_,.pointer (ap ⟨b,oo+i'.toNat*sz+0,aq⟩),hk,by simp only[VR];exact⟨_,_,_,_,_,e1,rfl⟩,?_⟩;simp only[ae,ho,q1,AQ];refine yF ?_;rw[jW hs ⟨h0,by omega⟩,uD];rfl
 case binOp op t x y u=>
  simp only[sr,ho]at h;split at h<;>first|exact h.elim|skip
  rename_i n hx;obtain⟨hb,h⟩:=zK h;simp only[lr]at hb;obtain⟨⟨oA,ez⟩,hd,hk⟩:=zM h;have hv:=he.ev x;rw[hx]at hv;obtain⟨a,c',xs,q1,q2,q3,q4,q5⟩:=aV R hv hd;obtain⟨v,y',h1,h2,h3⟩:=zRa (E:=E) ho hb.1 hb.2 q1 (λha=>by
   obtain⟨z,hz,_⟩:=q5;rcases hz with⟨h1,_⟩|⟨_,_,_,_,_,h1,_⟩
   ·exact yh h1
   ·rw[ha]at h1;cases h1) hk
  exact⟨v,y',h1,h2,h3 w⟩
 case convert st d x=>
  simp only[sr,ho]at h;obtain⟨hb,h⟩:=zK h;simp only[lr]at hb;obtain⟨⟨oA,ez⟩,hd,h⟩:=zM h;obtain⟨b,rfl,rfl,hk⟩:=h;obtain⟨a,c',xs,q1,q2,q3,q4,q5⟩:=aV R (he.ev x) hd;refine⟨_,.string b,hk,jV rfl,?_⟩;obtain⟨e,hes,hu⟩:=yFw hb.1;simp only[ae,ho,q1];refine yF ?_;have vp:=z5n (P:=P) q3;obtain⟨r1,hfc,r3⟩:=Oe (P:=P) (.inl ⟨a,c',rfl,q5⟩);rcases a with _|ad
  ·obtain⟨x,hx,hs⟩:=q5;have hz:(jI b).length=0:=by
    rcases hx with⟨h1,_⟩|⟨_,_,_,_,_,h1,_⟩
    ·exact h1
    ·cases h1
   have hb0:b= .empty:=by
    unfold jI at hz;simp at hz;simpa using hz
   subst hb0;simp only[convert,bind,run_bind,Cv.run_underlying hes,Cv.run_underlying (nY hb.2),Cv.run_underlying hu];rfl
  ·simp only[cw,Nat.mul_one]at hfc;rw[vp]at hfc;simp only[convert,bind,run_bind,Cv.run_underlying hes,Cv.run_underlying (nY hb.2),Cv.run_underlying hu,Conv.bytesToString,hfc];rw[<- Array.forIn_toList];simp only[bind,pure];rw[zGz (P:=P) w (λ_ _=>rfl) _ .empty];simp only[ce];congr 2;rw[Cv.Gm];apply ByteArray.ext;simp
 case call c=>
  simp only[sr,ho]at h;split at h<;>first|exact h.elim|skip
  rename_i hc;obtain⟨ys,e1,e2⟩:=aE he c.args;split at h<;>first|exact h.elim|skip
  ·rename_i n nt;obtain⟨t,ht,h⟩:=zM h;obtain⟨hs,h⟩:=zK h;split at h
   ·rename_i len Jm;rw[nt]at e2;simp only[gw,VR]at e2;obtain⟨y,_,rfl,⟨l,hv,_⟩,rfl⟩:=e2;obtain⟨a,c',sub,q1,q2,q3,q4⟩:=Xw R Jm;rw[hv]at q1;have e3:y= .slice a len c':=congrArg Prod.fst (bc q1);subst e3;refine⟨_,.int .i64 len,h,jV rfl,?_⟩;rw[j7 ho hc,e1];obtain⟨e,K1⟩:=eT hs;refine yF ?_;simp only[cu,ht,AO,CK,bind,run_bind,Cv.run_underlying K1];rfl
   obtain⟨⟨oA,ez⟩,hd,hk⟩:=zM h;rw[nt]at e2;simp only[gw]at e2;obtain⟨y,_,rfl,hv,rfl⟩:=e2;obtain⟨a,c',xs,rfl,q2,q3,q4,q5⟩:=aV R hv hd;refine⟨_,.int .i64 ez.length,hk,jV rfl,?_⟩;rw[j7 ho hc,e1];obtain⟨e,K1⟩:=eT hs;refine yF ?_;simp only[cu,ht,AO,CK,bind,run_bind,Cv.run_underlying K1];rfl
  ·rename_i n nt;obtain⟨t,ht,h⟩:=zM h;obtain⟨hs,h⟩:=zK h;split at h<;>first|exact h.elim|skip
   rename_i es hg;rw[nt]at e2;simp only[gw,VR]at e2;obtain⟨y,_,rfl,⟨bm,sub,e3,rfl⟩,rfl⟩:=e2;obtain⟨hd,x,q1,q2,q3⟩:=R.row hg (by simp);rw[e3]at q1;cases q1;simp only[fm]at q2;obtain⟨b,fy,ck,e4,e5,e6,rfl⟩:=q2;cases e4;have hm:=q3 bm _ (by simp[one];rfl);have hl:fy.length=es.length:=by
    clear q3 hm hg h e6
    induction es generalizing fy with
    |nil=>simp only[MR]at e5;rw[e5];rfl
    |cons p es ih=>obtain⟨m,ms,rfl,_,_,e5⟩:=e5;simp[ih _ e5]
   refine⟨_,.int .i64 es.length,h,jV rfl,?_⟩;rw[j7 ho hc,e1];obtain⟨kt,e,K1⟩:=z1u hs;refine yF ?_;simp only[cu,ht,AO,CK,bind,run_bind,Cv.run_underlying K1,qM hm trivial];simp[pure,ce,goInt,hl]
 case lookup t x i ok=>
  simp only[sr,ho]at h;split at h<;>first|exact h.elim|skip
  rename_i n hx;split at h<;>first|exact h.elim|skip
  rename_i es hg;obtain⟨ke,BO,h⟩:=zM h;obtain⟨kv,HK,h⟩:=zM h;obtain⟨Pw,h⟩:=zK h;obtain⟨z,hz,BR,b,h⟩:=zM h;obtain⟨ds,Pu,h⟩:=aC h;obtain⟨v,hm,hk⟩:=zM h;have hv:=he.ev x;rw[hx]at hv;simp only[VR]at hv;obtain⟨bm,sub,e1,e2⟩:=hv;obtain⟨hd,x',q1,q2,q3⟩:=R.row hg (by simp);rw[e1]at q1;cases q1;simp only[fm]at q2;obtain⟨b',fy,ck,e4,e5,e6,rfl⟩:=q2;rw[e2]at e4;cases e4;have Nu:=q3 bm _ (by simp[one];rfl);have hi:ev ρ i=kv:=eM HK (he.ev i);obtain⟨kd,hu,yy⟩:=T7 Pw;have Eh:∀v,GK P ke.2 z=ap v->∃zv,pB P ke.2=ap zv/\VR E v zv:=λv hv=>yIe hz hv
  refine⟨bif ok then .ja [v,.d (.v (.bool b))]else v,?_⟩;have run:∃y,VR E v y/\(cd t (.map (ap bm)) kv ok).run P w= .ok (if ok then .tuple #[y,.bool b]else y) w:=by
   rcases MC yy 0 e5 BR with⟨r1,r2,r3,r4,_⟩|⟨q,m,CW,ys,r1,r2,r3,r4,r5,r6,r7,r8,_⟩
   ·rcases Pu with⟨l1,l2⟩|⟨l1,l2,l3⟩
    ·rw[r2]at l1;cases l1
    ·subst l2 l3;obtain⟨zv,z1,z2⟩:=Eh v hm;refine⟨zv,z2,?_⟩;simp only[cd,bind,run_bind,Cv.run_underlying (uR BO),qM Nu trivial,pure,ce,jT hu yy,wV hu r1,me (cF z1)]
   ·rcases Pu with⟨l1,l2⟩|⟨l1,l2,l3⟩
    ·rw[r4]at l1;cases l1;subst l2;refine⟨rI ys,Wa hm r5,?_⟩;simp only[cd,bind,run_bind,Cv.run_underlying (uR BO),qM Nu trivial,pure,ce,jT hu yy,wV hu r1,r6]
    ·rw[r4]at l1;cases l1
  obtain⟨y,hy,jk⟩:=run;refine⟨if ok then .tuple #[y,.bool b]else y,hk,?_,?_⟩
  ·cases ok
   ·exact hy
   ·simp only[cond_true,if_true,VR,gw,DR];exact⟨[y,.bool b],rfl,y,_,rfl,hy,_,_,rfl,⟨rfl,rfl⟩,rfl⟩
  ·simp only[ae,ho,e2,hi];exact yF jk
 all_goals(simp only[sr,ho]at h)
variable {P:ab} {k:Ko} {L:List HP} {E:Ev} {s:St} {w:af}
def yMg {α:Type _} {w:af} {f g:α->HP} (h:∀a x,f a x->g a x):∀{l:List α} {M:List HP} {hs:List PH},Hs w (l.map f++M) hs->Hs w (l.map g++M) hs
 |[],M,hs,H=>H
 |a::l,M,hs,H=>by
  simp only[jx,uc]at H ⊢;cases H with
  |cons ha iY hd hr=>exact .cons (h _ _ ha) iY hd (yMg h hr)
def wS {α:Type _} {f g:α->HP} (h:∀a x,f a x->g a x) {l:List α} {M:List HP} (H:Hp k w (l.map f++M)):Hp k w (l.map g++M):=
 ⟨H.1,let⟨hs,hh⟩:=H.2;⟨hs,yMg h hh⟩⟩
def We {A:HP} {F:PH} {M:List HP} (H:Hp k w (A::fz F::M)):∃x,A x/\Dj x F/\Sub x w/\Hp k w (fz (un x F)::M):=by
 obtain⟨hk,hs,hh⟩:=H;cases hh with
 |cons ha iY hd hr=>
  cases hr with
  |cons hf xl PE hr=>
   simp only[fz]at hf;obtain⟨rfl,hgt⟩:=hf;refine⟨_,ha,hd _ jm,iY,hk,_,.cons ⟨rfl,hgt.mono (λb o e=>by
    rcases hd _ jm b with h|h
    ·simp[un,h,e]
    ·rw[e]at h;cases h)⟩ (yGv iY xl) (λg hg=>z8x (hd g (kg _ hg)) (PE g hg)) hr⟩
def ZW {x F:PH} (d:Dj x F):xg F (un x F):=λb o e=>by
 rcases d b with h|h
 ·simp[un,h,e]
 ·rw[e]at h;cases h
def Rel.new (R:Rel k L E s w) {o:fi} {O:Obj} {hd:Hd} (h:fm E.F o (E.gf++[hd]) hd (one w.heap.size O)):E.le ⟨E.F,E.gf++[hd]⟩/\Rel k L ⟨E.F,E.gf++[hd]⟩ (s.new o) (w.alloc O)/\(E.gf++[hd])[s.nx]? =ap hd:=by
 have hle:E.le ⟨E.F,E.gf++[hd]⟩:=⟨xg.refl _,I9 _ _⟩
 have kf:(E.gf++[hd])[s.nx]? =ap hd:=by rw[<- R.nx];simp
 refine⟨hle,⟨by simp[St.new,R.nx],?_⟩,kf⟩;have H:=R.hp.new O;have H1:Hp k (w.alloc O) (s.rows.map (gz E)++(pt w.heap.size O::fz E.F::L)):=H.perm (mo (l₁:=s.rows.map (gz E))).symm;have H2:=wS (λr x=>gz.mono hle r) H1;have H3:Hp k (w.alloc O) (pt w.heap.size O::(s.rows.map (gz ⟨E.F,E.gf++[hd]⟩)++fz E.F::L)):=H2.perm mo;exact H3.imp λx hx=> .inr ⟨hd,kf,by rw[show x=one w.heap.size O from hx];exact h⟩
def Rel.freeze (R:Rel k L E s w) {n t sz:Nat} {ez:List (List D)} (h:s.get n=ap (.own t sz ez)):∃E',E.le E'/\E'.gf=E.gf/\Rel k L E' (s.set n (.jc sz ez)) w:=by
 have H:Hp k w (gz E (n,.own t sz ez)::fz E.F::((vK n s.rows).map (gz E)++L)):=(R.focus h).cons mo;obtain⟨x,hx,hd,iY,H⟩:=We H;rcases hx with⟨e,_⟩|⟨hv,h1,h2⟩
 ·cases e
 simp only[fm]at h2;obtain⟨a,c,xs,h3,h4,h5,h6⟩:=h2;have hle:E.le ⟨un x E.F,E.gf⟩:=⟨ZW hd,I6 _⟩
 refine⟨⟨un x E.F,E.gf⟩,hle,rfl,?_⟩;have H1:Hp k w ((vK n s.rows).map (gz E)++fz (un x E.F)::L):=H.perm mo.symm;have H2:=wS (λr x=>gz.mono hle r) H1;have H3:Hp k w (gz ⟨un x E.F,E.gf⟩ (n,.jc sz ez)::((vK n s.rows).map (gz ⟨un x E.F,E.gf⟩)++fz (un x E.F)::L)):=by
  have:=(@h9 k w True _).2 ⟨trivial,H2⟩;refine this.imp λy hy=> .inr ⟨hv,h1,?_⟩
  simp only[fm];refine⟨hy.2,?_⟩;simp only[DR];refine⟨a,c,h3,(SY h6).2,h5,?_⟩;rcases h6 with⟨rfl,q2,rfl,rfl,rfl⟩|⟨b,r,rfl,rfl,q3,q4,q5⟩
  ·exact .inl (yh q2)
  ·refine .inr ⟨b,0,xs++r,t,(0,0),rfl,?_,oR.2 ⟨xs,r,rfl,h4.mono hle.1⟩⟩;simp[un,one]
 refine⟨by simpa[St.set]using R.nx,H3.perm ?_⟩;have:=(((vN h).2 (.jc sz ez)).map (gz ⟨un x E.F,E.gf⟩)).append_right (fz (un x E.F)::L);simpa[St.set]using this.symm
def KI (s:St):V->Option (D×St)
 | .d d=>ap (d,s)
 | .own n=>match s.get n with
   |some (.own _ sz ez)=>ap (.ro sz ez,s.set n (.jc sz ez))
   |some (.jc sz ez)=>ap (.ro sz ez,s)
   |_=>aq
 |_=>aq
def OH (s:St):List V->Option (List D×St)
 |[]=>ap ([],s)
 |v::l=>match KI s v with
  |some (d,s')=>match OH s' l with
   |some (ds,s2)=>ap (d::ds,s2)
   |none=>aq
  |none=>aq
def Ob (R:Rel k L E s w) {v:V} {d:D} {s':St} (h:KI s v=ap (d,s')) {y:aa} (hv:VR E v y):∃E',E.le E'/\E'.gf=E.gf/\Rel k L E' s' w/\s'.nx=s.nx/\DR E'.F d y:=by
 unfold KI at h;split at h<;>first|(cases h;done)|skip
 ·cases h;exact⟨E,Ev.le.refl _,rfl,R,rfl,by simpa only[VR]using hv⟩
 ·rename_i n;simp only[VR]at hv;obtain⟨sub,h1,_⟩:=hv;split at h<;>first|(cases h;done)|skip
  ·rename_i t sz ez hg;cases h;obtain⟨E',q1,q2,q3⟩:=R.freeze hg;refine⟨E',q1,q2,q3,rfl,?_⟩;have qd:(s.set n (.jc sz ez)).get n=ap (.jc sz ez):=by
    simp only[St.get,St.set];have:∀l:List (Nat×fi),lD n l≠aq->lD n (sR n (.jc sz ez) l)=ap (.jc sz ez):=by
     intro l
     induction l with
     |nil=>intro h;exact absurd rfl h
     |cons p l ih=>
      obtain⟨m,o⟩:=p;intro h;simp only[lD,sR]at h ⊢;cases hb:be m n
      ·rw[hb]at h;simp only[lD,hb,cond_false]at h ⊢;exact ih h
      ·simp only[lD,hb,cond_true]
    exact this _ (by simp only[St.get]at hg;rw[hg];simp)
   obtain⟨hd,x,e1,e2,e3⟩:=q3.row qd (by simp);rw[q2,h1]at e1;cases e1;simp only[fm]at e2;exact e2.2
  ·rename_i sz ez hg;cases h;obtain⟨hd,x,e1,e2,e3⟩:=R.row hg (by simp);rw[h1]at e1;cases e1;simp only[fm]at e2;exact⟨E,Ev.le.refl _,rfl,R,rfl,e2.2⟩
def yBz:∀{vs:List V} {s:St} {E:Ev} (R:Rel k L E s w) {ds:List D} {s':St} (h:OH s vs=ap (ds,s')) {ys:List aa} (hv:gw E vs ys),
 ∃E',E.le E'/\E'.gf=E.gf/\Rel k L E' s' w/\s'.nx=s.nx/\iF E'.F ds ys
 |[],s,E,R,ds,s',h,ys,hv=>by
  simp only[OH,ba,ct]at h;obtain⟨rfl,rfl⟩:=h;simp only[gw]at hv;exact⟨E,Ev.le.refl _,rfl,R,rfl,by simpa only[iF]using hv⟩
 |v::vs,s,E,R,ds,s',h,ys,hv=>by
  simp only[OH]at h;simp only[gw]at hv;obtain⟨y,ys,rfl,h1,h2⟩:=hv;split at h<;>first|(cases h;done)|skip
  rename_i d s1 hd;split at h<;>first|(cases h;done)|skip
  rename_i ds s2 hds;cases h;obtain⟨E1,q1,q2,q3,q4,q5⟩:=Ob R hd h1;obtain⟨E2,r1,r2,r3,r4,r5⟩:=yBz q3 hds (h2.mono q1);exact⟨E2,q1.trans r1,r2.trans q2,r3,r4.trans q4,by simp only[iF];exact⟨_,_,rfl,q5.mono r1.1,r5⟩⟩
def ZA:D->Bool
 | .v (.slice aq 0 0)=>ar
 |_=>au
def lR (P:ab):List ac->List D->List D
 |t::ts,d::ds=>(match gC P t with
  |some sz=>bif ZA d then .ro sz []else d
  |none=>d)::lR P ts ds
 |_,ds=>ds
def Xi {F:PH}:∀{ts:List ac} {ds:List D} {ys:List aa},iF F ds ys->iF F (lR P ts ds) ys
 |[],ds,ys,h=>by unfold lR;exact h
 |t::ts,[],ys,h=>by unfold lR;exact h
 |t::ts,d::ds,ys,h=>by
  unfold lR;simp only[iF]at h ⊢;obtain⟨x,xs,rfl,h1,h2⟩:=h;refine⟨x,xs,rfl,?_,Xi h2⟩;split
  ·cases hb:ZA d
   ·exact h1
   ·unfold ZA at hb;split at hb
    ·simp only[DR]at h1;obtain⟨rfl,_⟩:=h1;simp only[cond_true,DR];exact⟨aq,0,rfl,lk _,by simp,.inl trivial⟩
    ·cases hb
  ·exact h1
def zTq:∀(ts:List ac) (ds:List D),(lR P ts ds).length=ds.length
 |[],ds=>by unfold lR;rfl
 |t::ts,[]=>by unfold lR;rfl
 |t::ts,d::ds=>by unfold lR;simp[zTq ts ds]
def HR (P:ab) (s:St) (t:ac) (v:V):Option (List D×St):=
 bif lY v then(match OH s v.cl with
  |some (ds,s')=>ap (lR P (Of P 6 t) ds,s')
  |none=>aq)else aq
def nD {α:Type _} {b:Bool} {x:Option α} {v:α} (h:(bif b then x else aq)=ap v):b=ar/\x=ap v:=by
 cases b
 ·cases h
 ·exact⟨rfl,h⟩
def Mq (R:Rel k L E s w) {t:ac} {v:V} {ds:List D} {s':St} (h:HR P s t v=ap (ds,s')) {y:aa} (hv:VR E v y):
 ∃E' ys,E.le E'/\E'.gf=E.gf/\Rel k L E' s' w/\s'.nx=s.nx/\y.cells=ys.toArray/\iF E'.F ds ys:=by
 unfold HR at h;obtain⟨hb,h⟩:=nD h;split at h<;>first|(cases h;done)|skip
 rename_i ds0 s0 hf;cases h;obtain⟨l,hl,Nl⟩:=VR.cells hb hv;obtain⟨E',q1,q2,q3,q4,q5⟩:=yBz R hf Nl;exact⟨E',l,q1,q2,q3,q4,hl,Xi q5⟩
variable {P:ab} {k:Ko} {L:List HP} {E:Ev} {s:St} {w:af}
def EF (F:PH) (T:Type) (m:Nat) (iC:T->Nat->fi) (x:T) (p:aa) (l0:List aa):HP:=λh=>
 ∃jw:List Hd,jw[0]? =ap (p,l0)/\jw.length=m/\hS ((av m).map λj=>λh=>∃oL,jw[j]? =ap oL/\fm F (iC x j) jw oL h) h
def xU (F:PH) (T:Type) (m:Nat) (iC:T->Nat->fi) (l:List T) (sub:List aa) (hole:Option Nat) (i:Nat):HP:=λh=>
 if hole=ap i then h=pe else ∃x p l0,l[i]? =ap x/\sub[i]? =ap p/\EF F T m iC x p l0 h
def Ul (sub:List aa):Prop:=∀p∈sub,∃b oo,p=.pointer (ap ⟨b,oo,aq⟩)
def qq {F:PH} {t:Nat} {T:Type} {m:Nat} {iC:T->Nat->fi} {l:List T} {hole:Option Nat} {gf:List Hd} {hd:Hd} {h:PH}:
 fm F (.jz t T m iC l hole) gf hd h↔∃a c,hd.1= .slice a l.length c/\hd.2.length=l.length/\Ul hd.2/\PO (oq t 1 a l.length c hd.2) (hS ((av l.length).map (xU F T m iC l hd.2 hole))) h:=by
 simp only[fm];constructor
 ·rintro⟨a,c,h1,h2,h3,g,g',h4,h5,h6,h7⟩;refine⟨a,c,h1,h2,h3,g,g',h4,Ks (λi x hx=> ?_) h5,h6,h7⟩;unfold xU;split
  ·rename_i hi;rwa [fh hi]at hx
  ·rename_i hi;rw[fb hi]at hx;obtain⟨x,p,l0,jw,r1,r2,r3,r4,r5⟩:=hx;exact⟨x,p,l0,r1,r2,jw,r3,r4,r5⟩
 ·rintro⟨a,c,h1,h2,h3,g,g',h4,h5,h6,h7⟩;refine⟨a,c,h1,h2,h3,g,g',h4,Ks (λi x hx=> ?_) h5,h6,h7⟩;unfold xU at hx;split
  ·rename_i hi;rwa [fh hi]at hx
  ·rename_i hi;rw[fb hi]at hx;obtain⟨x,p,l0,r1,r2,jw,r3,r4,r5⟩:=hx;exact⟨x,p,l0,jw,r1,r2,r3,r4,r5⟩
def S8 (R:Rel k L E s w) {n t:Nat} {T:Type} {m:Nat} {iC:T->Nat->fi} {l:List T} {hole:Option Nat} (h:s.get n=ap (.jz t T m iC l hole)):
 ∃a c sub,E.gf[n]? =ap (.slice a l.length c,sub)/\sub.length=l.length/\Ul sub/\
  Hp k w (oq t 1 a l.length c sub::((av l.length).map (xU E.F T m iC l sub hole)++((vK n s.rows).map (gz E)++fz E.F::L))):=by
 obtain⟨hk,hs,hh⟩:=R.focus h;cases hh with
 |cons ha iY hd hr=>
  rcases ha with⟨e,_⟩|⟨⟨hv,sub⟩,h1,h2⟩
  ·cases e
  ·obtain⟨a,c,rfl,q2,q3,q4⟩:=qq.1 h2;refine⟨a,c,sub,h1,q2,q3,?_⟩;have H:Hp k w (PO (oq t 1 a l.length c sub) (hS ((av l.length).map (xU E.F T m iC l sub hole)))::((vK n s.rows).map (gz E)++fz E.F::L)):=⟨hk,_,.cons q4 iY hd hr⟩
   have H1:=uo.1 H;have H2:=qp.1 H1.swap;exact H2.perm mo
def Wl {n t:Nat} {T:Type} {m:Nat} {iC:T->Nat->fi} {l:List T} {hole:Option Nat} {a:Option am} {c:Nat} {sub:List aa} {M:List HP}
 (ht:E.gf[n]? =ap (.slice a l.length c,sub)) (hl:sub.length=l.length) (hp:Ul sub)
 (H:Hp k w (oq t 1 a l.length c sub::((av l.length).map (xU E.F T m iC l sub hole)++M))):Hp k w (gz E (n,.jz t T m iC l hole)::M):=by
 have H1:Hp k w ((av l.length).map (xU E.F T m iC l sub hole)++oq t 1 a l.length c sub::M):=H.perm mo.symm;have H2:=(qp.2 H1).swap;exact(uo.2 H2).imp λx hx=> .inr ⟨_,ht,qq.2 ⟨a,c,rfl,hl,hp,hx⟩⟩
def zLs {n i:Nat} (h:i<n):∃B,av n=av i++i::B/\∀j∈B,j≠i:=by
 refine⟨(av (n-i-1)).map (λj=>i+1+j),?_,λj hj=> ?_⟩
 ·have:n=i+(1+(n-i-1)):=by omega
  conv=>lhs;rw[this]
  rw[List.range_add,List.range_add,jr];simp[Function.comp_def,CH]
 ·obtain⟨q,_,rfl⟩:=pj.1 hj;omega
def yOa (H:Hp k w L):Hp k w ((λh=>h=pe)::L):=((@h9 k w True L).2 ⟨trivial,H⟩).imp λx hx=>hx.2
def yYt (H:Hp k w ((λh=>h=pe)::L)):Hp k w L:=((@h9 k w True L).1 (H.imp λx hx=>⟨trivial,hx⟩)).2
def yLd {F:PH} {T:Type} {m:Nat} {iC:T->Nat->fi} {l:List T} {sub:List aa} {M:List HP} {i:Nat} {x:T} {p:aa} (hx:l[i]? =ap x) (hp:sub[i]? =ap p)
 (H:Hp k w ((av l.length).map (xU F T m iC l sub aq)++M)):∃l0,Hp k w (EF F T m iC x p l0::((av l.length).map (xU F T m iC l sub (ap i))++M)):=by
 have hi:i<l.length:=(jv.1 hx).1;obtain⟨B,hB,ji⟩:=zLs hi;have e1:∀j,j≠i->xU F T m iC l sub aq j=xU F T m iC l sub (ap i) j:=λj hj=>by
  funext h;unfold xU;rw[fb (by simp),fb (by simp only[ba];omega)]
 have e2:xU F T m iC l sub (ap i) i=λh=>h=pe:=by funext h;unfold xU;rw[fh rfl]
 have ea:(av i).map (xU F T m iC l sub (ap i))=(av i).map (xU F T m iC l sub aq):=uv λj hj=>(e1 j (by have:=B5.1 hj;omega)).symm
 have eb:B.map (xU F T m iC l sub (ap i))=B.map (xU F T m iC l sub aq):=uv λj hj=>(e1 j (ji j hj)).symm
 rw[hB,jr,jx]at H ⊢;rw[ea,eb,e2];have H1:Hp k w (xU F T m iC l sub aq i::((av i).map (xU F T m iC l sub aq)++(B.map (xU F T m iC l sub aq)++M))):=by
  rw[jh]at H;exact H.perm mo
 obtain⟨l0,H2⟩:∃l0,Hp k w (EF F T m iC x p l0::((av i).map (xU F T m iC l sub aq)++(B.map (xU F T m iC l sub aq)++M))):=by
  obtain⟨hk,hs,hh⟩:=H1;cases hh with
  |cons ha iY hd hr=>
   unfold xU at ha;rw[fb (by simp)]at ha;obtain⟨x',p',l0,r1,r2,r3⟩:=ha;rw[hx]at r1;rw[hp]at r2;cases r1;cases r2;exact⟨l0,hk,_,.cons r3 iY hd hr⟩
 have H3:=yOa H2;rw[jh];refine⟨l0,H3.swap.cons ?_⟩;exact mo.symm
def yOz {F:PH} {T:Type} {m:Nat} {iC:T->Nat->fi} {l:List T} {sub:List aa} {M:List HP} {i:Nat} {x:T} {p:aa} {l0:List aa} (hi:i<l.length) (hp:sub[i]? =ap p)
 (H:Hp k w (EF F T m iC x p l0::((av l.length).map (xU F T m iC l sub (ap i))++M))):Hp k w ((av l.length).map (xU F T m iC (l.set i x) sub aq)++M):=by
 obtain⟨B,hB,ji⟩:=zLs hi;have e1:∀j,j≠i->xU F T m iC (l.set i x) sub aq j=xU F T m iC l sub (ap i) j:=λj hj=>by
  funext h;unfold xU;rw[fb (by simp),fb (by simp only[ba];omega),List.getElem?_set_ne (by omega)]
 have e2:xU F T m iC l sub (ap i) i=λh=>h=pe:=by funext h;unfold xU;rw[fh rfl]
 have ea:(av i).map (xU F T m iC (l.set i x) sub aq)=(av i).map (xU F T m iC l sub (ap i)):=uv λj hj=>e1 j (by have:=B5.1 hj;omega)
 have eb:B.map (xU F T m iC (l.set i x) sub aq)=B.map (xU F T m iC l sub (ap i)):=uv λj hj=>e1 j (ji j hj)
 rw[hB,jr,jx,jh]at H ⊢;rw[e2]at H;rw[ea,eb];have H1:Hp k w ((λh=>h=pe)::EF F T m iC x p l0::((av i).map (xU F T m iC l sub (ap i))++(B.map (xU F T m iC l sub (ap i))++M))):=
  H.perm ((co _ mo).trans (.swap _ _ _))
 have H2:=yYt H1;have H3:Hp k w (xU F T m iC (l.set i x) sub aq i::((av i).map (xU F T m iC l sub (ap i))++(B.map (xU F T m iC l sub (ap i))++M))):=H2.imp λh hh=>by
  unfold xU;rw[fb (by simp)];exact⟨x,p,l0,by rw[List.getElem?_set_self hi],hp,hh⟩
 exact H3.perm mo.symm
def yGw {F:PH} {T:Type} {m:Nat} {iC:T->Nat->fi} {l l2:List T} {sub sx:List aa} (hl:sub.length=l.length) {M:List HP}
 (H:Hp k w ((av l.length).map (xU F T m iC l sub aq)++((av l2.length).map (xU F T m iC l2 sx aq)++M))):
 Hp k w ((av (l++l2).length).map (xU F T m iC (l++l2) (sub++sx) aq)++M):=by
 rw[iv,List.range_add,jr,wb,jh];have ea:(av l.length).map (xU F T m iC (l++l2) (sub++sx) aq)=(av l.length).map (xU F T m iC l sub aq):=uv λj hj=>by
  have hj:=B5.1 hj;funext h;unfold xU;rw[fb (by simp),fb (by simp),Ec hj,Ec (by omega)]
 have eb:(av l2.length).map ((xU F T m iC (l++l2) (sub++sx) aq)∘(l.length+·))=(av l2.length).map (xU F T m iC l2 sx aq):=uv λj hj=>by
  funext h;simp only[Function.comp];unfold xU;rw[fb (by simp),fb (by simp),B7 (by omega),B7 (by omega)];rw[show l.length+j-l.length=j by omega,show l.length+j-sub.length=j by omega]
 rw[ea,eb];exact H
def zMf {n:Nat} {T:Type} {m:Nat} {iC:T->Nat->fi} {x:T} {p:aa} {l0:List aa} (ht:E.gf[n]? =ap (p,l0)) {h:PH} (H:gz E (n,.qw T m iC x) h):EF E.F T m iC x p l0 h:=by
 rcases H with⟨e,_⟩|⟨hd,h1,h2⟩
 ·cases e
 ·rw[ht]at h1;cases h1;simp only[fm]at h2;exact h2
def z0j {n:Nat} {T:Type} {m:Nat} {iC:T->Nat->fi} {x:T} {p:aa} {l0:List aa} (ht:E.gf[n]? =ap (p,l0)) {h:PH} (H:EF E.F T m iC x p l0 h):gz E (n,.qw T m iC x) h:=
 .inr ⟨_,ht,by simp only[fm];exact H⟩
def Rel.out {A:HP} {E:Ev} {s:St} (R:Rel k (A::L) E s w):Hp k w (A::(s.rows.map (gz E)++fz E.F::L)):=by
 refine R.hp.perm ?_;have:(fz E.F::A::L).Perm (A::fz E.F::L):= .swap _ _ _;exact(this.append_left _).trans mo
def Rel.Jf {A:HP} {E:Ev} {s:St} (hn:E.gf.length=s.nx) (H:Hp k w (A::(s.rows.map (gz E)++fz E.F::L))):Rel k (A::L) E s w:=by
 refine⟨hn,H.perm ?_⟩;have:(fz E.F::A::L).Perm (A::fz E.F::L):= .swap _ _ _;exact((this.append_left _).trans mo).symm
def Rel.qg {A B:HP} {E:Ev} {s:St} (R:Rel k (A::L) E s w) (h:∀x,A x->B x):Rel k (B::L) E s w:=Rel.Jf R.nx (R.out.imp h)
def Rel.take {E:Ev} {s:St} (R:Rel k L E s w) {n:Nat} {o:fi} (h:s.get n=ap o):Rel k (gz E (n,o)::L) E (s.del n) w:=Rel.Jf R.nx (R.focus h)
def Rel.gl {E:Ev} {s:St} (R:Rel k L E s w) {n:Nat} {o:fi} (h:s.get n=ap o):Rel k (gz E (n,o)::L) E (s.Im n o) w:=by
 cases o with
 |jc sz ez=>
  obtain⟨hd,x,h1,h2,h3⟩:=R.row h (by simp);refine⟨R.nx,?_⟩;have H:Hp k w ((λh=>h=pe)::(s.rows.map (gz E)++fz E.F::L)):=yOa R.hp;simp only[fm]at h2;have H1:Hp k w (gz E (n,.jc sz ez)::(s.rows.map (gz E)++fz E.F::L)):=H.imp λy hy=> .inr ⟨hd,h1,by simp only[fm];exact⟨hy,h2.2⟩⟩
  refine H1.perm ?_;have:(gz E (n,.jc sz ez)::fz E.F::L).Perm (fz E.F::gz E (n,.jc sz ez)::L):= .swap _ _ _;exact mo.symm.trans (this.append_left _)
 |_=>exact R.take h
def Rel.Io (R:Rel k L E s w) {n t i:Nat} {T:Type} {m:Nat} {iC:T->Nat->fi} {l:List T} (h:s.get n=ap (.jz t T m iC l aq)) {x:T} (hx:l[i]? =ap x) {y:aa} (hv:VR E (.sub n i) y):
 ∃E1,E.le E1/\Rel k L E1 ((s.set n (.jz t T m iC l (ap i))).new (.qw T m iC x)) w/\VR E1 (.nm s.nx 0) y/\∃l0,E1.gf[s.nx]? =ap (y,l0):=by
 obtain⟨a,c,sub,h1,h2,h3,H⟩:=S8 R h;simp only[VR]at hv;obtain⟨hd,l',b,oo,e1,e2,e3⟩:=hv;rw[h1]at e1;cases e1;obtain⟨l0,H1⟩:=yLd hx e2 (H.perm mo.symm);have H2:Hp k w (oq t 1 a l.length c sub::((av l.length).map (xU E.F T m iC l sub (ap i))++(EF E.F T m iC x y l0::((vK n s.rows).map (gz E)++fz E.F::L)))):=
  H1.perm ((mo.symm.trans (cp _ (.swap _ _ _))).trans mo)
 have H3:=(Wl h1 h2 h3 H2).swap;have H4:Hp k w (EF E.F T m iC x y l0::((sR n (.jz t T m iC l (ap i)) s.rows).map (gz E)++fz E.F::L)):=by
  refine H3.cons ?_;have:=(((vN h).2 (.jz t T m iC l (ap i))).map (gz E)).append_right (fz E.F::L);simpa using this.symm
 have H5:Hp k w ((sR n (.jz t T m iC l (ap i)) s.rows).map (gz E)++(EF E.F T m iC x y l0::fz E.F::L)):=H4.perm mo.symm;have hle:E.le ⟨E.F,E.gf++[(y,l0)]⟩:=⟨xg.refl _,I9 _ _⟩
 have kf:(E.gf++[((y,l0):Hd)])[s.nx]? =ap (y,l0):=by rw[<- R.nx];simp
 have H6:=wS (λr x=>gz.mono hle r) H5;have H7:Hp k w (EF E.F T m iC x y l0::((sR n (.jz t T m iC l (ap i)) s.rows).map (gz ⟨E.F,E.gf++[(y,l0)]⟩)++fz E.F::L)):=H6.perm mo;refine⟨⟨E.F,E.gf++[(y,l0)]⟩,hle,⟨by simp[St.new,St.set,R.nx],?_⟩,by simp only[VR];exact⟨b,oo,l0,by rw[kf,e3],e3⟩,l0,kf⟩;exact H7.imp λz hz=>z0j (E:=⟨E.F,E.gf++[(y,l0)]⟩) kf hz
def Rel.Is (R:Rel k L E s w) {n t i z:Nat} {T:Type} {m:Nat} {iC:T->Nat->fi} {l:List T} {x:T} (ha:s.get z=ap (.qw T m iC x)) (h:(s.del z).get n=ap (.jz t T m iC l (ap i))) (hi:i<l.length)
 {y:aa} {l0:List aa} (hz:E.gf[z]? =ap (y,l0)) (hs:∀v sub,E.gf[n]? =ap (v,sub)->sub[i]? =ap y):Rel k L E ((s.del z).set n (.jz t T m iC (l.set i x) aq)) w:=by
 have R1:=R.take ha;obtain⟨a,c,sub,h1,h2,h3,H⟩:=S8 R1 h;have hp:=hs _ _ h1;have H1:Hp k w (gz E (z,.qw T m iC x)::((av l.length).map (xU E.F T m iC l sub (ap i))++(oq t 1 a l.length c sub::((vK n (s.del z).rows).map (gz E)++fz E.F::L)))):=by
  refine H.perm ?_;have p1:((vK n (s.del z).rows).map (gz E)++fz E.F::gz E (z,.qw T m iC x)::L).Perm (gz E (z,.qw T m iC x)::((vK n (s.del z).rows).map (gz E)++fz E.F::L)):=
   (cp _ (.swap _ _ _)).trans mo
  refine(co _ ((cp _ p1).trans mo)).trans ((cr _ _ _).trans (co _ mo.symm))
 have H2:=yOz hi hp (H1.imp λq hq=>zMf hz hq);have H3:Hp k w (gz E (n,.jz t T m iC (l.set i x) aq)::((vK n (s.del z).rows).map (gz E)++fz E.F::L)):=by
  refine Wl (a:=a) (c:=c) (sub:=sub) (by rw[qv];exact h1) (by rw[qv];exact h2) h3 ?_;rw[qv];exact H2.perm mo
 refine⟨by simpa[St.set,St.del]using R1.nx,H3.perm ?_⟩;have:=(((vN h).2 (.jz t T m iC (l.set i x) aq)).map (gz E)).append_right (fz E.F::L);simpa[St.set]using this.symm
def X7 {rows:List (Nat×fi)} {nx t:Nat} {T:Type} {m:Nat} {iC:T->Nat->fi} {l:List T} {a:Option am} {c:Nat} {sub:List aa} (hn:E.gf.length=nx) (hl:sub.length=l.length) (hp:Ul sub)
 (H:Hp k w (oq t 1 a l.length c sub::((av l.length).map (xU E.F T m iC l sub aq)++(rows.map (gz E)++fz E.F::L)))):
 ∃E',E.le E'/\Rel k L E' ⟨(nx,.jz t T m iC l aq)::rows,nx+1⟩ w/\VR E' (.own nx) (.slice a l.length c):=by
 have hle:E.le ⟨E.F,E.gf++[(.slice a l.length c,sub)]⟩:=⟨xg.refl _,I9 _ _⟩
 have kf:(E.gf++[((.slice a l.length c,sub):Hd)])[nx]? =ap (.slice a l.length c,sub):=by rw[<- hn];simp
 refine⟨⟨E.F,E.gf++[(.slice a l.length c,sub)]⟩,hle,⟨by simp[hn],?_⟩,by simp only[VR];exact⟨sub,kf,_,_,_,rfl⟩⟩;have H0:Hp k w (rows.map (gz E)++(oq t 1 a l.length c sub::((av l.length).map (xU E.F T m iC l sub aq)++fz E.F::L))):=by
  refine H.perm ?_;refine(co _ ?_).trans mo.symm;rw[<- jh,<- jh];exact cq _ A0
 have H1:=wS (λr x=>gz.mono hle r) H0;have H2:Hp k w (oq t 1 a l.length c sub::((av l.length).map (xU E.F T m iC l sub aq)++(rows.map (gz ⟨E.F,E.gf++[(.slice a l.length c,sub)]⟩)++fz E.F::L))):=by
  refine H1.perm (mo.trans (co _ ?_));rw[<- jh,<- jh];exact cq _ A0
 exact Wl (E:=⟨E.F,E.gf++[(.slice a l.length c,sub)]⟩) kf hl hp H2
def o7 (k:Ko) (L:List HP) (E:Ev) (K:V->St->Prop) (y:aa) (w':af):Prop:=∃E' v s',E.le E'/\Rel k L E' s' w'/\VR E' v y/\K v s'
@[reducible] def A7:=FuncId->List V->St->(V->St->Prop)->Prop
def HW (P:ab) (H:A7):Prop:=∀f args s K,H f args s K->∀(k:Ko) (L:List HP) (E:Ev) (w:af) (ys:List aa),Rel k L E s w->gw E args ys->nf P (callFunc f ys.toArray) w (o7 k L E K)
structure SlI where
 e:ac
 sz:Nat
 oB:Nat
 z:List D
def pD (P:ab) (t:ac):Option SlI:=
 match vT P t with
 |some (e,sz,oB,z)=>bif be z.size sz && z.toList.all (·.og)then ap ⟨e,sz,oB,lR P (Of P 6 e) (z.toList.map .v)⟩else aq
 |none=>aq
def yHs {F:PH}:∀{l:List aa},(l.all (·.og))=ar->iF F (l.map .v) l
 |[],_=>by simp[iF]
 |y::l,h=>by
  simp only[List.all_cons,lr]at h;simp only[jx,iF,DR];exact⟨y,l,rfl,⟨rfl,h.1⟩,yHs h.2⟩
def dD {P:ab} {t:ac} {i:SlI} (h:pD P t=ap i):∃z,vT P t=ap (i.e,i.sz,i.oB,z)/\z.size=i.sz/\i.z.length=i.sz/\∀F,iF F i.z z.toList:=by
 unfold pD at h;split at h<;>first|(cases h;done)|skip
 rename_i e sz oB z hz;obtain⟨hb,h⟩:=nD h;cases h;simp only[lr]at hb;have h1:=jb hb.1;exact⟨z,hz,h1,by rw[zTq,im,Ja,h1],λF=>Xi (yHs hb.2)⟩
def ML {α:Type} (l:List α) (o:Nat) (vs:List α):List α:=l.take o++(vs++l.drop (o+vs.length))
def z0l {α:Type} {sz:Nat}:∀{ez:List (List α)} (i:Nat) (ds:List α),(∀el∈ez,el.length=sz)->i<ez.length->ds.length=sz->
 (ez.set i ds).flatten=ML ez.flatten (i*sz) ds
 |[],i,ds,_,h,_=>by simp at h
 |el::ez,0,ds,hu,h,hd=>by
  simp only[OP,AM,ML,bo,Hu,xj,oa];rw[hd,<- hu el jm,az]
 |el::ez,i+1,ds,hu,h,hd=>by
  have ih:=z0l (ez:=ez) i ds (λe he=>hu e (kg _ he)) (by simpa using h) hd;simp only[OO,AM,ML]at ih ⊢;rw[ih];have e1:=hu el jm;rw[zj,EI (i*sz) sz,List.take_append,KQ,e1];rw[oh (show el.length<=sz+i*sz by omega),show sz+i*sz-sz=i*sz by omega,Hz (show el.length<=sz+i*sz+ds.length by omega),show sz+i*sz+ds.length-sz=i*sz+ds.length by omega];simp
def Oa {F:PH} {ds es:List D} {l m:List aa} (h1:iF F ds l) (h2:iF F es m) (o:Nat):iF F (ds.take o++(es++ds.drop (o+es.length))) (kj l o m):=by
 unfold kj;rw[jh];have:=h2.length;rw[this];exact(h1.take o).append (h2.append (h1.drop _))
def Ov (P:ab) (e sz:Nat):St->List (Nat×V)->List (List D)->Option (List (List D)×St)
 |s,[],ez=>ap (ez,s)
 |s,(i,v)::ps,ez=>match HR P s e v with
  |some (ds,s')=>bif be ds.length sz && bu i ez.length then Ov P e sz s' ps (ez.set i ds)else aq
  |none=>aq
def yQl {α:Type} {sz:Nat} {ez:List (List α)} {i:Nat} {ds:List α} (hu:∀el∈ez,el.length=sz) (hd:ds.length=sz):∀el∈ez.set i ds,el.length=sz:=by
 intro el oT;rcases List.mem_or_eq_of_mem_set oT with h|rfl
 ·exact hu el h
 ·exact hd
def z0a {P:ab} {k:Ko} {L:List HP} {w:af} {e sz:Nat}:∀{ps:List (Nat×V)} {E:Ev} {s:St} (R:Rel k L E s w) {ez lj:List (List D)} {s':St} {qs:List (Nat×aa)} {cs:List aa},
 Ov P e sz s ps ez=ap (lj,s')->BV E ps qs->(∀el∈ez,el.length=sz)->iF E.F ez.flatten cs->
 ∃E' Ce,E.le E'/\E'.gf=E.gf/\Rel k L E' s' w/\s'.nx=s.nx/\(∀el∈lj,el.length=sz)/\lj.length=ez.length/\iF E'.F lj.flatten Ce/\Instr.fill (λi=>ap (i*sz,sz)) cs.toArray qs=ap Ce.toArray
 |[],E,s,R,ez,lj,s',qs,cs,h,hp,hu,hc=>by
  simp only[Ov,ba,ct]at h;obtain⟨rfl,rfl⟩:=h;simp only[BV]at hp;subst hp;exact⟨E,cs,Ev.le.refl _,rfl,R,rfl,hu,rfl,hc,rfl⟩
 |(i,v)::ps,E,s,R,ez,lj,s',qs,cs,h,hp,hu,hc=>by
  simp only[Ov]at h;simp only[BV]at hp;obtain⟨y,qs,rfl,hv,hp⟩:=hp;split at h<;>first|(cases h;done)|skip
  rename_i ds s1 hd;obtain⟨hb,h⟩:=nD h;simp only[lr]at hb;have hlen:=jb hb.1;have hi:i<ez.length:=by simpa[yf]using hb.2
  obtain⟨E1,ys,q1,q2,q3,q4,q5,q6⟩:=Mq R hd hv;have Ve:BV E1 ps qs:=by
   have:∀{ps:List (Nat×V)} {qs:List (Nat×aa)},BV E ps qs->BV E1 ps qs:=by
    intro ps
    induction ps with
    |nil=>intro qs h;exact h
    |cons p ps ih=>obtain⟨i,v⟩:=p;intro qs h;obtain⟨y,ys,h1,h2,h3⟩:=h;exact⟨y,ys,h1,h2.mono q1,ih h3⟩
   exact this hp
  have Cd:iF E1.F (ez.set i ds).flatten (kj cs (i*sz) ys):=by
   rw[z0l i ds hu hi hlen];exact Oa (hc.mono q1.1) q6 (i*sz)
  obtain⟨E2,Ce,r1,r2,r3,r4,r5,r6,r7,r8⟩:=z0a q3 h Ve (yQl hu hlen) Cd;refine⟨E2,Ce,q1.trans r1,r2.trans q2,r3,r4.trans q4,r5,by rw[r6,qv],r7,?_⟩;have CP:ys.length=sz:=by rw[q6.length,hlen]
  have wm:cs.length=ez.length*sz:=by rw[hc.length,jS hu]
  have vt:i*sz+sz<=ez.length*sz:=by
   have:=wz sz (show i+1<=ez.length by omega);rwa [zj]at this
  have aaz:y.cells.size=sz:=by rw[q5,I8,CP]
  have HN:(decide (y.cells.size≠sz)||decide (i*sz+y.cells.size>cs.toArray.size))=au:=by
   rw[aaz,I8];simp;omega
  have Ft:y.cells.zipIdx.foldl (λ(cs:Array aa) (p:aa×Nat)=>cs.setIfInBounds (i*sz+p.2) p.1) cs.toArray=(kj cs (i*sz) ys).toArray:=by
   have hz:ys.toArray.zipIdx=(ys.zipIdx).toArray:=by
    apply cx;simp
   rw[q5,hz,List.foldl_toArray];rw[Xg (off:=i*sz) ys 0 cs (by omega)];rfl
  simp only[Instr.fill];rw[fb (by rw[HN];simp),Ft];exact r8
def eQ {z:List aa}:∀n,(GC z.toArray (n*z.length)).toList=(aw n z).flatten
 |0=>by simp[GC]
 |n+1=>by
  have ih:=eQ (z:=z) n;simp only[GC,I8]at ih ⊢;rw[KU,AM,<- ih,zj,EI,List.range_add,jr];congr 1
  ·apply Hw;intro i;rw[vc];by_cases hi:i<z.length
   ·rw[KT hi];simp only[we,Nat.mod_eq_of_lt hi];rw[nk];rw[vd hi];rfl
   ·rw[ue (by simpa using Nat.not_lt.1 hi),ue (Nat.not_lt.1 hi)];rfl
  ·rw[wb];refine uv λj _=> ?_
   simp only[Function.comp,Nat.add_mod_left]
def VD {F:PH} {ds:List D} {l:List aa} (h:iF F ds l):∀n,iF F (aw n ds).flatten (aw n l).flatten
 |0=>by simp[iF]
 |n+1=>by simp only[KU,AM];exact h.append (VD h n)
def N9 {α:Type} {ds:List α} {n sz:Nat} (h:ds.length=sz):∀el∈aw n ds,el.length=sz:=by
 intro el oT;rw[(List.mem_replicate.1 oT).2];exact h
def zV (ez:List (List D)) (i f:Nat) (ds:List D):List (List D):=ez.modify i λel=>el.take f++(ds++el.drop (f+ds.length))
def Uz:V->Bool
 | .top=>au
 | .agg _=>au
 | .ja _=>au
 |_=>ar
def OA:List V->Bool
 |[]=>ar
 |v::l=>bif Uz v then OA l else au
def z3g {E:Ev}:∀{vs:List V} {l:List aa},OA vs=ar->gw E vs l->∀y∈l,y.og=ar
 |[],l,_,h=>by simp only[gw]at h;subst h;simp
 |v::vs,l,hb,h=>by
  simp only[gw]at h;obtain⟨x,xs,rfl,h1,h2⟩:=h;simp only[OA]at hb;obtain⟨qe,nh⟩:Uz v=ar/\OA vs=ar:=by
   revert hb;generalize Uz v=b;cases b<;>simp
  intro y hy;rcases mn.1 hy with rfl|hy
  ·cases v<;>simp only[Uz,oK]at qe<;>simp only[VR]at h1
   ·rename_i d;exact iF.one (F:=E.F) (vs:=[d]) (l:=[y]) (by simp only[iF];exact⟨_,_,rfl,h1,rfl⟩) y (by simp)
   ·obtain⟨_,_,_,_,rfl⟩:=h1;rfl
   ·obtain⟨_,_,_,_,_,_,rfl⟩:=h1;rfl
   ·obtain⟨_,_,_,_,_,_,_,rfl,_⟩:=h1;rfl
   ·obtain⟨_,_,_,_,rfl⟩:=h1;rfl
   ·obtain⟨_,_,_,_,_,rfl⟩:=h1;rfl
   ·obtain⟨_,_,_,rfl⟩:=h1;rfl
   ·obtain⟨_,_,_,_,_,_,rfl⟩:=h1;rfl
   ·obtain⟨_,_,rfl,_⟩:=h1;rfl
   ·obtain⟨_,rfl,_⟩:=h1;rfl
  ·exact z3g nh h2 y hy
def Wg (s:St) (sz:Nat):V->Option (List (List D))
 | .d (.v (.slice aq 0 0))=>ap []
 | .d (.v (.string b))=>bif be sz 1 then ap (jI b)else aq
 |v=>match eG s v with
  |some (oA,ez)=>bif be sz oA then ap ez else aq
  |none=>aq
def Wi (P:ab) (t1 t2:ac) (s:St) (x y:V) (K:V->St->Prop):Prop:=
 iI (pD P t1) λi=>bif KF P t2 && bu 0 i.oB then iI (Wg s i.sz y) λys=>
  match x with
  | .d (.v (.slice aq 0 0))=>ys.length*i.oB<=140737488355328/\K (.own s.nx) (s.new (.own i.e i.sz ys))
  | .own n=>match s.get n with
    |some (.own T sz ez)=>bif be T i.e && be sz i.sz then(ez.length+ys.length)*i.oB<=140737488355328/\K (.own s.nx) ((s.del n).new (.own i.e i.sz (ez++ys)))else False
    |_=>False
  |_=>False else False
def Um:V->Bool
 | .agg l=> !(be l.length 1)
 | .d _=>ar
 |_=>au
def Mh:List V->St->(List V->St->Prop)->Prop
 |[],s,K=>K [] s
 |v::l,s,K=>match v with
  | .d (.ro sz ez)=>Mh l (s.new (.jc sz ez)) λl' s'=>K (.own s.nx::l') s'
  |v=>Mh l s λl' s'=>K (v::l') s'
def Xn (P:ab) (t1 t2:ac) (s:St) (x y:V) (K:V->St->Prop):Prop:=
 match y with
 | .own n2=>(match s.get n2 with
   |some (.jz _ T2 m2 vi l2 aq)=>iI (pD P t1) λi=>bif KF P t2 && bu 0 i.oB && be i.sz 1 then(match x with
    | .d (.v (.slice aq 0 0))=>l2.length*i.oB<=140737488355328/\K (.own s.nx) ((s.del n2).new (.jz i.e T2 m2 vi l2 aq))
    | .own n=>(match(s.del n2).get n with
      |some (.jz t1' T1 m1 P7 l1 aq)=>∃yw:List T2,fi.jz t1' T1 m1 P7 l1 aq=fi.jz i.e T2 m2 vi yw aq/\(yw.length+l2.length)*i.oB<=140737488355328/\K (.own s.nx) (((s.del n2).del n).new (.jz i.e T2 m2 vi (yw++l2) aq))
      |_=>False)
    |_=>False)else False
   |_=>False)
 |_=>False
def yJx (s:St):V->Bool
 | .own n=>match Ku s n with
   |some _=>ar
   |none=>au
 |_=>au
def yUl (n i a:Nat) (v:V) (s:St) (K:V->St->Prop):Prop:=
 match s.get a with
 |some o=>(match(s.del a).get n with
  |some (.jz t T m iC l (ap j))=>∃x:T,o=.qw T m iC x/\j=i/\i<l.length/\K v ((s.del a).set n (.jz t T m iC (l.set i x) aq))
  |_=>False)
 |none=>False
def yIz (H:A7) (f:FuncId) (args:List V) (s:St) (K:V->St->Prop):Prop:=
 match args with
 | .sub n i::rest=>(match s.get n with
   |some (.jz t T m iC l aq)=>∃x:T,l[i]?=ap x/\H f (.nm s.nx 0::rest) ((s.set n (.jz t T m iC l (ap i))).new (.qw T m iC x)) λv s'=>yUl n i s.nx v s' K
   |_=>False)
 |args=>H f args s K
def Uo (P:ab) (t:ac):Option ac:=
 match P.underlying t with
 |some (.slice e)=>(match P.underlying e with
  |some (.int .u8)=>ap e
  |_=>aq)
 |_=>aq
def zTm {P:ab} {t e:ac} (h:Uo P t=ap e):P.underlying t=ap (.slice e)/\P.underlying e=ap (.int .u8):=by
 unfold Uo at h;split at h<;>first|(cases h;done)|skip
 rename_i e' he;split at h<;>first|(cases h;done)|skip
 rename_i hu;cases h;exact⟨he,hu⟩
def Vz:List (Nat×V)->Option Nat
 |[(0,.nm m 0)]=>ap m
 |_=>aq
def Wj (P:ab) (t:ac) (x:wy) (n sz i f:Nat) (v:V) (s:St) (K:V->St->Prop):Prop:=
 bif be sz x.sz then(match v,gC P t with
  | .own c,ap _=>(match s.get c with
    |some (.own _ _ _)=>iI (nU P t) λm=>bif be m 1 && !(be n c)then(i<x.ez.length/\f<sz)/\(match x.q with
     |true=>(i=x.i/\f=x.f)/\K (.ja []) (s.set n (.vf ar x.T sz x.ez x.i x.f ar (ap c)))
     |false=>(i=x.i->f=x.f->K (.ja []) (s.set n (.vf au x.T sz x.ez x.i x.f ar (ap c))))/\(x.f<sz/\(¬(i=x.i/\f=x.f)->match HR P s t (.own c)with
      |some (ds,s')=>(match mL s' n with
       |some y=>bif be ds.length 1 then y=x/\K (.ja []) (s'.set n (.vf x.q x.T sz (zV x.ez i f ds) x.i x.f x.b x.m))else False
       |none=>False)
      |none=>False)))else False
    |_=>False)
  |v,_=>(match HR P s t v with
   |some (ds,s')=>(match mL s' n with
    |some y=>iI (nU P t) λm=>bif be ds.length m then(y=x/\i<x.ez.length/\f+m<=sz/\x.clear i f m)/\K (.ja []) (s'.set n (.vf x.q x.T sz (zV x.ez i f ds) x.i x.f x.b x.m))else False
    |none=>False)
   |none=>False))else False
def se (P:ab) (H:A7) (o:ak) (ρ:xA) (s:St) (K:V->St->Prop):Prop:=
 match o.op with
 | .alloc e=>iI (pB P e) λz=>bif lY (CL z)then K (.nm s.nx 0) (s.new (.cells (CL z).cl e))else False
 | .box e x=>bif lY (lz ρ x)then Mh (lz ρ x).cl s λvs s=>K (.nm s.nx 0) (s.new (.cells vs e))else False
 | .buildSlice t len ps=>match Vz (Kv ρ ps.toList)with
   |some m=>(match s.get m with
    |some (.qw T mm iC x)=>iI (pD P t) λi=>bif be i.sz 1 && be len 1 then K (.own s.nx) ((s.del m).new (.jz i.e T mm iC [x] aq))else False
    |_=>False)
   |none=>iI (pD P t) λi=>bif bg (len*i.sz) 16777216 then match Ov P i.e i.sz s (Kv ρ ps.toList) (aw len i.z)with
   |some (ez,s')=>K (.own s'.nx) (s'.new (.own i.e i.sz ez))
   |none=>False else False
 | .makeMap _ aq=>K (.mp s.nx) (s.new (.map []))
 | .makeSlice t l c=>match lz ρ l,lz ρ c with
   | .d (.v (.int _ l)),.d (.v (.int _ c))=>iI (pD P t) λi=>(0<=l/\l<=c/\c<=9223372036854775807/\(i.oB:Int)*c<=2 ^ 48)/\K (.own s.nx) (s.new (.own i.e i.sz (aw l.toNat i.z)))
   |_,_=>False
 | .store t x v=>match lz ρ x with
   | .nm n off=>bif lY (lz ρ v)then Mh (lz ρ v).cl s λus s=>match s.get n with
     |some (.cells vs T)=>iI (nU P t) λm=>bif be us.length m && bg (off+m) vs.length && OA us then
       K (.ja []) (s.set n (.cells (vs.take off++(us++vs.drop (off+m))) T))else False
     |_=>False
     else False
   | .el n sz i f=>match mL s n with
     |some x=>Wj P t x n sz i f (lz ρ v) s K
     |none=>match HR P s t (lz ρ v)with
     |some (ds,s')=>match s'.get n with
      |some (.own T oA ez)=>iI (nU P t) λm=>bif be sz oA && be ds.length m && bg (f+m) sz then i<ez.length/\K (.ja []) (s'.set n (.own T sz (zV ez i f ds)))else False
      |some (.GJ T ez)=>iI (nU P t) λm=>bif be sz 1 && be ds.length 1 && be m 1 && be f 0 then i<ez.length/\K (.ja []) (s'.set n (.GJ T (zV ez i 0 ds)))else False
      |_=>False
     |none=>False
   | .na n off i=>match lz ρ v with
     | .d (.v u)=>(match s.get n with
       |some (.cells vs T)=>iI (nU P t) λm=>bif be m 1 then i<(vs.drop off).length/\K (.ja []) (s.set n (.cells (vs.take off++(vs.drop off).set i (.d (.v u))) T))else False
       |some (.vec ds T)=>iI (nU P t) λm=>bif be m 1 then i<(ds.drop off).length/\K (.ja []) (s.set n (.vec (ds.take off++(ds.drop off).set i (.v u)) T))else False
       |_=>False)
     |_=>False
   |_=>False
 | .slice t x lo hi aq=>match lz ρ x with
   | .own n=>match s.get n with
     |some (.own T sz ez)=>iI (gC P t) λoA=>bif be sz oA then D8 (Gu ρ lo) (Gu ρ hi) λl h=>match l,h with
      |none,aq=>K (.own n) s
      |none,ap h=>(0<=h/\h<=ez.length)/\K (.own s.nx) ((s.del n).new (.own T sz (ez.take h.toNat)))
      |some l,h=>MS sz ez (ap l) h λv=>K v (s.set n (.jc sz ez))else False
     |some (.jc sz ez)=>iI (gC P t) λoA=>bif be sz oA then D8 (Gu ρ lo) (Gu ρ hi) λl h=>MS sz ez l h λv=>K v s else False
     |_=>False
   |_=>False
 | .mapUpdate t x i v=>match lz ρ x with
   | .mp n=>iI (Gv P t) λke=>iI (Gr (lz ρ i)) λkv=>bif MM P ke.1 kv && Um (lz ρ v)then(match HR P s ke.2 (lz ρ v)with
     |some (ds,s')=>(match s'.get n with
      |some (.map es)=>tD kv es/\K (.ja []) (s'.set n (.map (u9 kv ds es)))
      |_=>False)
     |none=>False)else False
   |_=>False
 | .mapEntry t x i=>match lz ρ x with
   | .mp n=>iI (Gv P t) λke=>iI (Gr (lz ρ i)) λkv=>bif MM P ke.1 kv then iI (Me P ke.2) λz=>(match s.get n with
     |some (.map es)=>tD kv es/\∃b,HA P ke.2 λds=>LK es kv z ds b/\iI (GK P ke.2 ds) λv=>∀x:Int,K (.ja [v,.d (.v (.int .i64 x))]) (s.set n (.Cl (u9 kv ds es) kv x))
     |_=>False)else False
   |_=>False
 | .entryStore t x st v=>match lz ρ x with
   | .mp n=>(match lz ρ st with
     | .d (.v (.int _ b))=>iI (Gv P t) λke=>bif Um (lz ρ v)then(match HR P s ke.2 (lz ρ v)with
       |some (ds,s')=>(match s'.get n with
        |some (.Cl es kv b')=>b=b'/\tD kv es/\K (.ja []) (s'.set n (.map (u9 kv ds es)))
        |_=>False)
       |none=>False)else False
     |_=>False)
   |_=>False
 | .convert st d x=>match lz ρ x with
   | .d (.v (.string b))=>bif Kr P st then iI (Uo P d) λe=>K (.own s.nx) (s.new (.GJ e (jI b)))else False
   | .own n=>match s.get n with
     |some (.own T sz ez)=>bif be st d && be sz 1 then iI (Uo P d) λe=>bif be T e then 1<=ez.length/\K (.own n) (s.set n (.jc sz ez))else False else False
     |_=>False
   |_=>False
 | .range t x=>match lz ρ x with
   | .d (.v (.string b))=>bif Kr P t then K (.nm s.nx 0) (s.new (.iter b 0))else False
   |_=>False
 | .next x ar=>match lz ρ x with
   | .nm n 0=>match s.get n with
     |some (.iter b pos)=>dq (bu pos b.size)
       (K (.ja [.d (.v (.bool ar)),.d (.v (.int .i64 (pos:Nat))),.d (.v (.int .i32 (Utf8.decode b pos).1))]) (s.set n (.iter b (pos+(Utf8.decode b pos).2))))
       (K (.ja [.d (.v (.bool au))]) s)
     |_=>False
   |_=>False
 | .call c=>match c.callee with
   | .value x=>match lz ρ x with
     | .fn f a b=>yIz H f (a++(CU ρ c.args.toList++b)) s K
     |_=>False
   | .builtin .append=>match c.argTypes.toList with
     |[t1,t2]=>match CU ρ c.args.toList with
      |[x,y]=>bif yJx s y then Xn P t1 t2 s x y K else Wi P t1 t2 s x y K
      |_=>False
     |_=>False
   | .builtin .delete=>match CU ρ c.args.toList with
     |[.mp n,y]=>iI c.argTypes[0]? λt=>iI (Gv P t) λke=>iI (Gr y) λkv=>bif MM P ke.1 kv then(match s.get n with
      |some (.map es)=>tD kv es/\K (.ja []) (s.set n (.map (BI kv es)))
      |_=>False)else False
     |_=>False
   |_=>False
 |_=>False
def uM {P:ab} {w:af} {r:Nat} {O O':Obj} (h:w.heap[r]? =ap O') (hO:match O' with| .cells _ _ _=>False|_=>True):(setObj r O).run P w= .ok () (World.iX w r O):=by
 simp only[setObj,ce,h];cases O'<;>first|exact hO.elim|rfl
def nC {sz:Nat}:∀{ez:List (List D)} (i f:Nat) (ds:List D),(∀el∈ez,el.length=sz)->i<ez.length->f+ds.length<=sz->
 (zV ez i f ds).flatten=ML ez.flatten (i*sz+f) ds/\∀el∈zV ez i f ds,el.length=sz
 |[],i,f,ds,_,h,_=>by simp at h
 |el::ez,0,f,ds,hu,h,hd=>by
  have e1:=hu el jm;constructor
  ·simp only[zV,List.modify_zero_cons,AM,ML,bo,oa];rw[xk (by omega),EN (by omega)];simp
  ·intro e he;simp only[zV,List.modify_zero_cons,mn]at he;rcases he with rfl|he
   ·simp only[iv,om,pd];omega
   ·exact hu e (kg _ he)
 |el::ez,i+1,f,ds,hu,h,hd=>by
  have e1:=hu el jm;obtain⟨U4,U3⟩:=nC (ez:=ez) i f ds (λe he=>hu e (kg _ he)) (by simpa using h) hd;constructor
  ·simp only[zV,OU,AM,ML]at U4 ⊢;rw[U4,zj,List.take_append,KQ,e1];rw[oh (show el.length<=i*sz+sz+f by omega),show i*sz+sz+f-sz=i*sz+f by omega,Hz (show el.length<=i*sz+sz+f+ds.length by omega),show i*sz+sz+f+ds.length-sz=i*sz+f+ds.length by omega];simp
  ·intro e he;simp only[zV,OU,mn]at he U3;rcases he with rfl|he
   ·exact e1
   ·exact U3 e he
def zSm {P:ab} {w:af} {t b o:Nat} {v y:aa} {l:List aa} {T:ac} (hz:nU P t=ap 1) (hc:v.cells= #[y]) (ho:o<l.length) (h1:y.og=ar)
 (hb:w.heap[b]? =ap (.cells l.toArray T (l.length,l.length+1))):Gz P (storeVar t ⟨b,o,aq⟩ v) w (World.iX w b (.cells (l.set o y).toArray T (l.length,l.length+1))):=by
 have RS:w.cell? ⟨b,o,aq⟩=ap l[o]:=by rw[TE hb];exact vd ho
 have hf:w.frozen? ⟨b,o,aq⟩=au:=by
  simp only[World.frozen?,hb];simp;omega
 have qh:w.setCell ⟨b,o,aq⟩ y=World.iX w b (.cells (l.set o y).toArray T (l.length,l.length+1)):=by
  unfold World.setCell World.iX;congr 1;apply OQ;intro i;rw[Array.getElem?_modify,O7];have gv:b<w.heap.size:=by
   rcases ur b w.heap.size with h|h
   ·exact h
   ·rw[GI h]at hb;cases hb
  by_cases hi:b=i
  ·subst hi;have nh:w.heap[b]= .cells l.toArray T (l.length,l.length+1):=by rw[OZ gv]at hb;exact bc hb
   simp[gv,nh]
  ·simp[hi]
 have h0:(store ⟨b,o,aq⟩ y).run P w= .ok () (World.iX w b (.cells (l.set o y).toArray T (l.length,l.length+1))):=by
  unfold store;cases y<;>first|(cases h1;done)|(simp only[ce,RS,hf,oK,if_false,qh])
 unfold nU at hz;split at hz<;>first|(cases hz;done)|skip
 rename_i i hi;have hz:i.size=1:=bc hz;unfold Gz storeVar;simp only[bind,run_bind,run_sizeOf hi,hc,hz];simp only[I8,iJ,ua];have e:(storeCells ⟨b,o,aq⟩ [y] 0).run P w= .ok () (World.iX w b (.cells (l.set o y).toArray T (l.length,l.length+1))):=by
  unfold storeCells;simp only[bind,run_bind,uD,EJ,h0];unfold storeCells;rfl
 simpa using e
def uZ {P:ab} {w:af} {t b o n:Nat} {v:aa} {l vs:List aa} {T:ac} (hz:nU P t=ap n) (hc:v.cells=vs.toArray) (hn:vs.length=n) (ho:o+n<=l.length) (h1:∀y∈vs,y.og=ar)
 (hb:w.heap[b]? =ap (.cells l.toArray T)):Gz P (storeVar t ⟨b,o,aq⟩ v) w (World.iX w b (.cells (kj l o vs).toArray T)):=by
 unfold nU at hz;split at hz<;>first|(cases hz;done)|skip
 rename_i i hi;cases hz;unfold Gz storeVar;have:=wI (P:=P) vs 0 o l w hb (by omega) h1;simp only[EJ]at this;simp only[bind,run_bind,run_sizeOf hi,hc,I8,hn];simpa using this
end Sx
