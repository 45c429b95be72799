/- Texts of ours. No condition. -/
import Derived.Laws.Cover1
import Derived.Laws.StructEq
import Derived.MapKept
import Derived.Test.YtgmmlhddihaocaaGreatH1
set_option linter.all false
open Go renaming Value->aa,Program->ab,TypeId->ac,execOp->ae,World->af,Operand->ag,MapEntry->aj,Oper->ak,Addr->am,IntKind->ao
open Option renaming some->ap,none->aq
open Bool renaming true->ar,false->au
open List renaming range->av,replicate->aw,take_take->ax,drop_take->ay
open Option.some renaming injEq->ba,inj->bc
open Nat renaming beq->be,ble->bg,zero_mul->bo,blt->bu
open Go.Instr renaming findNow->bv,typeAssert->cd,lookup->ce
open Go.Sem renaming run->cf,bind->cg,pure->ci
open Go.Op renaming operands->cm,equalIn->cn
open List.Perm renaming cons->co,append_left->cp,append_right->cq,swap->cr
open Prod.mk renaming injEq->cu
open Go.Builtin renaming len_->cw,firstCells->cx
open Array renaming ext'->cy
namespace Sx
open Go Go.RowKit Cv
def im.length {E:Ev}:∀{vs:List V} {l:List aa},im E vs l->l.length=vs.length
 |[],l,h=>by simp only[im]at h;subst h;rfl
 |v::vs,l,h=>by simp only[im]at h;obtain⟨x,xs,rfl,h1,h2⟩:=h;simp[h2.length]
def im.get {E:Ev}:∀{vs:List V} {l:List aa},im E vs l->∀{i:Nat} {v:V},vs[i]? =ap v->∃y,l[i]? =ap y/\VR E v y
 |[],l,h,i,v,e=>by simp at e
 |v::vs,l,h,i,u,e=>by
  simp only[im]at h;obtain⟨x,xs,rfl,h1,h2⟩:=h;cases i with
  |zero=>simp at e;subst e;exact⟨x,rfl,h1⟩
  |succ i=>simp at e ⊢;exact h2.get e
def im.take {E:Ev}:∀{vs:List V} {l:List aa},im E vs l->∀(n:Nat),im E (vs.take n) (l.take n)
 |[],l,h,n=>by simp only[im]at h;subst h;simp[im]
 |v::vs,l,h,n=>by
  simp only[im]at h;obtain⟨x,xs,rfl,h1,h2⟩:=h;cases n with
  |zero=>simp[im]
  |succ n=>simp only[xk,im];exact⟨_,_,rfl,h1,h2.take n⟩
def im.drop {E:Ev}:∀{vs:List V} {l:List aa},im E vs l->∀(n:Nat),im E (vs.drop n) (l.drop n)
 |[],l,h,n=>by simp only[im]at h;subst h;simp[im]
 |v::vs,l,h,n=>by
  have h0:=h;simp only[im]at h;obtain⟨x,xs,rfl,h1,h2⟩:=h;cases n with
  |zero=>exact h0
  |succ n=>simp only[List.drop_succ_cons];exact h2.drop n
def im.append {E:Ev}:∀{vs:List V} {l:List aa},im E vs l->∀{us:List V} {m:List aa},im E us m->im E (vs++us) (l++m)
 |[],l,h,us,m,h'=>by simp only[im]at h;subst h;exact h'
 |v::vs,l,h,us,m,h'=>by
  simp only[im]at h;obtain⟨x,xs,rfl,h1,h2⟩:=h;simp only[tu,im];exact⟨_,_,rfl,h1,h2.append h'⟩
def im.one {E:Ev} {v:V} {y:aa} (h:VR E v y):im E [v] [y]:=by simp only[im];exact⟨_,_,rfl,h,rfl⟩
def im.nil {E:Ev}:im E [] []:=by simp only[im]
def iI.length {F:PH}:∀{vs:List D} {l:List aa},iI F vs l->l.length=vs.length
 |[],l,h=>by simp only[iI]at h;subst h;rfl
 |v::vs,l,h=>by simp only[iI]at h;obtain⟨x,xs,rfl,h1,h2⟩:=h;simp[h2.length]
def iI.append {F:PH}:∀{vs:List D} {l:List aa},iI F vs l->∀{us:List D} {m:List aa},iI F us m->iI F (vs++us) (l++m)
 |[],l,h,us,m,h'=>by simp only[iI]at h;subst h;exact h'
 |v::vs,l,h,us,m,h'=>by
  simp only[iI]at h;obtain⟨x,xs,rfl,h1,h2⟩:=h;simp only[tu,iI];exact⟨_,_,rfl,h1,h2.append h'⟩
def iI.split {F:PH}:∀{vs us:List D} {l:List aa},iI F (vs++us) l->∃l1 l2,l=l1++l2/\iI F vs l1/\iI F us l2
 |[],us,l,h=>⟨[],l,rfl,by simp only[iI],h⟩
 |v::vs,us,l,h=>by
  simp only[tu,iI]at h;obtain⟨x,xs,rfl,h1,h2⟩:=h;obtain⟨l1,l2,rfl,h3,h4⟩:=h2.split;exact⟨x::l1,l2,rfl,by simp only[iI];exact⟨_,_,rfl,h1,h3⟩,h4⟩
def iI.take {F:PH}:∀{vs:List D} {l:List aa},iI F vs l->∀(n:Nat),iI F (vs.take n) (l.take n)
 |[],l,h,n=>by simp only[iI]at h;subst h;simp[iI]
 |v::vs,l,h,n=>by
  simp only[iI]at h;obtain⟨x,xs,rfl,h1,h2⟩:=h;cases n with
  |zero=>simp[iI]
  |succ n=>simp only[xk,iI];exact⟨_,_,rfl,h1,h2.take n⟩
def iI.drop {F:PH}:∀{vs:List D} {l:List aa},iI F vs l->∀(n:Nat),iI F (vs.drop n) (l.drop n)
 |[],l,h,n=>by simp only[iI]at h;subst h;simp[iI]
 |v::vs,l,h,n=>by
  have h0:=h;simp only[iI]at h;obtain⟨x,xs,rfl,h1,h2⟩:=h;cases n with
  |zero=>exact h0
  |succ n=>simp only[List.drop_succ_cons];exact h2.drop n
def iI.one {F:PH}:∀{vs:List D} {l:List aa},iI F vs l->∀v∈l,v.oz=ar
 |[],l,h=>by simp only[iI]at h;subst h;simp
 |v::vs,l,h=>by
  simp only[iI]at h;obtain⟨x,xs,rfl,h1,h2⟩:=h;intro u hu;rcases ku.1 hu with rfl|hu
  ·cases v with
   |v y=>simp only[DR]at h1;rw[h1.1];exact h1.2
   |ro sz fh=>simp only[DR]at h1;obtain⟨a,c,rfl,_⟩:=h1;rfl
  ·exact h2.one u hu
def iI.get {F:PH}:∀{vs:List D} {l:List aa},iI F vs l->∀{i:Nat} {v:D},vs[i]? =ap v->∃y,l[i]? =ap y/\DR F v y
 |[],l,h,i,v,e=>by simp at e
 |v::vs,l,h,i,u,e=>by
  simp only[iI]at h;obtain⟨x,xs,rfl,h1,h2⟩:=h;cases i with
  |zero=>simp at e;subst e;exact⟨x,rfl,h1⟩
  |succ i=>simp at e ⊢;exact h2.get e
def iI.Nt {E:Ev}:∀{vs:List D} {l:List aa},iI E.F vs l->im E (vs.map .d) l
 |[],l,h=>by simp only[iI]at h;subst h;simp[im]
 |v::vs,l,h=>by
  simp only[iI]at h;obtain⟨x,xs,rfl,h1,h2⟩:=h;simp only[iT,im,VR];exact⟨_,_,rfl,h1,h2.Nt⟩
def o8 {F:PH}:∀{fh:List (List D)} {l:List aa},Bu F fh l↔∃xs r,l=xs++r/\iI F fh.flatten xs
 |[],l=>by simp only[Bu,List.flatten_nil,true_iff,iI];exact⟨[],l,rfl,rfl⟩
 |el::fh,l=>by
  simp only[Bu,A2];constructor
  ·rintro⟨l1,l2,rfl,h1,h2⟩;obtain⟨xs,r,rfl,h3⟩:=o8.1 h2;exact⟨l1++xs,r,by simp,h1.append h3⟩
  ·rintro⟨xs,r,rfl,h⟩;obtain⟨l1,l2,rfl,h1,h2⟩:=h.split;exact⟨l1,l2++r,by simp,h1,o8.2 ⟨l2,r,rfl,h2⟩⟩
def j9 {α:Type} {sz:Nat}:∀{fh:List (List α)},(∀el∈fh,el.length=sz)->fh.flatten.length=fh.length*sz
 |[],_=>by simp
 |el::fh,h=>by
  rw[A2,iQ,h el jg,j9 (λe he=>h e (jx _ he)),iY,Ak];omega
def sE {α:Type} {sz:Nat}:∀{fh:List (List α)} (i:Nat),(∀el∈fh,el.length=sz)->fh.flatten.drop (i*sz)=(fh.drop i).flatten
 |[],i,_=>by simp
 |el::fh,0,h=>by simp
 |el::fh,i+1,h=>by
  rw[A2,List.drop_succ_cons,<- sE i (λe he=>h e (jx _ he)),Ak,Hw,<- CU];rw[show(el++fh.flatten).drop sz=fh.flatten by rw[<- h el jg,List.drop_left]]
def sG {α:Type} {sz:Nat}:∀{fh:List (List α)} (i:Nat),(∀el∈fh,el.length=sz)->fh.flatten.take (i*sz)=(fh.take i).flatten
 |[],i,_=>by simp
 |el::fh,0,h=>by simp
 |el::fh,i+1,h=>by
  rw[A2,xk,A2,<- sG i (λe he=>h e (jx _ he)),Ak,Hw,List.take_append,h el jg];simp[h el jg];rw[oV (by rw[h el jg];omega)]
def Zg {α:Type} {sz:Nat} {fh:List (List α)} {i f n:Nat} {el:List α} (h:∀el∈fh,el.length=sz) (hi:fh[i]? =ap el) (hf:f+n<=sz):(fh.flatten.drop (i*sz+f)).take n=(el.drop f).take n:=by
 have hm:=mc hi;have iq:i<fh.length:=(ju.1 hi).1;rw[<- CU,sE i h];have:fh.drop i=el::fh.drop (i+1):=by
  rw[DQ iq];congr 1;exact(ju.1 hi).2
 rw[this,A2,GZ (by rw[h el hm];omega),zq (by rw[qc,h el hm];omega)]
def okc:aa->Bool
 | .agg cs=>cs.toList.all (·.oz)
 | .tuple cs=>cs.toList.all (·.oz)
 |_=>ar
def CZ (x:aa):V:=
 bif okc x then(match x with
 | .agg cs=> .agg (cs.toList.map λy=> .d (.v y))
 | .tuple cs=> .jm (cs.toList.map λy=> .d (.v y))
 |x=> .d (.v x))else .top
def yOu {E:Ev}:∀{l:List aa},(l.all (·.oz))=ar->im E (l.map λy=> .d (.v y)) l
 |[],_=>by simp[im]
 |y::l,h=>by
  simp only[List.all_cons,ld]at h;simp only[iT,im,VR,DR];exact⟨y,l,rfl,⟨rfl,h.1⟩,yOu h.2⟩
def Oj (E:Ev) (x:aa):VR E (CZ x) x:=by
 unfold CZ;cases h:okc x
 ·simp[VR]
 ·cases x<;>simp only[cond_true,VR,DR]<;>first|exact⟨rfl,rfl⟩|exact⟨trivial,rfl⟩|(rename_i cs;exact⟨cs.toList,by simp,yOu h⟩)
@[reducible] def xE:=Nat->V
def mn (ρ:xE):ag->V
 | .tmp t=>ρ t
 | .const x=>CZ x
 | .func f=> .fn f [] []
 | .global _=> .top
def Bf (ρ:xE):Option Nat->V->xE
 |none,_=>ρ
 |some d,v=>λi=>bif be i d then v else ρ i
def mf (E:Ev) (ρS:xE) (ρ:Env):Prop:=∀t,VR E (ρS t) (ρ t)
def mf.ev {E:Ev} {ρS:xE} {ρ:Env} (h:mf E ρS ρ) (x:ag):VR E (mn ρS x) (ev ρ x):=by
 cases x with
 |tmp t=>exact h t
 |const v=>exact Oj E v
 |func f=>simp only[mn,Cv.ev,VR];exact⟨[],[],rfl,im.nil,im.nil⟩
 |global g=>simp only[mn,VR]
def mf.put {E:Ev} {ρS:xE} {ρ:Env} (h:mf E ρS ρ) (d:Option Nat) {v:V} {y:aa} (hv:VR E v y):mf E (Bf ρS d v) (Cv.put ρ d y):=by
 cases d with
 |none=>exact h
 |some d=>
  intro t;simp only[Bf,Cv.put];cases be t d
  ·exact h t
  ·exact hv
def mf.mono {E E':Ev} (h:E.le E') {ρS:xE} {ρ:Env} (e:mf E ρS ρ):mf E' ρS ρ:=λt=>(e t).mono h
def C' (ρ:xE):List ag->List V
 |[]=>[]
 |x::l=>mn ρ x::C' ρ l
def yMy {E:Ev} {ρS:xE} {ρ:Env} (h:mf E ρS ρ):∀(l:List ag),im E (C' ρS l) (l.map (ev ρ))
 |[]=>by simp[C',im]
 |x::l=>by simp only[C',iT,im];exact⟨_,_,rfl,h.ev x,yMy h l⟩
def mA {E:Ev} {ρS:xE} {ρ:Env} (h:mf E ρS ρ) (l:Array ag):∃ys:List aa,l.map (ev ρ)=ys.toArray/\im E (C' ρS l.toList) ys:=
 ⟨l.toList.map (ev ρ),by apply cy;simp,yMy h _⟩
def OY:List V->Option (List aa)
 |[]=>ap []
 | .d (.v x)::l=>match OY l with
   |some r=>ap (x::r)
   |none=>aq
 |_::_=>aq
def GN:V->Option aa
 | .d (.v x)=>ap x
 | .agg l=>match OY l with
   |some r=>ap (.agg r.toArray)
   |none=>aq
 | .fn f [] []=>ap (.func (.func f) #[] #[])
 |_=>aq
def z6a {E:Ev}:∀{l:List V} {r ys:List aa},OY l=ap r->im E l ys->ys=r
 |[],r,ys,h,e=>by simp only[OY,ba]at h;subst h;simpa only[im]using e
 |v::l,r,ys,h,e=>by
  simp only[im]at e;obtain⟨x,xs,rfl,h1,h2⟩:=e;unfold OY at h;split at h
  ·rename_i heq;cases heq
  ·rename_i x' l' heq;cases heq;simp only[VR,DR]at h1;split at h<;>first|(cases h;done)|skip
   rename_i r' hr;cases h;rw[h1.1,z6a hr h2]
  ·cases h
def tZ {E:Ev} {v:V} {x y:aa} (h:GN v=ap x) (e:VR E v y):y=x:=by
 unfold GN at h;split at h
 ·cases h;simp only[VR,DR]at e;exact e.1
 ·rename_i l;split at h<;>first|(cases h;done)|skip
  rename_i r hr;cases h;simp only[VR]at e;obtain⟨ys,rfl,h2⟩:=e;rw[z6a hr h2]
 ·cases h;simp only[VR]at e;obtain⟨as,bs,rfl,h2,h3⟩:=e;simp only[im]at h2 h3;subst h2 h3;rfl
 ·cases h
def Wo (ρ:xE):ag->Bool
 | .tmp t=>match GN (ρ t)with
   |some _=>ar
   |none=>au
 |_=>ar
def VP (ρ:xE):List ag->Bool
 |[]=>ar
 |x::l=>bif Wo ρ x then VP ρ l else au
def VD (ρ:xE):Env:=λt=>match GN (ρ t)with
 |some x=>x
 |none=>undef
def y5k {E:Ev} {ρS:xE} {ρ:Env} (h:mf E ρS ρ) {x:ag} (hl:Wo ρS x=ar):ev (VD ρS) x=ev ρ x:=by
 cases x with
 |tmp t=>
  simp only[Wo]at hl;split at hl<;>first|(cases hl;done)|skip
  rename_i y hy;simp only[Cv.ev,VD,hy];exact(tZ hy (h t)).symm
 |_=>rfl
def yAv {E:Ev} {ρS:xE} {ρ:Env} (h:mf E ρS ρ):∀{l:List ag},VP ρS l=ar->∀x∈l,ev (VD ρS) x=ev ρ x
 |[],_,x,hx=>by cases hx
 |y::l,hl,x,hx=>by
  simp only[VP]at hl;cases hy:Wo ρS y with
  |false=>rw[hy]at hl;cases hl
  |true=>
   rw[hy]at hl;rcases ku.1 hx with rfl|hx
   ·exact y5k h hy
   ·exact yAv h hl x hx
def Ov:Op->Bool
 | .binOp _ _ _ _ _=>ar
 | .unOp _ _ _=>ar
 | .convert _ _ _=>ar
 | .index _ _ _=>ar
 | .nilCheck _=>ar
 | .slice _ _ _ _ aq=>ar
 | .call {callee:= .builtin _,..}=>ar
 |_=>au
def yFz {ρ ρ':Env} {o:ak} (hp:Ov o.op=ar) (h:∀x∈o.op.operands.toList,ev ρ x=ev ρ' x):ae (ev ρ) o=ae (ev ρ') o:=by
 obtain⟨dst,op,ty,pos,after,gd⟩:=o;cases op<;>simp only[Ov,nr]at hp
 case binOp a b x y c=>simp only[cm,ku,Nk,or_false,forall_eq_or_imp,forall_eq]at h;simp only[ae,h]
 case unOp a b x=>simp only[cm,ku,Nk,or_false,forall_eq]at h;simp only[ae,h]
 case convert a b x=>simp only[cm,ku,Nk,or_false,forall_eq]at h;simp only[ae,h]
 case index a x y=>simp only[cm,ku,Nk,or_false,forall_eq_or_imp,forall_eq]at h;simp only[ae,h]
 case nilCheck x=>simp only[cm,ku,Nk,or_false,forall_eq]at h;simp only[ae,h]
 case slice a x lo hi mx=>
  cases mx with
  |some m=>simp[Ov]at hp
  |none=>
   have hl:lo.map (ev ρ)=lo.map (ev ρ'):=by
    cases lo with
    |none=>rfl
    |some z=>simp only[ym];rw[h z (by simp[cm])]
   have hh:hi.map (ev ρ)=hi.map (ev ρ'):=by
    cases hi with
    |none=>rfl
    |some z=>simp only[ym];rw[h z (by simp[cm])]
   simp only[ae,hl,hh,h x (by simp[cm])];rfl
 case call c=>
  obtain⟨callee,args,ats⟩:=c;cases callee<;>simp only[Ov,nr]at hp
  have ha:args.map (ev ρ)=args.map (ev ρ'):=by
   apply Array.map_congr_left;intro x hx;exact h x (by simp[cm,Call.operands,hx])
  simp only[ae,resolve,ha]
def KH (P:ab) (t:ac) (x y:aa):Option Bool:=
 match P.underlying t with
 |some (.int _)=>match x with
  | .int k a=>match y with
    | .int k' b=>bif xw k k' then ap (a==b)else aq
    |_=>aq
  |_=>aq
 |some .string=>match x with
  | .string a=>match y with
    | .string b=>ap (a==b)
    |_=>aq
  |_=>aq
 |some .bool=>match x with
  | .bool a=>match y with
    | .bool b=>ap (a==b)
    |_=>aq
  |_=>aq
 |_=>aq
def KM (P:ab) (xs ys:List aa):List Field->Option Bool
 |[]=>ap ar
 | f :: fs => bif f.name == "_" then none else match xs[f.offset]?, ys[f.offset]? with
   |some x,ap y=>match KH P f.type x y with
    |some a=>match KM P xs ys fs with
     |some b=>ap (a && b)
     |none=>aq
    |none=>aq
   |_,_=>aq
def VN (P:ab) (f:Field) (xs ys:List aa):Option Bool:=
 match P.underlying f.type with
 |some (.struct gs)=>match Ek P f.type with
  |some n=>bif P.stoodInHeld f.type then aq else KM P ((xs.drop f.offset).take n) ((ys.drop f.offset).take n) gs.toList
  |none=>aq
 |_=>match xs[f.offset]?,ys[f.offset]? with
  |some x,ap y=>KH P f.type x y
  |_,_=>aq
def MB (P:ab) (xs ys:List aa):List Field->Option Bool
 |[]=>ap ar
 | f :: fs => bif f.name == "_" then none else match VN P f xs ys with
   |some a=>match MB P xs ys fs with
    |some b=>ap (a && b)
    |none=>aq
   |none=>aq
def yOk (P:ab) (t:ac) (xs ys:List aa):Option Bool:=
 match P.underlying t with
 |some (.struct fs)=>bif P.stoodInHeld t then aq else MB P xs ys fs.toList
 |_=>aq
def Vl {P:ab} {t:ac} {x y:aa} {b:Bool} (h:KH P t x y=ap b):Ce P t=ar:=by
 unfold KH at h;unfold Ce;split at h<;>first|(cases h;done)|skip
 all_goals(rename_i he;rw[he])
def z1q {P:ab} {t:ac} {x y:aa} {b:Bool} {d:Nat} (h:KH P t x y=ap b) (w:af):(cn (d+1) t x y).run P w= .ok b w:=by
 unfold KH at h;split at h<;>first|(cases h;done)|skip
 all_goals
  rename_i he;split at h<;>first|(cases h;done)|skip
  split at h<;>first|(cases h;done)|skip
  unfold cn;simp only[bind,pure,run_bind,Cv.run_underlying he]
 ·obtain⟨hk,hb⟩:=y3 h;clear h;have:=zXw hk;subst this;cases hb;simp only[if_true,cf]
 ·cases h;rfl
 ·cases h;rfl
def Ua {P:ab} {t off:Nat} {cs:List aa} {v:aa} (hs:Ce P t=ar) (h:cs[off]? =ap v) (w:af):(part t cs.toArray off).run P w= .ok v w:=by
 unfold part;have:cs.toArray[off]? =ap v:=by simp[h]
 simp only[bind,run_bind,pF hs w,nr,if_false,this];rfl
def zWe {P:ab} (w:af) {xs ys:List aa} {σ:Type} {s0:σ} {fin:σ} {F:Field->σ->Sem (ForInStep σ)}
 (hF : ∀ f x y b, (f.name == "_") = false -> xs[f.offset]? = some x -> ys[f.offset]? = some y -> KH P f.type x y = some b -> (F f s0).run P w = .ok (if b then .yield s0 else .done fin) w) :
 ∀{fs:List Field} {b:Bool},KM P xs ys fs=ap b->((forIn fs s0 F):Sem σ).run P w= .ok (if b then s0 else fin) w
 |[],b,h=>by
  simp only[KM,ba]at h;subst h;rfl
 |f::fs,b,h=>by
  simp only[KM]at h;have hn : (f.name == "_") = false := by
   cases hb : (f.name == "_")
   ·rfl
   ·rw[hb]at h;cases h
  rw[hn]at h;simp only[cond_false]at h;split at h<;>first|(cases h;done)|skip
  rename_i x y hx hy;split at h<;>first|(cases h;done)|skip
  rename_i a ha;split at h<;>first|(cases h;done)|skip
  rename_i b' hb;cases h;have h1:=hF f x y a hn hx hy ha;have ih:=zWe (P:=P) w hF hb;simp only[List.forIn_cons,bind,run_bind,h1];cases a
  ·rfl
  ·simpa using ih
def z0y {P:ab} {t:ac} {fs:Array Field} {xs ys:List aa} {b:Bool} {d:Nat} (yw:P.underlying t=ap (.struct fs)) (jy:P.stoodInHeld t=au) (h:KM P xs ys fs.toList=ap b) (w:af):
 (cn (d+2) t (.agg xs.toArray) (.agg ys.toArray)).run P w= .ok b w:=by
 unfold cn;simp only[bind,pure,run_bind,Cv.run_underlying yw,program,cf,cg,jy,nr,if_false];rw[<- Array.forIn_toList];have := zWe (P := P) (xs := xs) (ys := ys) w (σ := Option Bool × Unit) (s0 := (none, ())) (fin := (some false, ())) (F := λf __s => if f.name ≠ "_" then
  (part f.type xs.toArray f.offset).bind λx=>(part f.type ys.toArray f.offset).bind λy=>(cn (d+1) f.type x y).bind λc=>
    if(!c)=ar then ci (ForInStep.done (ap au,()))else ci (ForInStep.yield (aq,()))
  else ci (ForInStep.yield (aq,()))) (by
  intro f x y c hn hx hy hc;have jf : f.name ≠ "_" := by simpa using hn
  simp only[jf,ne_eq,not_false_eq_true,if_true,run_bind,Ua (Vl hc) hx,Ua (Vl hc) hy,z1q (d:=d) hc];cases c<;>rfl) h
 rw[this];cases b<;>rfl
def zIn {P:ab} {t off n:Nat} {cs:List aa} (hs:Ek P t=ap n) (w:af):(part t cs.toArray off).run P w= .ok (.agg ((cs.drop off).take n).toArray) w:=by
 obtain⟨h1,h2⟩:=aF hs w;unfold part;have e:cs.toArray.extract off (off+n)=((cs.drop off).take n).toArray:=by
  rw[List.extract_toArray,List.extract_eq_take_drop];simp
 simp only[bind,pure,run_bind,h1,if_true,h2,cf,e]
def zSj {P:ab} (w:af) {xs ys:List aa} {σ:Type} {s0:σ} {fin:σ} {F:Field->σ->Sem (ForInStep σ)}
 (hF : ∀ f b, (f.name == "_") = false -> VN P f xs ys = some b -> (F f s0).run P w = .ok (if b then .yield s0 else .done fin) w) :
 ∀{fs:List Field} {b:Bool},MB P xs ys fs=ap b->((forIn fs s0 F):Sem σ).run P w= .ok (if b then s0 else fin) w
 |[],b,h=>by
  simp only[MB,ba]at h;subst h;rfl
 |f::fs,b,h=>by
  simp only[MB]at h;have hn : (f.name == "_") = false := by
   cases hb : (f.name == "_")
   ·rfl
   ·rw[hb]at h;cases h
  rw[hn]at h;simp only[cond_false]at h;split at h<;>first|(cases h;done)|skip
  rename_i a ha;split at h<;>first|(cases h;done)|skip
  rename_i b' hb;cases h;have h1:=hF f a hn ha;have ih:=zSj (P:=P) w hF hb;simp only[List.forIn_cons,bind,run_bind,h1];cases a
  ·rfl
  ·simpa using ih
def yKi {P:ab} {f:Field} {xs ys:List aa} {b:Bool} (h:VN P f xs ys=ap b) (w:af):
 ∃x y,(part f.type xs.toArray f.offset).run P w= .ok x w/\(part f.type ys.toArray f.offset).run P w= .ok y w/\(cn 9999 f.type x y).run P w= .ok b w:=by
 unfold VN at h;split at h
 ·rename_i gs hgs;split at h<;>first|(cases h;done)|skip
  rename_i n hn;have jy:P.stoodInHeld f.type=au/\KM P ((xs.drop f.offset).take n) ((ys.drop f.offset).take n) gs.toList=ap b:=by
   revert h;cases P.stoodInHeld f.type<;>intro h
   ·exact⟨rfl,h⟩
   ·cases h
  exact⟨_,_,zIn hn w,zIn hn w,z0y (d:=9997) hgs jy.1 jy.2 w⟩
 ·split at h<;>first|(cases h;done)|skip
  rename_i x y hx hy;exact⟨x,y,Ua (Vl h) hx w,Ua (Vl h) hy w,z1q (d:=9998) h w⟩
def yIf {P:ab} {t:ac} {xs ys:List aa} {b:Bool} (h:yOk P t xs ys=ap b) (w:af):(Op.equal t (.agg xs.toArray) (.agg ys.toArray)).run P w= .ok b w:=by
 unfold yOk at h;split at h<;>first|(cases h;done)|skip
 rename_i fs yw;have jy:P.stoodInHeld t=au/\MB P xs ys fs.toList=ap b:=by
  revert h;cases P.stoodInHeld t<;>intro h
  ·exact⟨rfl,h⟩
  ·cases h
 rw[nZ];unfold cn;simp only[bind,pure,run_bind,Cv.run_underlying yw,program,cf,cg,jy.1,nr,if_false];rw[<- Array.forIn_toList];have := zSj (P := P) (xs := xs) (ys := ys) w (σ := Option Bool × Unit) (s0 := (none, ())) (fin := (some false, ())) (F := λf __s => if f.name ≠ "_" then
  (part f.type xs.toArray f.offset).bind λx=>(part f.type ys.toArray f.offset).bind λy=>(cn 9999 f.type x y).bind λc=>
    if(!c)=ar then ci (ForInStep.done (ap au,()))else ci (ForInStep.yield (aq,()))
  else ci (ForInStep.yield (aq,()))) (by
  intro f c hn hc;have jf : f.name ≠ "_" := by simpa using hn
  obtain⟨x,y,r1,r2,r3⟩:=yKi hc w;simp only[jf,ne_eq,not_false_eq_true,if_true,run_bind,r1,r2,r3];cases c<;>rfl) jy.2
 rw[this];cases b<;>rfl
def V.cl:V->List V
 | .agg l=>l
 |v=>[v]
def V4 (P:ab) (t:ac) (cs:List V) (off:Nat):Option V:=
 match Ek P t with
 |some sz=>ap (.agg ((cs.drop off).take sz))
 |none=>bif Ce P t then cs[off]? else aq
def iL {α:Type} (x:Option α) (K:α->Prop):Prop:=
 match x with
 |some v=>K v
 |none=>False
def zM {α:Type} {x:Option α} {K:α->Prop} (h:iL x K):∃v,x=ap v/\K v:=by
 cases x with
 |none=>exact h.elim
 |some v=>exact⟨v,rfl,h⟩
def zNz {P:ab} {E:Ev} {t:ac} {cs:List V} {ys:List aa} {off:Nat} {v:V} (hr:im E cs ys) (h:V4 P t cs off=ap v):∃y,VR E v y/\∀w,(part t ys.toArray off).run P w= .ok y w:=by
 unfold V4 at h;split at h
 ·rename_i sz hs;simp only[ba]at h;subst h;refine⟨.agg ((ys.drop off).take sz).toArray,?_,λw=> ?_⟩
  ·simp only[VR];exact⟨_,rfl,(hr.drop off).take sz⟩
  obtain⟨h1,h2⟩:=aF hs w;unfold part;simp only[bind,run_bind,h1,h2,if_true,pure,cf];congr 3;simp[List.extract_eq_take_drop]
 ·rename_i hs;obtain⟨hb,h⟩:=y3 h;obtain⟨y,h1,h2⟩:=hr.get h;refine⟨y,h2,λw=> ?_⟩;unfold part;have:ys.toArray[off]? =ap y:=by simp[h1]
  simp only[bind,run_bind,pF hb w,nr,if_false,this];rfl
def MF (place:Nat->Option (Nat×Nat)):List (Nat×V)->List V->Option (List V)
 |[],cs=>ap cs
 |(i,v)::rest,cs=>
  match place i with
  |none=>aq
  |some (off,size)=>bif be v.cl.length size && bg (off+size) cs.length then MF place rest (cs.take off++(v.cl++cs.drop (off+size)))else aq
def B9 (E:Ev):List (Nat×V)->List (Nat×aa)->Prop
 |[],l=>l=[]
 |(i,v)::ps,l=>∃y ys,l=(i,y)::ys/\VR E v y/\B9 E ps ys
def IV:V->Bool
 | .top=>au
 |_=>ar
def VR.cells {E:Ev} {v:V} {y:aa} (ht:IV v=ar) (h:VR E v y):∃l,y.cells=l.toArray/\im E v.cl l:=by
 cases v
 case agg l=>simp only[VR]at h;obtain⟨ys,rfl,h⟩:=h;exact⟨ys,rfl,h⟩
 case top=>cases ht
 case d x=>
  have h0:=h;simp only[VR]at h;refine⟨[y],?_,im.one h0⟩;cases x with
  |v x=>simp only[DR]at h;obtain⟨rfl,h⟩:=h;cases y<;>first|rfl|cases h
  |ro sz fh=>simp only[DR]at h;obtain⟨a,c,rfl,_⟩:=h;rfl
 case nm n o=>have h0:=h;simp only[VR]at h;obtain⟨b,oo,l,h1,rfl⟩:=h;exact⟨[_],rfl,im.one h0⟩
 case el n sz i f=>have h0:=h;simp only[VR]at h;obtain⟨b,oo,m,c,l,h1,rfl⟩:=h;exact⟨[_],rfl,im.one h0⟩
 case re sz fh i f=>have h0:=h;simp only[VR]at h;obtain⟨_,_,b,o,l,T,fr,rfl,_⟩:=h;exact⟨[_],rfl,im.one h0⟩
 case na n o i=>have h0:=h;simp only[VR]at h;obtain⟨b,oo,l,h1,rfl⟩:=h;exact⟨[_],rfl,im.one h0⟩
 case own n=>have h0:=h;simp only[VR]at h;obtain⟨l,h1,a,m,c,rfl⟩:=h;exact⟨[_],rfl,im.one h0⟩
 case mp n=>have h0:=h;simp only[VR]at h;obtain⟨b,l,h1,rfl⟩:=h;exact⟨[_],rfl,im.one h0⟩
 case sub n i=>have h0:=h;simp only[VR]at h;obtain⟨hd,l,b,oo,h1,h2,rfl⟩:=h;exact⟨[_],rfl,im.one h0⟩
 case jm l=>have h0:=h;simp only[VR]at h;obtain⟨ys,rfl,h⟩:=h;exact⟨[_],rfl,im.one h0⟩
 case fn f a b=>have h0:=h;simp only[VR]at h;obtain⟨as,bs,rfl,h⟩:=h;exact⟨[_],rfl,im.one h0⟩
 case An t x=>have h0:=h;simp only[VR]at h;obtain⟨z,rfl,h⟩:=h;exact⟨[_],rfl,im.one h0⟩
def VW:List (Nat×V)->Bool
 |[]=>ar
 |p::l=>bif IV p.2 then VW l else au
def zAv {E:Ev} {place:Nat->Option (Nat×Nat)}:∀{ps:List (Nat×V)} {cs r:List V} {qs:List (Nat×aa)} {ys:List aa},VW ps=ar->MF place ps cs=ap r->B9 E ps qs->im E cs ys->
 ∃zs,Instr.fill place ys.toArray qs=ap zs.toArray/\im E r zs
 |[],cs,r,qs,ys,_,h,hp,hc=>by
  simp only[MF,ba]at h;simp only[B9]at hp;subst h hp;exact⟨ys,rfl,hc⟩
 |(i,v)::ps,cs,r,qs,ys,ht,h,hp,hc=>by
  simp only[MF]at h;simp only[B9]at hp;obtain⟨y,qs,rfl,hv,hp⟩:=hp;simp only[VW]at ht;cases WJ:IV v<;>rw[WJ]at ht<;>simp only[cond_false,cond_true,nr]at ht
  obtain⟨l,hl,ND⟩:=VR.cells WJ hv;split at h<;>first|(cases h;done)|skip
  rename_i off size zu;obtain⟨hb,h⟩:=y3 h;simp only[ld]at hb;have h1:=ji hb.1;have h2:=B1 hb.2;have e1:=ND.length;have e2:=hc.length;have oW:y.cells.size=size:=by rw[hl,Ji,e1,h1]
  have HW:(decide (y.cells.size≠size)||decide (off+y.cells.size>ys.toArray.size))=au:=by
   rw[oW,Ji];simp;omega
  have WR:im E (cs.take off++(v.cl++cs.drop (off+size))) (ys.take off++(l++ys.drop (off+size))):=(hc.take off).append (ND.append (hc.drop _));obtain⟨zs,q1,q2⟩:=zAv ht h hp WR;refine⟨zs,?_,q2⟩;simp only[Instr.fill,zu];have FM:y.cells.zipIdx.foldl (λ(cs:Array aa) (p:aa×Nat)=>cs.setIfInBounds (off+p.2) p.1) ys.toArray=(ys.take off++(l++ys.drop (off+size))).toArray:=by
   have hz:l.toArray.zipIdx=(l.zipIdx).toArray:=by
    apply cy;simp
   rw[hl,hz,List.foldl_toArray];rw[XF (off:=off) l 0 ys (by omega)];simp only[lj,E8,e1,h1,km]
  rw[dx (by rw[HW];simp),FM];exact q1
def pI (P:ab) (t:ac):Option aa:=
 match P.info? t with
 |some i=>i.zero
 |none=>aq
def z8t (P:ab) (t:ac) (ps:List (Nat×V)):Option V:=
 match pI P t with
 |some z=>bif IV (CZ z) && VW ps then(match yOj P t with
  |some pl=>match Pe pl with
   |some _=>match MF (z0h pl) ps (CZ z).cl with
    |some cs=>ap (.agg cs)
    |none=>aq
   |none=>aq
  |none=>match T6 P t with
   |some (_,_,sz)=>match MF (λi=>ap (i*sz,sz)) ps (CZ z).cl with
    |some cs=>ap (.agg cs)
    |none=>aq
   |none=>aq)else aq
 |none=>aq
def bV {P:ab} {t:ac} {z:aa} (h:pI P t=ap z):zero? P t=ap z:=by
 unfold pI at h;unfold zero?;split at h
 ·rename_i i hi;rw[hi];exact h
 ·cases h
def z0r {P:ab} {E:Ev} {t:ac} {ps:List (Nat×V)} {qs:List (Nat×aa)} {v:V} (hp:B9 E ps qs) (h:z8t P t ps=ap v):
 ∃y,VR E v y/\∀w,(Instr.build t qs.toArray).run P w= .ok y w:=by
 unfold z8t at h;split at h<;>first|(cases h;done)|skip
 rename_i z hz;have EA:=λw=>mq (bV hz) w
 obtain⟨hb,h⟩:=y3 h;simp only[ld]at hb;obtain⟨zl,C2,Ww⟩:=VR.cells (E:=E) hb.1 (Oj E z);split at h
 ·rename_i pl zu;split at h<;>first|(cases h;done)|skip
  rename_i L hL;split at h<;>first|(cases h;done)|skip
  rename_i cs AH;simp only[ba]at h;subst h;have aaE:=zXf hL;subst aaE;unfold yOj at zu;split at zu<;>first|(cases zu;done)|skip
  rename_i fs yw;simp only[ba]at zu;have WG:(λi=>L.toArray[i]?)=z0h (L.map ap):=by
   funext i;unfold z0h;simp only[A4,uz];cases L[i]? <;>rfl
  obtain⟨zs,hf,NC⟩:=zAv hb.2 AH hp Ww;refine⟨.agg zs.toArray,by simp only[VR];exact⟨zs,rfl,NC⟩,λw=> ?_⟩;have hm:=zTy w zu;have hmA:((fs.mapM λf=>(do pure (f.offset,<- Go.sizeOf f.type):Sem (Nat×Nat))):Sem (Array (Nat×Nat))).run P w= .ok L.toArray w:=by
   rw[Array.mapM_eq_mapM_toList,map_eq_pure_bind];simp only[bind,pure,run_bind]at hm ⊢;rw[hm];rfl
  unfold Instr.build;simp only[bind]at hmA;simp only[bind,run_bind,EA,Cv.run_underlying yw,hmA,C2,WG,hf];rfl
 ·split at h<;>first|(cases h;done)|skip
  rename_i n e sz JG;split at h<;>first|(cases h;done)|skip
  rename_i cs AH;simp only[ba]at h;subst h;obtain⟨i,h1,h2,rfl⟩:=zGw JG;obtain⟨zs,hf,NC⟩:=zAv hb.2 AH hp Ww;refine⟨.agg zs.toArray,by simp only[VR];exact⟨zs,rfl,NC⟩,λw=> ?_⟩;unfold Instr.build;simp only[bind,run_bind,EA,Cv.run_underlying h1,run_sizeOf h2,C2,hf];rfl
def KD (ρ:xE):List (Nat×ag)->List (Nat×V)
 |[]=>[]
 |(i,x)::l=>(i,mn ρ x)::KD ρ l
def UY {E:Ev} {ρS:xE} {ρ:Env} (h:mf E ρS ρ):∀(l:List (Nat×ag)),B9 E (KD ρS l) (l.map λp=>(p.1,ev ρ p.2))
 |[]=>by simp[KD,B9]
 |(i,x)::l=>by simp only[KD,iT,B9];exact⟨_,_,rfl,h.ev x,UY h l⟩
def aV (P:ab) (t:ac):Bool:=
 match P.underlying t with
 |some (.interface _)=>ar
 |none=>ar
 |_=>au
def VL:V->Bool
 | .nm _ _=>ar
 | .el _ _ _ _=>ar
 | .re _ _ _ _=>ar
 | .sub _ _=>ar
 |_=>au
def yEy {E:Ev} {v:V} {y:aa} (hp:VL v=ar) (h:VR E v y):∃a,y= .pointer (ap a):=by
 cases v<;>simp only[VL,nr]at hp<;>simp only[VR]at h
 ·obtain⟨b,oo,l,h1,rfl⟩:=h;exact⟨_,rfl⟩
 ·obtain⟨b,oo,m,c,l,h1,rfl⟩:=h;exact⟨_,rfl⟩
 ·obtain⟨_,_,b,o,l,T,fr,rfl,_⟩:=h;exact⟨_,rfl⟩
 ·obtain⟨hd,l,b,oo,h1,h2,rfl⟩:=h;exact⟨_,rfl⟩
def GL (ρ:xE):Option ag->Option (Option Int)
 |none=>ap aq
 |some x=>match mn ρ x with
  | .d (.v (.int _ n))=>ap (ap n)
  |_=>aq
def M9 (sz:Nat) (fh:List (List D)) (lo hi:Option Int) (K:V->Prop):Prop:=
 match lo,hi with
 |none,aq=>K (.d (.ro sz fh))
 |some l,aq=>(0<=l/\l<=fh.length)/\K (.d (.ro sz (fh.drop l.toNat)))
 |none,ap h=>(0<=h/\h<=fh.length)/\K (.d (.ro sz (fh.take h.toNat)))
 |some l,ap h=>(0<=l/\l<=h/\h<=fh.length)/\K (.d (.ro sz ((fh.take h.toNat).drop l.toNat)))
def Tt:ag->Bool
 | .const (.slice aq 0 0)=>ar
 |_=>au
def yAj (op:BinOp) (fh:List (List D)) (K:V->Prop):Prop:=
 ∀b:Bool,(b=ar->fh=[])->match op with
  | .eql=>K (.d (.v (.bool b)))
  | .neq=>K (.d (.v (.bool !b)))
  |_=>False
def z9j:V->V->Bool
 | .nm n o,.nm m p=>be n m && be o p
 |_,_=>au
def V5 (P:ab) (t:ac):Bool:=
 match P.underlying t with
 |some (.pointer e)=>(pM P e).isSome
 |_=>au
def z8n {P:ab} {t:ac} (h:V5 P t=ar):∃e i,P.underlying t=ap (.pointer e)/\P.info? e=ap i:=by
 unfold V5 at h;split at h<;>first|(cases h;done)|skip
 rename_i e he;unfold pM at h;split at h<;>first|(cases h;done)|skip
 rename_i i hi;exact⟨e,i,he,hi⟩
def yHf {E:Ev} {u v:V} {x y:aa} (h:z9j u v=ar) (hx:VR E u x) (hy:VR E v y):∃a,x= .pointer (ap a)/\y= .pointer (ap a):=by
 unfold z9j at h;split at h<;>first|(cases h;done)|skip
 simp only[ld]at h;have h1:=ji h.1;have h2:=ji h.2;subst h1 h2;simp only[VR]at hx hy;obtain⟨b,oo,l,e1,rfl⟩:=hx;obtain⟨b',oo',l',e2,rfl⟩:=hy;rw[e1]at e2;cases e2;exact⟨_,rfl,rfl⟩
def zNj {P:ab} {t:ac} (h:V5 P t=ar) (a:am) (w:af):(Op.equal t (.pointer (ap a)) (.pointer (ap a))).run P w= .ok ar w:=by
 obtain⟨e,i,h1,h2⟩:=z8n h;rw[nZ];generalize 9999=d;unfold cn;simp only[bind,pure,Cv.run_bind,Cv.run_underlying h1,Cv.run_sizeOf h2];split
 ·simp only[sameAddr,bind,pure,beq_self_eq_true,if_true];rfl
 ·simp only[beq_self_eq_true,if_true];rfl
def mpV (P:ab) (t:ac) (v:V) (y:ag):Bool:=
 match v,y with
 | .mp _,.const (.map aq)=>(match P.underlying t with
   |some (.map _ _)=>ar
   |_=>au)
 |_,_=>au
def yNd {P:ab} {t:ac} {v:V} {y:ag} (h:mpV P t v y=ar):(∃n,v= .mp n)/\y= .const (.map aq)/\∃a b,P.underlying t=ap (.map a b):=by
 unfold mpV at h;split at h<;>first|(cases h;done)|skip
 rename_i n;split at h<;>first|(cases h;done)|skip
 rename_i a b hu;exact⟨⟨n,rfl⟩,rfl,a,b,hu⟩
def Ex (P:ab) (o:ak) (ρ:xE) (K:V->Prop):Prop:=
 bif Ov o.op then(bif VP ρ o.op.operands.toList then bI P o (VD ρ) (λx=>K (CZ x))else False)else False
def sq (P:ab) (o:ak) (ρ:xE) (K:V->Prop):Prop:=
 match o.op with
 | .move x=>K (mn ρ x)
 | .assign x=>K (mn ρ x)
 | .pick c a b=>match mn ρ c with
   | .d (.v (.bool t))=>du t (K (mn ρ a)) (K (mn ρ b))
   |_=>False
 | .nilCheck x=>bif VL (mn ρ x)then K (mn ρ x)else Ex P o ρ K
 | .fieldAddr s x f=>iL (XV P s f) λoff=>match mn ρ x with
   | .nm n o=>K (.nm n (o+off))
   | .el n sz i g=>K (.el n sz i (g+off))
   | .re sz fh i g=>K (.re sz fh i (g+off))
   |_=>False
 | .indexAddr t x i=>match mn ρ i with
   | .d (.v (.int _ i))=>match mn ρ x with
     | .d (.ro sz fh)=>iL (fF P t) λoL=>bif be sz oL then(0<=i/\i<fh.length)/\K (.re sz fh i.toNat 0)else False
     | .nm n o=>iL (mD P t) λns=>bif bg 32 ns.1 && be ns.2 1 then(0<=i/\i<ns.1)/\K (.na n o i.toNat)else iL (Kt i ns.1) λj=>K (.nm n (o+j*ns.2))
     | .el n sz k g=>iL (mD P t) λns=>iL (Kt i ns.1) λj=>K (.el n sz k (g+j*ns.2))
     | .re sz fh k g=>iL (mD P t) λns=>iL (Kt i ns.1) λj=>K (.re sz fh k (g+j*ns.2))
     |_=>False
   |_=>False
 | .index t x i=>match mn ρ x with
   | .agg cs=>match mn ρ i with
     | .d (.v (.int _ i))=>iL (T6 P t) λns=>iL (Kt i ns.1) λj=>iL (V4 P ns.2.1 cs (j*ns.2.2)) K
     |_=>False
   |_=>Ex P o ρ K
 | .field t x f=>match mn ρ x with
   | .agg cs=>iL (YZ P t f) λfo=>iL (V4 P fo.1 cs fo.2) K
   |_=>False
 | .extract x i=>match mn ρ x with
   | .jm l=>iL l[i]? K
   |_=>False
 | .build t ps=>iL (z8t P t (KD ρ ps.toList)) K
 | .makeFunc (.func f) a b=>K (.fn f (C' ρ a.toList) (C' ρ b.toList))
 | .makeInterface t x=>bif aV P t then False else K (.An t (mn ρ x))
 | .typeAssert x _ a au=>bif aV P a then False else(match mn ρ x with
   | .An t v=>bif be t a then K v else False
   |_=>False)
 | .typeAssert x _ a ar=>bif aV P a then False else(match mn ρ x with
   | .An t v=>bif be t a then K (.jm [v,.d (.v (.bool ar))])else iL (pI P a) λz=>K (.jm [CZ z,.d (.v (.bool au))])
   | .d (.v .nilIface)=>iL (pI P a) λz=>K (.jm [CZ z,.d (.v (.bool au))])
   |_=>False)
 | .binOp op t x y _=>bif z9j (mn ρ x) (mn ρ y) && V5 P t then(match op with
    | .eql=>K (.d (.v (.bool ar)))
    | .neq=>K (.d (.v (.bool au)))
    |_=>False)else bif mpV P t (mn ρ x) y then(match op with
    | .eql=>K (.d (.v (.bool au)))
    | .neq=>K (.d (.v (.bool ar)))
    |_=>False)else bif VL (mn ρ x) && TA P t && Oi y then(match op with
    | .eql=>K (.d (.v (.bool au)))
    | .neq=>K (.d (.v (.bool ar)))
    |_=>False)else bif Tt y && Ho P t then(match mn ρ x with
     | .d (.ro _ fh)=>yAj op fh K
     |_=>Ex P o ρ K)else match GN (mn ρ x)with
    |some (.agg xs)=>match GN (mn ρ y)with
     |some (.agg ys)=>bif P.eqGuardType P.depth t then False else iL (yOk P t xs.toList ys.toList) λb=>match op with
      | .eql=>K (.d (.v (.bool b)))
      | .neq=>K (.d (.v (.bool !b)))
      |_=>False
     |_=>False
    |_=>Ex P o ρ K
 | .call c=>match c.callee with
   | .builtin .len=>match C' ρ c.args.toList with
     |[.d (.ro _ fh)]=>iL c.argTypes[0]? λt=>bif Ho P t then K (.d (.v (.int .i64 fh.length)))else False
     |_=>Ex P o ρ K
   | .builtin .min=>match C' ρ c.args.toList with
     |[.d (.v (.int k x)),.d (.v (.int _ y))]=>K (.d (.v (.int k (min x y))))
     |[.d (.v (.int k x)),.d (.v (.int _ y)),.d (.v (.int _ z))]=>K (.d (.v (.int k (min (min x y) z))))
     |_=>Ex P o ρ K
   |_=>Ex P o ρ K
 | .slice t x lo hi aq=>match mn ρ x with
   | .d (.ro sz fh)=>iL (fF P t) λoL=>bif be sz oL then Ep (GL ρ lo) (GL ρ hi) λl h=>M9 sz fh l h K else False
   |_=>Ex P o ρ K
 | .unOp _ _ _=>Ex P o ρ K
 | .convert _ _ _=>Ex P o ρ K
 |_=>False
def cE {b:Bool} {A B:Prop} (h:bif b then A else B):(b=ar/\A)\/(b=au/\B):=by
 cases b
 ·exact .inr ⟨rfl,h⟩
 ·exact .inl ⟨rfl,h⟩
def yBj {b:Bool} {A B:Prop} (h:du b A B):(b=ar/\A)\/(b=au/\B):=by
 cases b
 ·exact .inr ⟨rfl,h⟩
 ·exact .inl ⟨rfl,h⟩
def y0q (P:ab) (E:Ev) (o:ak) (ρ:Env) (K:V->Prop):Prop:=∃v y,K v/\VR E v y/\EP P (ae (ev ρ) o) y
def uF {P:ab} {E:Ev} {ρS:xE} {ρ:Env} (he:mf E ρS ρ) {o:ak} {K:V->Prop} (h:Ex P o ρS K):y0q P E o ρ K:=by
 unfold Ex at h;obtain⟨hp,h⟩:=zL h;obtain⟨hl,h⟩:=zL h;obtain⟨y,hk,hf⟩:=fX h;exact⟨_,y,hk,Oj E y,by rw[<- yFz hp (yAv he hl)];exact hf⟩
def VR.D8 {E:Ev} {k:ao} {i:Int} {y:aa} (h:VR E (.d (.v (.int k i))) y):y= .int k i:=by
 simp only[VR,DR]at h;exact h.1
def wB {E:Ev} {x:aa} (h:x.oz=ar):VR E (.d (.v x)) x:=by
 simp only[VR,DR];exact⟨trivial,h⟩
def dU {E:Ev} {ρS:xE} {ρ:Env} (he:mf E ρS ρ) {x:Option ag} {r:Option Int} (h:GL ρS x=ap r):Dd ρ x=ap r:=by
 cases x with
 |none=>exact h
 |some x=>
  simp only[GL]at h;split at h<;>first|(cases h;done)|skip
  rename_i k n hx;have:=he.ev x;rw[hx]at this;simp only[Dd,this.D8];exact h
def DR.FD {F:PH} {sz lo hi:Nat} {fh:List (List D)} {a:Option am} {c:Nat} (h:DR F (.ro sz fh) (.slice a fh.length c)) (h1:lo<=hi) (h2:hi<=fh.length):
 DR F (.ro sz ((fh.take hi).drop lo)) (.slice (if c=lo then a else a.map (·.add (lo*sz))) (hi-lo) (c-lo)):=by
 simp only[DR]at h ⊢;obtain⟨a',c',e,hc,hs,hm⟩:=h;cases e;have hlen:((fh.take hi).drop lo).length=hi-lo:=by rw[qc,oK];omega
 refine⟨_,c-lo,by rw[hlen],by rw[hlen];omega,λel qf=>hs el (Po (Jp qf)),?_⟩;by_cases h0:lo=hi
 ·left;exact zm (by omega)
 ·right;rcases hm with hm|⟨b,o,l,T,fr,rfl,h4,h5⟩
  ·subst hm;simp at h2;omega
  ·refine⟨b,o+lo*sz,l,T,fr,?_,h4,?_⟩
   ·rw[dx (by omega)];simp[uX]
   ·obtain⟨xs,r,e,hx⟩:=o8.1 h5;refine o8.2 ⟨(xs.drop (lo*sz)).take ((hi-lo)*sz),(xs.drop (lo*sz)).drop ((hi-lo)*sz)++r,?_,?_⟩
    ·rw[<- km,A3,<- CU,e,GZ];rw[hx.length,j9 hs];exact yh _ (by omega)
    ·have:=(hx.drop (lo*sz)).take ((hi-lo)*sz);rw[sE lo hs,sG (hi-lo) (λel qf=>hs el (Jp qf)),List.take_drop]at this;rw[show lo+(hi-lo)=hi by omega]at this;exact this
def DR.FY {F:PH} {sz:Nat} {fh:List (List D)} {y:aa} (h:DR F (.ro sz fh) y) {lo hi:Option Int} {K:V->Prop} (hk:M9 sz fh lo hi K):
 ∃a c v,y= .slice a fh.length c/\K v/\uq a fh.length c lo hi sz λp n c=>∀E:Ev,E.F=F->VR E v (.slice p n c):=by
 have h0:=h;simp only[DR]at h0;obtain⟨a,c,rfl,hc,_⟩:=h0;unfold M9 at hk;split at hk
 ·exact⟨a,c,_,rfl,hk,by simp only[uq];exact⟨hc,λE hE=>by subst hE;simpa only[VR]using h⟩⟩
 ·rename_i l;obtain⟨⟨h1,h2⟩,hk⟩:=hk;refine⟨a,c,_,rfl,hk,?_⟩;simp only[uq];refine⟨⟨h1,h2,hc⟩,λE hE=> ?_⟩;subst hE;have:=h.FD (lo:=l.toNat) (hi:=fh.length) (by omega) (mg _);rw[oV (mg _)]at this;simpa only[VR]using this
 ·rename_i u;obtain⟨⟨h1,h2⟩,hk⟩:=hk;refine⟨a,c,_,rfl,hk,?_⟩;simp only[uq];refine⟨⟨h1,by omega⟩,λE hE=> ?_⟩;subst hE;have:=h.FD (lo:=0) (hi:=u.toNat) (by omega) (by omega);simp only[bo,lI,ite_self,Nat.sub_zero,Eu]at this;simpa only[VR]using this
 ·rename_i l u;obtain⟨⟨h1,h2,h3⟩,hk⟩:=hk;refine⟨a,c,_,rfl,hk,?_⟩;simp only[uq];refine⟨⟨h1,h2,by omega⟩,λE hE=> ?_⟩;subst hE;have:=h.FD (lo:=l.toNat) (hi:=u.toNat) (by omega) (by omega);simpa only[VR]using this
def z2b {p:Option am} {n c:Nat} {lo hi:Option Int} {sz:Nat} {K K':Option am->Nat->Nat->Prop} (h:∀p n c,K p n c->K' p n c) (hk:uq p n c lo hi sz K):uq p n c lo hi sz K':=by
 unfold uq at*;cases lo<;>cases hi<;>exact⟨hk.1,h _ _ _ hk.2⟩
def zTj {P:ab} {t:ac} (h:TA P t=ar) (a:am):cW P t (.pointer (ap a))=ap au:=by
 obtain⟨e,he⟩:=z3u h;unfold cW;rw[he];rfl
def yIk {y:ag} (h:Oi y=ar):y= .const (.pointer aq):=by
 unfold Oi at h;split at h
 ·rfl
 ·cases h
def zRk {P:ab} {E:Ev} {ρ:Env} {o:ak} {op:BinOp} {t u:ac} {x y:ag} {fh:List (List D)} {K:V->Prop} {a:Option am} {n c:Nat} (ho:o.op= .binOp op t x y u) (hy:Tt y=ar) (ht:Ho P t=ar)
 (hx:ev ρ x= .slice a n c) (ha:a=aq->fh=[]) (h:yAj op fh K):y0q P E o ρ K:=by
 have qe:y= .const (.slice aq 0 0):=by
  unfold Tt at hy;split at hy
  ·rfl
  ·cases hy
 subst qe;obtain⟨e,he⟩:=eG ht;have hn:cW P t (.slice a n c)=ap a.isNone:=by unfold cW;rw[he]
 have hk:=h a.isNone (λhb=>ha (by simpa using hb));split at hk<;>first|exact hk.elim|skip
 ·refine⟨_,.bool a.isNone,hk,wB rfl,?_⟩;have:=xX (P:=P) (neg:=au) (r:=a.isNone) (ρ:=ρ) ho (by rw[hx];trivial) trivial (λw=>by rw[hx];exact xD trivial w) (λw=>by rw[hx];exact fV hn w);simpa using this
 ·refine⟨_,.bool (!a.isNone),hk,wB rfl,?_⟩;have:=xX (P:=P) (neg:=ar) (r:=a.isNone) (ρ:=ρ) ho (by rw[hx];trivial) trivial (λw=>by rw[hx];exact xD trivial w) (λw=>by rw[hx];exact fV hn w);simpa using this
def z5m {P:ab} {E:Ev} {ρS:xE} {ρ:Env} (he:mf E ρS ρ) {o:ak} {K:V->Prop} (h:sq P o ρS K):y0q P E o ρ K:=by
 cases ho:o.op
 case move x=>simp only[sq,ho]at h;exact⟨_,_,h,he.ev x,λw=>by simp only[ae,ho];rfl⟩
 case assign x=>simp only[sq,ho]at h;exact⟨_,_,h,he.ev x,λw=>by simp only[ae,ho];rfl⟩
 case pick c a b=>
  simp only[sq,ho]at h;split at h<;>first|exact h.elim|skip
  rename_i t hc;have hv:=he.ev c;rw[hc]at hv;simp only[VR,DR]at hv;rcases yBj h with⟨rfl,h⟩|⟨rfl,h⟩
  ·exact⟨_,_,h,he.ev a,λw=>by simp only[ae,ho,hv.1,asBool,bind,pure,cg,cf];rfl⟩
  ·exact⟨_,_,h,he.ev b,λw=>by simp only[ae,ho,hv.1,asBool,bind,pure,cg,cf];rfl⟩
 case nilCheck x=>
  simp only[sq,ho]at h;rcases cE h with⟨hp,h⟩|⟨_,h⟩
  ·obtain⟨a,ha⟩:=yEy hp (he.ev x);exact⟨_,_,h,he.ev x,λw=>by simp only[ae,ho,ha];rfl⟩
  ·exact uF he h
 case fieldAddr s x f=>
  simp only[sq,ho]at h;obtain⟨off,hf,h⟩:=zM h;obtain⟨fs,fd,i,h1,h2,h3,h4,rfl⟩:=zUt hf;have hv:=he.ev x;have run:∀b oo,ev ρ x= .pointer (ap ⟨b,oo,aq⟩)->EP P (ae (ev ρ) o) (.pointer (ap ⟨b,oo+fd.offset,aq⟩)):=by
   intro b oo hx;simp only[ae,ho,hx];refine yF λw=> ?_
   simp only[Instr.fieldAt,Instr.sureAddr,fieldPlace,bind,pure,run_bind,cg,cf,Cv.run_underlying h1,h2,run_sizeOf h3,dx h4,uX]
  split at h<;>first|exact h.elim|skip
  ·rename_i n o' hx;rw[hx]at hv;simp only[VR]at hv;obtain⟨b,oo,l,e1,e2⟩:=hv;exact⟨_,_,h,by simp only[VR];exact⟨b,oo,l,e1,rfl⟩,by have:=run _ _ e2;rw[DM]at this;exact this⟩
  ·rename_i n sz i g hx;rw[hx]at hv;simp only[VR]at hv;obtain⟨b,oo,m,c,l,e1,e2⟩:=hv;exact⟨_,_,h,by simp only[VR];exact⟨b,oo,m,c,l,e1,rfl⟩,by have:=run _ _ e2;rw[DM _ g]at this;exact this⟩
  ·rename_i sz fh i g hx;rw[hx]at hv;simp only[VR]at hv;obtain⟨e0,e1,b,oo,l,T,fr,e2,e3,e4⟩:=hv;exact⟨_,_,h,by simp only[VR];exact⟨e0,e1,b,oo,l,T,fr,rfl,e3,e4⟩,by have:=run _ _ e2;rw[DM _ g]at this;exact this⟩
 case indexAddr t x i=>
  simp only[sq,ho]at h;split at h<;>first|exact h.elim|skip
  rename_i k i' hi;have A8:=he.ev i;rw[hi]at A8;have A8:=A8.D8;have hv:=he.ev x;have arr:∀{b oo:Nat} {ns:Nat×Nat} {j:Nat},mD P t=ap ns->Kt i' ns.1=ap j->ev ρ x= .pointer (ap ⟨b,oo,aq⟩)->EP P (ae (ev ρ) o) (.pointer (ap ⟨b,oo+j*ns.2,aq⟩)):=by
   intro b oo ns j oW hj hx;obtain⟨rfl,iq⟩:=zRo hj;simp only[ae,ho,hx,A8];refine yF λw=> ?_
   rw[cN oW ⟨by omega,by omega⟩,uX];simp
  split at h<;>first|exact h.elim|skip
  ·rename_i sz fh hx;obtain⟨oL,hs,h⟩:=zM h;obtain⟨hb,⟨h0,h1⟩,hk⟩:=zL h;have:=ji hb;subst this;rw[hx]at hv;simp only[VR,DR]at hv;obtain⟨a,c,e1,e2,e3,e4⟩:=hv;rcases e4 with e4|⟨b,oo,l,T,fr,rfl,e5,e6⟩
   ·subst e4;simp at h1;omega
   refine⟨_,.pointer (ap ⟨b,oo+i'.toNat*sz,aq⟩),hk,?_,?_⟩
   ·simp only[VR];exact⟨by omega,e3,b,oo,l,T,fr,rfl,e5,e6⟩
   ·simp only[ae,ho,e1,A8];refine yF λw=> ?_
    rw[wD hs ⟨h0,by omega⟩,uX]
  ·rename_i n o' hx;obtain⟨ns,hs,h⟩:=zM h;rcases cE h with⟨hb,⟨h0,h1⟩,h⟩|⟨_,h⟩
   ·simp only[ld]at hb;have oG:=ji hb.2;rw[hx]at hv;simp only[VR]at hv;obtain⟨b,oo,l,e1,e2⟩:=hv;refine⟨_,.pointer (ap ⟨b,oo+(o'+i'.toNat),aq⟩),h,by simp only[VR];exact⟨b,oo,l,e1,rfl⟩,?_⟩;simp only[ae,ho,e2,A8];refine yF λw=> ?_
    rw[cN hs ⟨h0,h1⟩,uX,oG,Nat.mul_one,DM]
   obtain⟨j,hj,h⟩:=zM h;rw[hx]at hv;simp only[VR]at hv;obtain⟨b,oo,l,e1,e2⟩:=hv;exact⟨_,_,h,by simp only[VR];exact⟨b,oo,l,e1,rfl⟩,by have:=arr hs hj e2;rw[DM]at this;exact this⟩
  ·rename_i n sz i g hx;obtain⟨ns,hs,h⟩:=zM h;obtain⟨j,hj,h⟩:=zM h;rw[hx]at hv;simp only[VR]at hv;obtain⟨b,oo,m,c,l,e1,e2⟩:=hv;exact⟨_,_,h,by simp only[VR];exact⟨b,oo,m,c,l,e1,rfl⟩,by have:=arr hs hj e2;rw[DM _ g]at this;exact this⟩
  ·rename_i sz fh i g hx;obtain⟨ns,hs,h⟩:=zM h;obtain⟨j,hj,h⟩:=zM h;rw[hx]at hv;simp only[VR]at hv;obtain⟨e0,e1,b,oo,l,T,fr,e2,e3,e4⟩:=hv;exact⟨_,_,h,by simp only[VR];exact⟨e0,e1,b,oo,l,T,fr,rfl,e3,e4⟩,by have:=arr hs hj e2;rw[DM _ g]at this;exact this⟩
 case index t x i=>
  simp only[sq,ho]at h;split at h
  ·rename_i cs hx;split at h<;>first|exact h.elim|skip
   rename_i k i' hi;obtain⟨⟨n,e,sz⟩,hs,h⟩:=zM h;obtain⟨j,hj,h⟩:=zM h;obtain⟨v,hp,hk⟩:=zM h;have A8:=he.ev i;rw[hi]at A8;have A8:=A8.D8;have hv:=he.ev x;rw[hx]at hv;simp only[VR]at hv;obtain⟨ys,e1,e2⟩:=hv;obtain⟨y,hy,hr⟩:=zNz e2 hp;obtain⟨rfl,iq⟩:=zRo hj;obtain⟨inf,q1,q2,q3⟩:=zGw hs;refine⟨v,y,hk,hy,?_⟩;simp only[ae,ho,e1,A8];refine yF λw=> ?_
   have hb:(0:Int)<=(j:Int)/\(j:Int)<n:=⟨by omega,by omega⟩
   simp only[Instr.index,asIntOf,bind,pure,run_bind,cg,cf,Cv.run_underlying q1,fk hb,run_sizeOf q2,q3];exact hr w
  ·exact uF he h
 case field t x f=>
  simp only[sq,ho]at h;split at h<;>first|exact h.elim|skip
  rename_i cs hx;obtain⟨⟨ft,off⟩,hf,h⟩:=zM h;obtain⟨v,hp,hk⟩:=zM h;have hv:=he.ev x;rw[hx]at hv;simp only[VR]at hv;obtain⟨ys,e1,e2⟩:=hv;obtain⟨y,hy,hr⟩:=zNz e2 hp;obtain⟨fs,fd,h1,h2,rfl,rfl⟩:=zRw hf;refine⟨v,y,hk,hy,?_⟩;simp only[ae,ho,e1];refine yF λw=> ?_
  simp only[Instr.field,asAgg,bind,pure,run_bind,cg,cf,Cv.run_underlying h1,h2];exact hr w
 case extract x i=>
  simp only[sq,ho]at h;split at h<;>first|exact h.elim|skip
  rename_i l hx;obtain⟨v,hl,h⟩:=zM h;have hv:=he.ev x;rw[hx]at hv;simp only[VR]at hv;obtain⟨ys,e1,e2⟩:=hv;obtain⟨y,hy,hr⟩:=e2.get hl;refine⟨v,y,h,hr,?_⟩;simp only[ae,ho,e1];refine yF λw=> ?_
  have:ys.toArray[i]? =ap y:=by simp[hy]
  simp only[Instr.extract,this];rfl
 case build t ps=>
  simp only[sq,ho]at h;obtain⟨v,hb,h⟩:=zM h;obtain⟨y,hy,hr⟩:=z0r (UY he ps.toList) hb;refine⟨v,y,h,hy,?_⟩;simp only[ae,ho];refine yF λw=> ?_
  have:(ps.map λ(i,x)=>(i,ev ρ x))=(ps.toList.map λp=>(p.1,ev ρ p.2)).toArray:=by
   apply cy;simp
  rw[this];exact hr w
 case makeFunc fn a b=>
  cases fn<;>simp only[sq,ho]at h
  rename_i f;obtain⟨as,e1,e2⟩:=mA he a;obtain⟨bs,e3,e4⟩:=mA he b;refine⟨_,.func (.func f) as.toArray bs.toArray,h,by simp only[VR];exact⟨as,bs,rfl,e2,e4⟩,?_⟩;simp only[ae,ho,e1,e3];exact yF λw=>rfl
 case makeInterface t x=>
  simp only[sq,ho]at h;obtain⟨hb,h⟩:aV P t=au/\K (.An t (mn ρS x)):=by
   revert h;cases aV P t<;>intro h
   ·exact⟨rfl,h⟩
   ·exact h.elim
  refine⟨_,.iface t (ev ρ x),h,by simp only[VR];exact⟨_,rfl,he.ev x⟩,?_⟩;simp only[ae,ho];refine yF λw=> ?_
  unfold aV at hb;cases hd:P.underlying t with
  |none=>rw[hd]at hb;cases hb
  |some d=>
   rw[hd]at hb;unfold Instr.makeInterface;simp only[bind,run_bind,Cv.run_underlying hd];cases d<;>first|rfl|cases hb
 case typeAssert x xt a ok=>
  cases ok with
  |true=>
   simp only[sq,ho]at h;obtain⟨hb,h⟩:aV P a=au/\(match mn ρS x with
    | .An t v=>bif be t a then K (.jm [v,.d (.v (.bool ar))])else iL (pI P a) λz=>K (.jm [CZ z,.d (.v (.bool au))])
    | .d (.v .nilIface)=>iL (pI P a) λz=>K (.jm [CZ z,.d (.v (.bool au))])
    |_=>False):=by
    revert h;cases aV P a<;>intro h
    ·exact⟨rfl,h⟩
    ·exact h.elim
   have jf:∃d,P.underlying a=ap d/\∀ms,d≠.interface ms:=by
    unfold aV at hb;split at hb<;>first|(cases hb;done)|skip
    rename_i LJ LI;cases hu:P.underlying a with
    |none=>exact absurd hu LI
    |some d=>exact⟨d,rfl,λms e=>LJ ms (by rw[hu,e])⟩
   obtain⟨d,hu,hd⟩:=jf;have Kd:∀z,pI P a=ap z->VR E (.jm [CZ z,.d (.v (.bool au))]) (.tuple #[z,.bool au]):=λz hz=>by
    simp only[VR,im,DR];exact⟨[z,.bool au],rfl,_,_,rfl,Oj E z,_,_,rfl,⟨rfl,rfl⟩,rfl⟩
   split at h<;>first|exact h.elim|skip
   ·rename_i t v hx;have hv:=he.ev x;rw[hx]at hv;simp only[VR]at hv;obtain⟨z,e1,e2⟩:=hv;rcases cE h with⟨ht,hk⟩|⟨ht,hk⟩
    ·have:=ji ht;subst this;refine⟨_,.tuple #[z,.bool ar],hk,?_,?_⟩
     ·simp only[VR,im,DR];exact⟨[z,.bool ar],rfl,_,_,rfl,e2,_,_,rfl,⟨rfl,rfl⟩,rfl⟩
     ·simp only[ae,ho,e1];refine yF λw=> ?_
      simp only[cd,bind,run_bind,Cv.run_underlying hu];cases d<;>first|rfl|exact absurd rfl (hd _)|(simp only[if_true];rfl)
    ·obtain⟨z0,hz,hk⟩:=zM hk;have hta:¬t=a:=λe=>by subst e;rw[Nat.beq_refl]at ht;cases ht
     refine⟨_,.tuple #[z0,.bool au],hk,Kd z0 hz,?_⟩;simp only[ae,ho,e1];refine yF λw=> ?_
     simp only[cd,bind,run_bind,Cv.run_underlying hu];cases d<;>first|exact absurd rfl (hd _)|(simp only[dx hta,if_true,bind,run_bind,Cv.mq (bV hz) w];rfl)
   ·rename_i hx;have hv:=he.ev x;rw[hx]at hv;simp only[VR,DR]at hv;obtain⟨z0,hz,hk⟩:=zM h;refine⟨_,.tuple #[z0,.bool au],hk,Kd z0 hz,?_⟩;simp only[ae,ho,hv.1];refine yF λw=> ?_
    simp only[cd,bind,run_bind,Cv.run_underlying hu];cases d<;>first|exact absurd rfl (hd _)|(simp only[if_true,bind,run_bind,Cv.mq (bV hz) w];rfl)
  |false=>
   simp only[sq,ho]at h;obtain⟨hb,h⟩:aV P a=au/\(match mn ρS x with
    | .An t v=>bif be t a then K v else False
    |_=>False):=by
    revert h;cases aV P a<;>intro h
    ·exact⟨rfl,h⟩
    ·exact h.elim
   split at h<;>first|exact h.elim|skip
   rename_i t v hx;obtain⟨ht,hk⟩:=zL h;have:=ji ht;subst this;have hv:=he.ev x;rw[hx]at hv;simp only[VR]at hv;obtain⟨z,e1,e2⟩:=hv;refine⟨v,z,hk,e2,?_⟩;simp only[ae,ho,e1];refine yF λw=> ?_
   unfold aV at hb;split at hb<;>first|(cases hb;done)|skip
   rename_i LJ LI;cases hu:P.underlying t with
   |none=>exact absurd hu LI
   |some d=>
    simp only[cd,bind,run_bind,Cv.run_underlying hu];cases d<;>first|rfl|exact absurd hu (LJ _)|(simp only[if_true];rfl)
 case binOp op t x y u=>
  simp only[sq,ho]at h;rcases cE h with⟨hp,hk⟩|⟨_,h⟩
  ·simp only[ld]at hp;obtain⟨a,hx,hy⟩:=yHf hp.1 (he.ev x) (he.ev y);clear h;split at hk<;>first|exact hk.elim|skip
   ·refine⟨_,.bool ar,hk,wB rfl,?_⟩;have:=xX (P:=P) (neg:=au) (r:=ar) (ρ:=ρ) ho (by rw[hx];trivial) (by rw[hy];trivial) (λw=>by rw[hx,hy];exact xD trivial w) (λw=>by rw[hx,hy];exact zNj hp.2 a w);simpa using this
   ·refine⟨_,.bool au,hk,wB rfl,?_⟩;have:=xX (P:=P) (neg:=ar) (r:=ar) (ρ:=ρ) ho (by rw[hx];trivial) (by rw[hy];trivial) (λw=>by rw[hx,hy];exact xD trivial w) (λw=>by rw[hx,hy];exact zNj hp.2 a w);simpa using this
  rcases cE h with⟨hp,hk⟩|⟨_,h⟩
  ·obtain⟨⟨n,hx⟩,rfl,ka,kb,hu⟩:=yNd hp;have hv:=he.ev x;rw[hx]at hv;simp only[VR]at hv;obtain⟨b,l,_,ha⟩:=hv;have hr:cW P t (.map (ap b))=ap au:=by simp[cW,hu]
   clear h;split at hk<;>first|exact hk.elim|skip
   ·refine⟨_,.bool au,hk,wB rfl,?_⟩;have:=xX (P:=P) (neg:=au) (r:=au) (ρ:=ρ) ho (by rw[ha];trivial) trivial (λw=>by rw[ha];exact xD trivial w) (λw=>by rw[ha];exact aB hr w);simpa using this
   ·refine⟨_,.bool ar,hk,wB rfl,?_⟩;have:=xX (P:=P) (neg:=ar) (r:=au) (ρ:=ρ) ho (by rw[ha];trivial) trivial (λw=>by rw[ha];exact xD trivial w) (λw=>by rw[ha];exact aB hr w);simpa using this
  rcases cE h with⟨hp,hk⟩|⟨_,h⟩
  ·simp only[ld]at hp;obtain⟨⟨WH,Jx⟩,hp3⟩:=hp;obtain⟨a,ha⟩:=yEy WH (he.ev x);have hy:=yIk hp3;subst hy;clear h;split at hk<;>first|exact hk.elim|skip
   ·refine⟨_,.bool au,hk,wB rfl,?_⟩;have:=xX (P:=P) (neg:=au) (r:=au) (ρ:=ρ) ho (by rw[ha];trivial) trivial (λw=>by rw[ha];exact xD trivial w) (λw=>by rw[ha];exact aE (zTj Jx a) w);simpa using this
   ·refine⟨_,.bool ar,hk,wB rfl,?_⟩;have:=xX (P:=P) (neg:=ar) (r:=au) (ρ:=ρ) ho (by rw[ha];trivial) trivial (λw=>by rw[ha];exact xD trivial w) (λw=>by rw[ha];exact aE (zTj Jx a) w);simpa using this
  ·rcases cE h with⟨hp,hk⟩|⟨_,h⟩
   ·simp only[ld]at hp;clear h;split at hk
    ·rename_i sz fh hx;have hv:=he.ev x;rw[hx]at hv;simp only[VR,DR]at hv;obtain⟨a,c,e1,_,_,e4⟩:=hv;exact zRk ho hp.1 hp.2 e1 (λha=>by
      rcases e4 with e4|⟨_,_,_,_,_,e5,_⟩
      ·exact e4
      ·rw[ha]at e5;cases e5) hk
    ·exact uF he hk
   ·split at h
    ·rename_i xs we;split at h<;>first|exact h.elim|skip
     rename_i ys G6;rcases cE h with⟨_,hk⟩|⟨hgt,hk⟩
     ·exact hk.elim
     clear h;obtain⟨b,hb,hk⟩:=zM hk;have ex:=tZ we (he.ev x);have ey:=tZ G6 (he.ev y);have jr:=λw=>yIf (P:=P) hb w
     simp only[Pn]at jr;have hg:∀(op:BinOp) w,(eqGuard op t x y (.agg xs) (.agg ys)).run P w= .ok () w:=by
      intro op w;unfold eqGuard;cases op<;>first|rfl|(simp[bind,pure,run_bind,program,cf,cg,hgt])
     split at hk<;>first|exact hk.elim|skip
     ·refine⟨_,.bool b,hk,wB rfl,?_⟩;have:=xX (P:=P) (neg:=au) (r:=b) (ρ:=ρ) ho (by rw[ex];trivial) (by rw[ey];trivial) (λw=>by rw[ex,ey];exact hg _ w) (λw=>by rw[ex,ey];exact jr w);simpa using this
     ·refine⟨_,.bool (!b),hk,wB rfl,?_⟩;have:=xX (P:=P) (neg:=ar) (r:=b) (ρ:=ρ) ho (by rw[ex];trivial) (by rw[ey];trivial) (λw=>by rw[ex,ey];exact hg _ w) (λw=>by rw[ex,ey];exact jr w);simpa using this
    ·exact uF he h
 case call c=>
  simp only[sq,ho]at h;split at h
  ·rename_i hc;split at h
   ·rename_i sz fh ot;obtain⟨t,ht,h⟩:=zM h;obtain⟨hs,h⟩:=zL h;obtain⟨ys,e1,e2⟩:=mA he c.args;rw[ot]at e2;simp only[im,VR,DR]at e2;obtain⟨y,_,rfl,⟨a,k,rfl,_⟩,rfl⟩:=e2;refine⟨_,.int .i64 fh.length,h,wB rfl,?_⟩;rw[wG ho hc,e1];obtain⟨e,Lc⟩:=eG hs;refine yF λw=> ?_
    simp only[cw,ht,A4,CX,bind,run_bind,Cv.run_underlying Lc];rfl
   ·exact uF he h
  ·rename_i hc;split at h
   ·rename_i kk x k2 y ot;obtain⟨ys,e1,e2⟩:=mA he c.args;rw[ot]at e2;simp only[im,VR,DR]at e2;obtain⟨_,_,rfl,⟨rfl,_⟩,_,_,rfl,⟨rfl,_⟩,rfl⟩:=e2;refine⟨_,.int kk (min x y),h,wB rfl,?_⟩;rw[wG ho hc,e1];refine yF λw=> ?_
    rw[show min x y=if y<x then y else x by rw[Int.min_def];split<;>split<;>omega];apply run_min_int2
   ·rename_i kk x k2 y k3 z ot;obtain⟨ys,e1,e2⟩:=mA he c.args;rw[ot]at e2;simp only[im,VR,DR]at e2;obtain⟨_,_,rfl,⟨rfl,_⟩,_,_,rfl,⟨rfl,_⟩,_,_,rfl,⟨rfl,_⟩,rfl⟩:=e2;refine⟨_,.int kk (min (min x y) z),h,wB rfl,?_⟩;rw[wG ho hc,e1];refine yF λw=> ?_
    rw[show min (min x y) z=if z<(if y<x then y else x)then z else(if y<x then y else x)by rw[Int.min_def,Int.min_def];repeat' split<;>omega];apply run_min_int3
   ·exact uF he h
  ·exact uF he h
 case slice t x lo hi mx=>
  cases mx with
  |some m=>simp only[sq,ho]at h
  |none=>
   simp only[sq,ho]at h;split at h
   ·rename_i sz fh hx;obtain⟨oL,hs,h⟩:=zM h;obtain⟨hb,hh⟩:=zL h;have:=ji hb;subst this;obtain⟨l,u,h1,h2,hh⟩:=rH hh;have hv:=he.ev x;rw[hx]at hv;simp only[VR]at hv;obtain⟨a,c,v,e1,hk,yq⟩:=hv.FY hh;have hp:bI P o ρ (λy=>VR E v y):=by
     simp only[bI,ho,e1,hs,dU he h1,dU he h2,Ep];exact z2b (λp n c hh=>hh E rfl) yq
    obtain⟨y,hy,hf⟩:=fX hp;exact⟨v,y,hk,hy,hf⟩
   ·exact uF he h
 case unOp op t x=>simp only[sq,ho]at h;exact uF he h
 case convert s d x=>simp only[sq,ho]at h;exact uF he h
 all_goals(simp only[sq,ho]at h)
end Sx
namespace Cv
open Go Go.RowKit
def yHq {φ:H9} {b:Nat} {xs:List V} {t:ac} {C1:Option Nat} {O:Obj} (h:coT φ b (.cells xs t C1) O):∃r,O= .cells (He φ xs++r).toArray t/\(∀sz,C1=ap sz->xs.length+r.length=(φ b).2*sz)/\(C1=aq->r=[]):=by
 cases C1 with
 |none=>
  have h':O= .cells (He φ xs).toArray t:=h;exact⟨[],by rw[h',pd],by simp,λ_=>rfl⟩
 |some sz=>
  obtain⟨r,h1,h2⟩:=h;exact⟨r,h1,λs hs=>(by cases hs;exact h2),by simp⟩
def Rel.cells {φ:H9} {s:St} {w:af} (R:Rel φ s w) {b:Nat} {xs:List V} {t:ac} {C1:Option Nat} (h:s.get b=ap (.cells xs t C1)):
 ∃r,w.heap[(φ b).1]? =ap (.cells (He φ xs++r).toArray t)/\(∀sz,C1=ap sz->xs.length+r.length=(φ b).2*sz)/\(C1=aq->r=[]):=by
 obtain⟨O,h1,h2⟩:=R.obj b _ h;obtain⟨r,rfl,h3,h4⟩:=yHq h2;exact⟨r,h1,h3,h4⟩
def gU {P:ab} {t k e:ac} (h:GM P t=ap (k,e)):P.underlying t=ap (.map k e):=by
 unfold GM at h;split at h
 ·simp only[ba,cu]at h;obtain⟨rfl,rfl⟩:=h;assumption
 ·cases h
def qR {P:ab} {w:af} {r:Nat} {O:Obj} (h:w.heap[r]? =ap O) (hO:match O with| .cells _ _ _=>False|_=>True):(getObj r).run P w= .ok O w:=by
 simp only[getObj,cf,h];cases O<;>first|exact hO.elim|rfl
def yFm {P:ab} {t:ac} (h:Pg P t=ar):∃e,P.underlying t=ap (.slice e)/\P.underlying e=ap (.int .u8):=by
 unfold Pg at h;split at h<;>first|(cases h;done)|skip
 rename_i e he;split at h<;>first|(cases h;done)|skip
 exact⟨e,he,by assumption⟩
def zHz {P:ab} (w:af) {F:aa->ByteArray->Sem (ForInStep ByteArray)} (hF:∀(n:Nat) (s:ByteArray),F (.int .u8 (n:Int)) s= .pure (.yield (s.push (UInt8.ofNat n)))):∀(l:List Nat) (acc:ByteArray),
 ((forIn (l.map λ(n:Nat)=>Value.int .u8 (n:Int)) acc F):Sem ByteArray).run P w= .ok (acc++bs l) w
 |[],acc=>by
  have:acc++bs []=acc:=by apply ByteArray.ext;simp[bs]
  rw[this];rfl
 |n::l,acc=>by
  have ih:=zHz (P:=P) w hF l (acc.push (UInt8.ofNat n));simp only[iT,List.forIn_cons,bind,hF,cg];rw[ih];congr 1;apply ByteArray.ext;simp[bs,Nat.toUInt8]
end Cv
namespace Sx
open Go Go.RowKit Cv
def Rel.focus {k:Ko} {L:List HP} {E:Ev} {s:St} {w:af} (R:Rel k L E s w) {n:Nat} {o:fw} (h:s.get n=ap o):
 Hp k w (iu E (n,o)::((vY n s.rows).map (iu E)++fz E.F::L)):=by
 refine R.hp.perm ?_;have:=((uG h).1.map (iu E)).append_right (fz E.F::L);simpa using this
def Rel.ov {k:Ko} {L:List HP} {E:Ev} {s:St} {w w':af} (R:Rel k L E s w) {n:Nat} {o:fw} (h:s.get n=ap o) {o':fw}
 (H:Hp k w' (iu E (n,o')::((vY n s.rows).map (iu E)++fz E.F::L))):Rel k L E (s.set n o') w':=by
 refine⟨R.nx,H.perm ?_⟩;have:=(((uG h).2 o').map (iu E)).append_right (fz E.F::L);simpa[St.set]using this.symm
def Rel.frozen {k:Ko} {L:List HP} {E:Ev} {s:St} {w:af} (R:Rel k L E s w):∀b o,E.F b=ap o->w.heap[b]? =ap o:=by
 have H:Hp k w (fz E.F::(s.rows.map (iu E)++L)):=R.hp.perm ni;obtain⟨h,⟨rfl,_⟩,hs⟩:=H.sat;exact hs
def Rel.row {k:Ko} {L:List HP} {E:Ev} {s:St} {w:af} (R:Rel k L E s w) {n:Nat} {o:fw} (h:s.get n=ap o) (hg:o≠.gone):
 ∃hd x,E.gu[n]? =ap hd/\gg E.F o E.gu hd x/\Sub x w:=by
 obtain⟨x,hx,hs⟩:=(R.focus h).sat;rcases hx with⟨e,_⟩|⟨hd,h1,h2⟩
 ·exact absurd e hg
 ·exact⟨hd,x,h1,h2,hs⟩
def Rel.cells {k:Ko} {L:List HP} {E:Ev} {s:St} {w:af} (R:Rel k L E s w) {n:Nat} {vs:List V} {t:ac} (h:s.get n=ap (.cells vs t)):
 ∃b l sub,E.gu[n]? =ap (.pointer (ap ⟨b,0,aq⟩),sub)/\im E vs l/\w.heap[b]? =ap (.cells l.toArray t):=by
 obtain⟨⟨hv,sub⟩,x,h1,h2,h3⟩:=R.row h (by simp);simp only[gg]at h2;obtain⟨b,l,rfl,h4,rfl⟩:=h2;exact⟨b,l,sub,h1,h4,h3 b _ (by simp[one])⟩
def Rel.vec {k:Ko} {L:List HP} {E:Ev} {s:St} {w:af} (R:Rel k L E s w) {n:Nat} {ds:List D} {t:ac} (h:s.get n=ap (.vec ds t)):
 ∃b l sub,E.gu[n]? =ap (.pointer (ap ⟨b,0,aq⟩),sub)/\iI E.F ds l/\w.heap[b]? =ap (.cells l.toArray t):=by
 obtain⟨⟨hv,sub⟩,x,h1,h2,h3⟩:=R.row h (by simp);simp only[gg]at h2;obtain⟨b,l,rfl,h4,rfl⟩:=h2;exact⟨b,l,sub,h1,h4,h3 b _ (by simp[one])⟩
def tF (s:St):V->Option (Nat×List (List D))
 | .d (.ro sz fh)=>ap (sz,fh)
 | .own n=>match s.get n with
   |some (.own _ sz fh)=>ap (sz,fh)
   |some (.kh sz fh)=>ap (sz,fh)
   |some (.G2 _ fh)=>ap (1,fh)
   |_=>aq
 |_=>aq
def Y8 {k:Ko} {L:List HP} {E:Ev} {s:St} {w:af} (R:Rel k L E s w) {sz:Nat} {fh:List (List D)} {y:aa} (h:DR E.F (.ro sz fh) y):
 ∃a c xs,y= .slice a fh.length c/\fh.length<=c/\iI E.F fh.flatten xs/\(∀el∈fh,el.length=sz)/\Sat w (Fc sz a fh.length c xs):=by
 simp only[DR]at h;obtain⟨a,c,rfl,h1,h2,h3⟩:=h;rcases h3 with rfl|⟨b,o,l,T,fr,rfl,h4,h5⟩
 ·exact⟨a,c,[],rfl,h1,by simp[iI],h2,pe,.inl ⟨rfl,rfl,rfl⟩,Sub.pe w⟩
 ·obtain⟨xs,r,e,hx⟩:=o8.1 h5;have hl:xs.length=fh.length*sz:=by rw[hx.length,j9 h2]
  refine⟨_,c,xs,rfl,h1,hx,h2,one b (.cells l.toArray T fr),.inr ⟨b,o,l,T,fr,rfl,rfl,?_,hl,h1⟩,?_⟩
  ·rw[e,zq (by omega),oV (by omega)]
  ·intro b' o' e';simp only[one]at e';split at e'
   ·rename_i hb;subst hb;cases e';exact R.frozen _ _ h4
   ·cases e'
def mR {k:Ko} {L:List HP} {E:Ev} {s:St} {w:af} (R:Rel k L E s w) {v:V} {y:aa} (hv:VR E v y) {sz:Nat} {fh:List (List D)} (h:tF s v=ap (sz,fh)):
 ∃a c xs,y= .slice a fh.length c/\fh.length<=c/\iI E.F fh.flatten xs/\(∀el∈fh,el.length=sz)/\Sat w (Fc sz a fh.length c xs):=by
 unfold tF at h;split at h
 ·simp only[ba,cu]at h;obtain⟨rfl,rfl⟩:=h;simp only[VR]at hv;exact Y8 R hv
 ·rename_i n;simp only[VR]at hv;obtain⟨sub,h1,h2⟩:=hv;split at h<;>first|(cases h;done)|skip
  ·rename_i t oL mh hg;simp only[ba,cu]at h;obtain⟨rfl,rfl⟩:=h;obtain⟨hd,x,q1,q2,q3⟩:=R.row hg (by simp);rw[h1]at q1;cases q1;simp only[gg]at q2;obtain⟨a,c,xs,rfl,q4,q5,q6⟩:=q2;exact⟨a,c,xs,rfl,(TV q6).2,q4,q5,x,nN q6,q3⟩
  ·rename_i oL mh hg;simp only[ba,cu]at h;obtain⟨rfl,rfl⟩:=h;obtain⟨hd,x,q1,q2,q3⟩:=R.row hg (by simp);rw[h1]at q1;cases q1;simp only[gg]at q2;exact Y8 R q2.2
  ·rename_i t mh hg;simp only[ba,cu]at h;obtain⟨rfl,rfl⟩:=h;obtain⟨hd,x,q1,q2,q3⟩:=R.row hg (by simp);rw[h1]at q1;cases q1;simp only[gg]at q2;obtain⟨b,c,xs,r,rfl,q4,q5,q6,q7⟩:=q2;have hl:xs.length=mh.length*1:=by rw[q4.length,j9 q5]
   exact⟨_,c,xs,rfl,q6,q4,q5,x,.inr ⟨b,0,xs++r,t,_,rfl,q7,by rw[Eu,zq (by omega),oV (by omega)],hl,q6⟩,q3⟩
 ·cases h
def zF (fh:List (List D)) (i f n:Nat):Option (List D):=
 match fh[i]? with
 |some el=>bif bg (f+n) el.length then ap ((el.drop f).take n)else aq
 |none=>aq
def Wj:aa->(D->Prop)->Prop
 | .int k _,K=>∃n:Int,K (.v (.int k n))
 | .bool _,K=>∃b:Bool,K (.v (.bool b))
 | .string _,K=>∃s:ByteArray,K (.v (.string s))
 | .slice _ _ _,K=>∃(sz:Nat) (fh:List (List D)),K (.ro sz fh)
 |_,K=>∃d:D,K d
def shL:List aa->(List D->Prop)->Prop
 |[],K=>K []
 |z::zs,K=>Wj z λd=>shL zs λds=>K (d::ds)
def Oo (P:ab):Nat->ac->List ac
 |0,t=>[t]
 |f+1,t=>match P.underlying t with
  |some (.struct fs)=>(fs.toList.map λfd=>Oo P f fd.type).flatten
  |some (.array n e)=>(aw n (Oo P f e)).flatten
  |_=>[t]
def KN (P:ab):List ac->List aa->(List D->Prop)->Prop
 |t::ts,z::zs,K=>match fF P t with
  |some sz=>∃fh:List (List D),KN P ts zs λds=>K (.ro sz fh::ds)
  |none=>Wj z λd=>KN P ts zs λds=>K (d::ds)
 |_,zs,K=>shL zs K
def HE (P:ab) (t:ac) (K:List D->Prop):Prop:=
 match pI P t with
 |some z=>KN P (Oo P 6 t) z.cells.toList K
 |none=>False
def yCr {z:aa} {K:D->Prop} (h:Wj z K):∃d,K d:=by
 cases z<;>simp only[Wj]at h<;>first|(obtain⟨n,h⟩:=h;exact⟨_,h⟩)|(obtain⟨a,n,h⟩:=h;exact⟨_,h⟩)
def z0o:∀{zs:List aa} {K:List D->Prop},shL zs K->∃ds,K ds
 |[],_,h=>⟨_,h⟩
 |_::_,_,h=>let⟨_,h1⟩:=yCr h;let⟨_,h2⟩:=z0o h1;⟨_,h2⟩
def X9 {P:ab}:∀{ts:List ac} {zs:List aa} {K:List D->Prop},KN P ts zs K->∃ds,K ds
 |t::ts,z::zs,K,h=>by
  unfold KN at h;split at h
  ·obtain⟨fh,h⟩:=h;obtain⟨ds,h⟩:=X9 h;exact⟨_,h⟩
  ·obtain⟨d,h⟩:=yCr h;obtain⟨ds,h⟩:=X9 h;exact⟨_,h⟩
 |[],zs,K,h=>by unfold KN at h;exact z0o h
 |t::ts,[],K,h=>by unfold KN at h;exact z0o h
def mC {P:ab} {t:ac} {K:List D->Prop} (h:HE P t K):∃ds,K ds:=by
 unfold HE at h;split at h
 ·exact X9 h
 ·exact h.elim
def HI (P:ab) (t:ac) (ds:List D):Option V:=
 match Ek P t with
 |some n=>bif be ds.length n then ap (.agg (ds.map .d))else aq
 |none=>bif Ce P t then(match ds with
  |[d]=>ap (.d d)
  |_=>aq)else aq
def zNb {P:ab} {E:Ev} {w:af} {t sz i f:Nat} {fh:List (List D)} {b oo:Nat} {c:Nat} {xs:List aa} {ds:List D} {v:V} (hx:iI E.F fh.flatten xs) (hu:∀el∈fh,el.length=sz)
 (hs:Sat w (Fc sz (ap ⟨b,oo,aq⟩) fh.length c xs)) (hp:zF fh i f ds.length=ap ds) (hm:HI P t ds=ap v):∃y,VR E v y/\pZ P t ⟨b,oo+i*sz+f,aq⟩ w y:=by
 unfold zF at hp;split at hp<;>first|(cases hp;done)|skip
 rename_i el qf;obtain⟨hb,hp⟩:=y3 hp;have hb:=B1 hb;have rf:=mc qf;have hi:i<fh.length:=(ju.1 qf).1;rw[hu el rf]at hb;obtain⟨b',o',l,T,fr,e1,e2,e3⟩:=KE hs (by omega);cases e1;have nv:=(hx.drop (i*sz+f)).take ds.length;have hfp:=Zg hu qf hb;rw[hfp,bc hp]at nv;have hlen:xs.length=fh.length*sz:=by rw[hx.length,j9 hu]
 have qt:i*sz+sz<=fh.length*sz:=by
  have:=yh sz (show i+1<=fh.length by omega);rwa [Ak]at this
 have ox:(l.drop (oo+i*sz+f)).take ds.length=(xs.drop (i*sz+f)).take ds.length:=by
  rw[<- e3,ay,ax,CU,DM oo];congr 1;rw[GV];omega
 unfold HI at hm;split at hm
 ·rename_i n hn;obtain⟨hq,hm⟩:=y3 hm;have:=ji hq;cases hm;refine⟨.agg ((xs.drop (i*sz+f)).take ds.length).toArray,by simp only[VR];exact⟨_,rfl,nv.Nt⟩,?_⟩;refine Va hn e2 (by rw[<- this];exact ox) ?_;rw[nv.length,this]
 ·obtain⟨hq,hm⟩:=y3 hm;split at hm<;>first|(cases hm;done)|skip
  rename_i d;cases hm;simp only[iY,Al,iI]at nv ox;obtain⟨y,ys,e4,h4,h5⟩:=nv;subst h5;refine⟨y,by simpa only[VR]using h4,vT hq e2 ?_⟩;have:((l.drop (oo+i*sz+f)).take 1)[0]? =ap y:=by rw[ox,e4];rfl
  rw[Jm,fk (by omega),Bg]at this;simpa using this
def V8 (P:ab) (t:ac) (vs:List V) (off:Nat):Option V:=
 match Ek P t with
 |some sz=>bif bg (off+sz) vs.length then ap (.agg ((vs.drop off).take sz))else aq
 |none=>bif Ce P t then vs[off]? else aq
def zNk {P:ab} {E:Ev} {w:af} {t b off:Nat} {vs:List V} {l:List aa} {T:ac} {fr:Nat×Nat} {v:V} (hv:im E vs l) (hb:w.heap[b]? =ap (.cells l.toArray T fr)) (h:V8 P t vs off=ap v):
 ∃y,VR E v y/\pZ P t ⟨b,off,aq⟩ w y:=by
 unfold V8 at h;split at h
 ·rename_i n hn;obtain⟨hq,h⟩:=y3 h;have hq:=B1 hq;cases h;have hp:=(hv.drop off).take n;refine⟨.agg ((l.drop off).take n).toArray,by simp only[VR];exact⟨_,rfl,hp⟩,Va hn hb rfl ?_⟩;rw[hp.length,oK,qc];omega
 ·obtain⟨hq,h⟩:=y3 h;obtain⟨y,h1,h2⟩:=hv.get h;exact⟨y,h2,vT hq hb h1⟩
def vU (s:ByteArray):List (List D):=s.data.toList.map λb=>[.v (.int .u8 b.toNat)]
def aZ:aa->aa->Bool
 | .int k a,.int k' b=>xw k k' && decide (a=b)
 | .string a,.string b=>decide (a=b)
 |_,_=>au
def kH (x:aa):List (aa×List D)->Option (List D)
 |[]=>aq
 |(y,ds)::l=>bif aZ x y then ap ds else kH x l
def LK (es:List (aa×List D)) (x:aa) (z ds:List D) (b:Bool):Prop:=(kH x es=ap ds/\b=ar)\/(kH x es=aq/\ds=z/\b=au)
def y5a:aa->Bool
 | .int _ _=>ar
 |_=>au
def y2c:aa->Bool
 | .string _=>ar
 |_=>au
def M6 (P:ab) (t:ac) (x:aa):Bool:=
 match P.underlying t with
 |some (.int _)=>y5a x
 |some .string=>y2c x
 |_=>au
def kr:aa->aa->Bool
 | .int k _,.int k' _=>xw k k'
 | .string _,.string _=>ar
 |_,_=>au
def lD (x:aa) (es:List (aa×List D)):Prop:=∀p∈es,kr x p.1=ar
def jI (x:aa) (ds:List D):List (aa×List D)->List (aa×List D)
 |[]=>[(x,ds)]
 |(y,e)::l=>bif aZ x y then(y,ds)::l else(y,e)::jI x ds l
def rC (x:aa):List (aa×List D)->List (aa×List D)
 |[]=>[]
 |(y,e)::l=>bif aZ x y then l else(y,e)::rC x l
def G4 (P:ab) (t:ac) (ds:List D):Option V:=
 match Ek P t with
 |some n=>bif be ds.length n && !(be n 1)then ap (.agg (ds.map .d))else aq
 |none=>bif Ce P t then(match ds with
  |[d]=>ap (.d d)
  |_=>aq)else aq
def GM (P:ab) (t:ac):Option (ac×ac):=
 match P.underlying t with
 |some (.map k e)=>ap (k,e)
 |_=>aq
def yPj {a b:ao} (h:xw a b=ar):a=b:=by
 cases a<;>cases b<;>first|rfl|cases h
def yVp {x y:aa} (h:aZ x y=ar):x=y:=by
 unfold aZ at h;split at h
 ·simp only[ld,sm]at h;rw[yPj h.1,h.2]
 ·rw[td h]
 ·cases h
def Ve {P:ab} {t:ac} {x:aa} (h:M6 P t x=ar):∃kd,P.underlying t=ap kd/\I6 kd x:=by
 unfold M6 at h;split at h
 ·rename_i ik hu;refine⟨_,hu,.inl ?_⟩;cases x<;>first|(cases h;done)|exact⟨_,_,_,rfl,rfl⟩
 ·rename_i hu;refine⟨_,hu,.inr ?_⟩;cases x<;>first|(cases h;done)|exact⟨_,rfl,rfl⟩
 ·cases h
def yFg (s s':ByteArray):(s==s')=decide (s=s'):=by
 by_cases h:s=s'
 ·subst h;rw[kx rfl];show(s.data==s.data)=ar;simp
 ·rw[jq h];cases hb:s==s'
  ·rfl
  ·have:(s.data==s'.data)=ar:=hb;exact absurd (ByteArray.ext (eq_of_beq this)) h
def eJ {kd:TypeDesc} {x y:aa} (hk:I6 kd x) (hl:kr x y=ar):Instr.sameNow kd x y=ap (aZ x y):=by
 rcases hk with⟨ik,k,n,rfl,rfl⟩|⟨s,rfl,rfl⟩
 ·cases y<;>simp only[kr,nr]at hl
  rename_i k' m;have:=yPj hl;subst this;simp only[Instr.sameNow,if_true,aZ,hl,qj];rfl
 ·cases y<;>simp only[kr,nr]at hl
  rename_i s';simp only[Instr.sameNow,aZ];congr 1;exact yFg s s'
def z2x (k:ao):xw k k=ar:=by cases k<;>rfl
def zXg {kd:TypeDesc} {x:aa} (hk:I6 kd x):kr x x=ar:=by
 rcases hk with⟨ik,k,n,rfl,rfl⟩|⟨s,rfl,rfl⟩
 ·exact z2x k
 ·rfl
def zWq {kd:TypeDesc} {x:aa} (hk:I6 kd x):aZ x x=ar:=by
 rcases hk with⟨ik,k,n,rfl,rfl⟩|⟨s,rfl,rfl⟩
 ·simp only[aZ,z2x,qj,decide_true]
 ·simp only[aZ,decide_true]
def zVk {l:List aj} {ck:Nat} (h:uL l ck) {e:aj} (he:e.born=ck):uL (l++[e]) (ck+1):=by
 refine⟨?_,λx hx=> ?_⟩
 ·rw[jz,AA];refine⟨h.1,by simp,λa ha b hb=> ?_⟩;obtain⟨x,hx,rfl⟩:=oe.1 ha;have:=h.2 x hx;simp only[iT,CS,xj]at hb;omega
 ·rcases qq.1 hx with hx|hx
  ·have:=h.2 x hx;omega
  ·rw[xj.1 hx,he];omega
def XE {l:List aj} {ck q:Nat} (h:uL l ck) {m e:aj} (hm:l[q]? =ap m) (he:e.born=m.born):uL (l.set q e) ck:=by
 have hq:(l.set q e).map (·.born)=l.map (·.born):=by
  apply Hz;intro i;rw[uz,uz,GW];split
  ·rename_i hi;subst hi;split
   ·rw[hm];simp[he]
   ·rename_i iq;rw[ue (by omega)];first|rfl|done
  ·rfl
 refine⟨by rw[hq];exact h.1,λx hx=> ?_⟩;rcases Pt hx with hx|rfl
 ·exact h.2 x hx
 ·rw[he];exact h.2 m (mc hm)
def yAg {l:List aj} {ck q:Nat} (h:uL l ck):uL (l.eraseIdx q) ck:=
 ⟨((List.eraseIdx_sublist l q).map _).nodup h.1,λx hx=>h.2 x ((List.eraseIdx_sublist l q).mem hx)⟩
def yPl:uL [] 0:=⟨by simp,by simp⟩
def MY {F:PH} {kd:TypeDesc} {x:aa} (hk:I6 kd x):∀{es:List (aa×List D)} {gn:List aj} (i:Nat),MR F es gn->lD x es->
 (bv kd x gn i=ap aq/\kH x es=aq/\(∀ds,jI x ds es=es++[(x,ds)])/\rC x es=es/\∀e:aj,e.key=x->bv kd x (gn++[e]) i=ap (ap (i+gn.length,e.val)))\/
 (∃q m ds ys,bv kd x gn i=ap (ap (i+q,m.val))/\gn[q]? =ap m/\m.key=x/\kH x es=ap ds/\iI F ds ys/\m.val=rR ys/\
   (∀Db DL (e:aj),iI F Db DL->e.key=x->e.val=rR DL->MR F (jI x Db es) (gn.set q e))/\MR F (rC x es) (gn.eraseIdx q)/\∀e:aj,e.key=x->bv kd x (gn.set q e) i=ap (ap (i+q,e.val)))
 |[],gn,i,h,_=>by
  simp only[MR]at h;subst h;exact .inl ⟨rfl,rfl,λds=>rfl,rfl,λe he=>by
   have hx:kr x x=ar:=zXg hk;simp only[zi,bv,he,eJ hk hx,zWq hk];rfl⟩
 |(y,e)::es,gn,i,h,hl=>by
  simp only[MR]at h;obtain⟨m,ms,rfl,h1,⟨ys,h2,h3⟩,h4⟩:=h;have hy:kr x y=ar:=hl (y,e) jg;have hs:=eJ hk hy;cases hb:aZ x y with
  |true=>
   have hxy:=yVp hb;refine .inr ⟨0,m,e,ys,?_,rfl,by rw[h1,hxy],?_,h2,h3,?_,?_,?_⟩
   ·simp only[bv,h1,hs,hb];rfl
   ·simp only[kH,hb,cond_true]
   ·intro Db DL e' q1 q2 q3;simp only[jI,hb,cond_true,KX,MR];exact⟨e',ms,rfl,by rw[q2,hxy],⟨DL,q1,q3⟩,h4⟩
   ·simp only[rC,hb,cond_true,List.eraseIdx_cons_zero];exact h4
   ·intro e' tc;simp only[KX,bv,tc,eJ hk (zXg hk),zWq hk];rfl
  |false=>
   have HS:lD x es:=λp hp=>hl p (jx _ hp)
   rcases MY hk (i+1) h4 HS with⟨q1,q2,q3,q4,q5⟩|⟨q,m',ds,DL,q1,q2,q3,q4,q5,q6,q7,q8,q9⟩
   ·refine .inl ⟨?_,?_,λds=> ?_,?_,λe' tc=> ?_⟩
    ·simp only[bv,h1,hs,hb];exact q1
    ·simp only[kH,hb,cond_false];exact q2
    ·simp only[jI,hb,cond_false,q3 ds,tu]
    ·simp only[rC,hb,cond_false,q4]
    ·simp only[tu,bv,h1,hs,hb];rw[q5 e' tc,iY,show i+1+ms.length=i+(ms.length+1)by omega]
   ·refine .inr ⟨q+1,m',ds,DL,?_,by simpa using q2,q3,?_,q5,q6,?_,?_,λe' tc=> ?_⟩
    ·simp only[bv,h1,hs,hb];rw[q1,show i+1+q=i+(q+1)by omega]
    ·simp only[kH,hb,cond_false];exact q4
    ·intro Db ys2 e' r1 r2 r3;simp only[jI,hb,cond_false,Jl,MR];exact⟨m,_,rfl,h1,⟨ys,h2,h3⟩,q7 Db ys2 e' r1 r2 r3⟩
    ·simp only[rC,hb,cond_false,List.eraseIdx_cons_succ,MR];exact⟨m,_,rfl,h1,⟨ys,h2,h3⟩,q8⟩
    ·simp only[Jl,bv,h1,hs,hb];rw[q9 e' tc,show i+1+q=i+(q+1)by omega]
def wH {P:ab} {kt:ac} {kd:TypeDesc} (hu:P.underlying kt=ap kd) {x:aa} (hk:I6 kd x) (b:Bool) (w:af):(Instr.checkKey b 10000 kt x).run P w= .ok () w:=by
 rcases hk with⟨ik,k,n,rfl,rfl⟩|⟨s,rfl,rfl⟩<;>
  (unfold Instr.checkKey;simp only[bind,run_bind,Cv.run_underlying hu];rfl)
def vL {P:ab} {kt:ac} {kd:TypeDesc} (hu:P.underlying kt=ap kd) {x:aa} {gn:List aj} {r:Option (Nat×aa)} (h:bv kd x gn 0=ap r) (w:af):(Instr.findKey kt x gn).run P w= .ok r w:=by
 simp only[Instr.findKey,bind,run_bind,Cv.run_underlying hu,h];rfl
def gU {P:ab} {t:ac} {ke:ac×ac} (h:GM P t=ap ke):P.underlying t=ap (.map ke.1 ke.2):=by
 unfold GM at h;split at h
 ·rename_i k e hu;cases h;exact hu
 ·cases h
def Xr {P:ab} {E:Ev} {t:ac} {ds:List D} {v:V} (h:G4 P t ds=ap v) {ys:List aa} (hd:iI E.F ds ys):VR E v (rR ys):=by
 unfold G4 at h;split at h
 ·obtain⟨hb,h⟩:=y3 h;cases h;simp only[ld,HA]at hb;have h1:=ji hb.1;have hl:ys.length=ds.length:=hd.length;have:rR ys= .agg ys.toArray:=by
   unfold rR;split
   ·rename_i y;rw[h1]at hl;simp only[iY,Al]at hl;rw[<- hl]at hb;exact absurd hb.2 (by decide)
   ·rfl
  rw[this];simp only[VR];exact⟨ys,rfl,hd.Nt⟩
 ·obtain⟨hb,h⟩:=y3 h;split at h<;>first|(cases h;done)|skip
  cases h;simp only[iI]at hd;obtain⟨x,xs,rfl,h1,rfl⟩:=hd;simpa only[VR,rR]using h1
def MD (P:ab) (t:ac):Option (List D):=
 match pI P t with
 |some (.agg cs)=>(match Ek P t with
  |some _=>bif okc (.agg cs)then ap (cs.toList.map .v)else aq
  |none=>aq)
 |some z=>(match Ek P t with
  |some _=>aq
  |none=>bif z.oz then ap [.v z]else aq)
 |none=>aq
def yNr {P:ab} {E:Ev} {t:ac} {ds:List D} {v:V} (h:MD P t=ap ds) (hm:G4 P t ds=ap v):∃z,pI P t=ap z/\VR E v z:=by
 unfold MD at h;split at h
 ·rename_i cs hz;split at h<;>first|(cases h;done)|skip
  rename_i n hn;obtain⟨hb,h⟩:=y3 h;cases h;refine⟨_,hz,?_⟩;simp only[G4,hn]at hm;obtain⟨_,hm⟩:=y3 hm;cases hm;simp only[VR];refine⟨cs.toList,by simp,?_⟩;rw[xi];exact yOu hb
 ·rename_i z jf hz;split at h<;>first|(cases h;done)|skip
  rename_i hn;obtain⟨hb,h⟩:=y3 h;cases h;refine⟨_,hz,?_⟩;simp only[G4,hn]at hm;obtain⟨_,hm⟩:=y3 hm;cases hm;simp only[VR,DR];exact⟨trivial,hb⟩
 ·cases h
def KB (s:St) (n:Nat):Option Nat:=
 match s.get n with
 |some (.kg _ _ _ _ l _)=>ap l.length
 |_=>aq
def ZB {k:Ko} {L:List HP} {E:Ev} {s:St} {w:af} (R:Rel k L E s w) {n len:Nat} (h:KB s n=ap len):
 ∃a c sub,E.gu[n]? =ap (.slice a len c,sub)/\sub.length=len/\(∀p∈sub,∃b oo,p= .pointer (ap ⟨b,oo,aq⟩))/\Sat w (Fc 1 a len c sub):=by
 unfold KB at h;split at h<;>first|(cases h;done)|skip
 rename_i t T m iF l hole hg;cases h;obtain⟨⟨v,sub⟩,x,h1,h2,h3⟩:=R.row hg (by simp);simp only[gg]at h2;obtain⟨a,c,e1,e2,e3,e4⟩:=h2;obtain⟨g,g',q1,q2,q3,rfl⟩:=e4;subst e1;exact⟨a,c,sub,h1,e2,e3,g,nN q1,λb o e=>h3 b o (by simp[un,e])⟩
structure yf where
 q:Bool
 T:Nat
 sz:Nat
 fh:List (List D)
 i:Nat
 f:Nat
 b:Bool
 m:Option Nat
def nY (s:St) (n:Nat):Option yf:=
 match s.get n with
 |some (.vh q t sz fh i f b m)=>ap ⟨q,t,sz,fh,i,f,b,m⟩
 |_=>aq
def tK {s:St} {n:Nat} {x:yf} (h:nY s n=ap x):s.get n=ap (.vh x.q x.T x.sz x.fh x.i x.f x.b x.m):=by
 unfold nY at h;split at h<;>first|(cases h;done)|skip
 rename_i hg;cases h;exact hg
def yf.clear (x:yf) (i f k:Nat):Prop:=x.f<x.sz/\(x.b=ar->i=x.i->f+k<=x.f\/x.f<f)
def Rel.vh {k:Ko} {L:List HP} {E:Ev} {s:St} {w:af} (R:Rel k L E s w) {n:Nat} {x:yf} (h:nY s n=ap x):
 ∃a c sub ys xs,E.gu[n]? =ap (.slice a x.fh.length c,sub)/\iI E.F x.fh.flatten ys/\(∀el∈x.fh,el.length=x.sz)/\Ag E.gu (x.i*x.sz+x.f) x.b ys xs x.m/\Sat w (Fc x.sz a x.fh.length c xs):=by
 obtain⟨⟨hv,sub⟩,z,h1,h2,h3⟩:=R.row (tK h) (by simp);simp only[gg]at h2;obtain⟨a,c,ys,xs,rfl,q2,q3,q4,q5⟩:=h2;exact⟨a,c,sub,ys,xs,h1,q2,q3,q4,z,nN q5,h3⟩
def Yr {gu:List Hd} {p:Nat} {b:Bool} {ys xs:List aa}:∀{m:Option Nat},Ag gu p b ys xs m->xs.length=ys.length
 |some m,⟨y,l,h1,h2,h3⟩=>by cases b<;>simp[h3]
 |none,⟨y,h1,h3⟩=>by cases b<;>simp[h3]
def yKa {gu:List Hd} {p:Nat} {b:Bool} {ys xs:List aa}:∀{m:Option Nat},Ag gu p b ys xs m->∀o n,(b=ar->o+n<=p\/p<o)->(xs.drop o).take n=(ys.drop o).take n:=by
 have key:∀{y:aa},xs=(bif b then ys.set p y else ys)->∀o n,(b=ar->o+n<=p\/p<o)->(xs.drop o).take n=(ys.drop o).take n:=by
  intro y h o n hc;cases b with
  |false=>rw[h];rfl
  |true=>
   rw[h,cond_true];apply Hz;intro j;rw[Jm,Jm];split
   ·rw[Bg,Bg,GW,dx (by have:=hc rfl;omega)]
   ·rfl
 intro m;cases m with
 |none=>rintro⟨y,_,h⟩;exact key h
 |some m=>rintro⟨y,l,_,_,h⟩;exact key h
def yFe {sz i f i0 f0 k:Nat} (h1:f+k<=sz) (h2:f0<sz) (jf:i=i0->f+k<=f0\/f0<f):i*sz+f+k<=i0*sz+f0\/i0*sz+f0<i*sz+f:=by
 rcases Nat.lt_trichotomy i i0 with h|h|h
 ·have:=yh sz (show i+1<=i0 by omega);rw[Ak]at this;left;omega
 ·subst h;rcases jf rfl with h|h
  ·left;omega
  ·right;omega
 ·have:=yh sz (show i0+1<=i by omega);rw[Ak]at this;right;omega
def zUs {P:ab} {E:Ev} {w:af} {t sz i f:Nat} {fh:List (List D)} {b oo:Nat} {c:Nat} {xs:List aa} {ds:List D} {v:V} (hlen:xs.length=fh.length*sz) (hu:∀el∈fh,el.length=sz)
 (hs:Sat w (Fc sz (ap ⟨b,oo,aq⟩) fh.length c xs)) (hp:zF fh i f ds.length=ap ds) (nv:iI E.F ds ((xs.drop (i*sz+f)).take ds.length)) (hm:HI P t ds=ap v):∃y,VR E v y/\pZ P t ⟨b,oo+i*sz+f,aq⟩ w y:=by
 unfold zF at hp;split at hp<;>first|(cases hp;done)|skip
 rename_i el qf;obtain⟨hb,hp⟩:=y3 hp;have hb:=B1 hb;have rf:=mc qf;have hi:i<fh.length:=(ju.1 qf).1;rw[hu el rf]at hb;obtain⟨b',o',l,T,fr,e1,e2,e3⟩:=KE hs (by omega);cases e1;have qt:i*sz+sz<=fh.length*sz:=by
  have:=yh sz (show i+1<=fh.length by omega);rwa [Ak]at this
 have ox:(l.drop (oo+i*sz+f)).take ds.length=(xs.drop (i*sz+f)).take ds.length:=by
  rw[<- e3,ay,ax,CU,DM oo];congr 1;rw[GV];omega
 unfold HI at hm;split at hm
 ·rename_i n hn;obtain⟨hq,hm⟩:=y3 hm;have:=ji hq;cases hm;refine⟨.agg ((xs.drop (i*sz+f)).take ds.length).toArray,by simp only[VR];exact⟨_,rfl,nv.Nt⟩,?_⟩;refine Va hn e2 (by rw[<- this];exact ox) ?_;rw[nv.length,this]
 ·obtain⟨hq,hm⟩:=y3 hm;split at hm<;>first|(cases hm;done)|skip
  rename_i d;cases hm;simp only[iY,Al,iI]at nv ox;obtain⟨y,ys,e4,h4,h5⟩:=nv;subst h5;refine⟨y,by simpa only[VR]using h4,vT hq e2 ?_⟩;have:((l.drop (oo+i*sz+f)).take 1)[0]? =ap y:=by rw[ox,e4];rfl
  rw[Jm,fk (by omega),Bg]at this;simpa using this
def z0m (P:ab) (t:ac) (x:yf) (sz i f:Nat) (K:V->Prop):Prop:=
 bif be sz x.sz then(match x.q,x.m,fF P t with
  |true,ap c,ap _=>bif Ce P t then(i=x.i/\f=x.f/\x.b=ar/\i<x.fh.length/\f<sz)/\K (.own c)else False
  |_,_,_=>HE P t λds=>zF x.fh i f ds.length=ap ds/\x.clear i f ds.length/\iL (HI P t ds) K)else False
def yAh {P:ab} {k:Ko} {L:List HP} {E:Ev} {s:St} {w:af} (R:Rel k L E s w) {t n sz i f:Nat} {x:yf} {K:V->Prop} (hx:nY s n=ap x) (h:z0m P t x sz i f K)
 {b oo m c:Nat} {l:List aa} (e1:E.gu[n]? =ap (.slice (ap ⟨b,oo,aq⟩) m c,l)):∃v y,K v/\VR E v y/\pZ P t ⟨b,oo+i*sz+f,aq⟩ w y:=by
 unfold z0m at h;obtain⟨hb,h⟩:=zL h;have e:=ji hb;subst e;obtain⟨a,c',sub,ys,xs,q1,q2,q3,q4,q5⟩:=R.vh hx;rw[e1]at q1;cases q1;have C3:ys.length=x.fh.length*x.sz:=by rw[q2.length,j9 q3]
 have Cm:xs.length=x.fh.length*x.sz:=by rw[Yr q4,C3]
 split at h
 ·rename_i cc tt hq hm hs;obtain⟨PT,⟨rfl,rfl,hbt,hi,hf⟩,hk⟩:=zL h;rw[hm]at q4;obtain⟨y,ly,r1,⟨ya,yn,yc,r2⟩,r3⟩:=q4;rw[hbt,cond_true]at r3;have qt:x.i*x.sz+x.sz<=x.fh.length*x.sz:=by
   have:=yh x.sz (show x.i+1<=x.fh.length by omega);rwa [Ak]at this
  obtain⟨b',o',l',T,fr,e2,e3,e4⟩:=KE q5 (by omega);cases e2;refine⟨_,y,hk,by simp only[VR];exact⟨ly,r1,ya,yn,yc,r2⟩,vT PT e3 ?_⟩;have:xs[x.i*x.sz+x.f]? =ap y:=by rw[r3,GW,fk rfl,fk (by omega)]
  rw[<- e4,Jm,fk (by omega),Bg]at this;rw[show oo+x.i*x.sz+x.f=oo+(x.i*x.sz+x.f)by omega];exact this
 ·obtain⟨ds,hp,⟨yw,xy⟩,h⟩:=mC h;obtain⟨v,hm,hk⟩:=zM h;have NI:=hp;unfold zF at NI;split at NI<;>first|(cases NI;done)|skip
  rename_i el qf;obtain⟨HW,NI⟩:=y3 NI;have HW:=B1 HW;rw[q3 el (mc qf)]at HW;have nv:=(q2.drop (i*x.sz+f)).take ds.length;rw[Zg q3 qf HW,bc NI]at nv;rw[<- yKa q4 (i*x.sz+f) ds.length (λhb=>yFe HW yw (xy hb))]at nv;obtain⟨y,hy,hh⟩:=zUs Cm q3 q5 hp nv hm;exact⟨v,y,hk,hy,hh⟩
def sr (P:ab) (o:ak) (ρ:xE) (s:St) (K:V->Prop):Prop:=
 match o.op with
 | .load t x=>match mn ρ x with
   | .nm n off=>match s.get n with
     |some (.cells vs _)=>iL (V8 P t vs off) K
     |_=>False
   | .el n sz i f=>match KB s n with
     |some len=>bif be sz 1 && be f 0 && Ce P t then i<len/\K (.sub n i)else False
     |none=>match nY s n with
     |some x=>z0m P t x sz i f K
     |none=>iL (tF s (.own n)) λse=>bif be sz se.1 then HE P t λds=>zF se.2 i f ds.length=ap ds/\iL (HI P t ds) K else False
   | .re sz fh i f=>HE P t λds=>zF fh i f ds.length=ap ds/\iL (HI P t ds) K
   | .na n off i=>match s.get n with
     |some (.cells vs _)=>bif Ce P t then HE P t λds=>match ds with
      |[d]=>(vs.drop off)[i]?=ap (.d d)/\K (.d d)
      |_=>False else False
     |some (.vec es _)=>bif Ce P t then HE P t λds=>match ds with
      |[d]=>(es.drop off)[i]?=ap d/\K (.d d)
      |_=>False else False
     |_=>False
   |_=>False
 | .indexAddr t x i=>match mn ρ x with
   | .own n=>match mn ρ i with
     | .d (.v (.int _ i))=>iL (fF P t) λsz=>match KB s n with
       |some len=>bif be sz 1 then(0<=i/\i<len)/\K (.el n 1 i.toNat 0)else False
       |none=>match nY s n with
       |some x=>bif be sz x.sz then(0<=i/\i<x.fh.length)/\K (.el n sz i.toNat 0)else False
       |none=>iL (tF s (.own n)) λse=>bif be sz se.1 then(0<=i/\i<se.2.length)/\K (.el n sz i.toNat 0)else False
     |_=>False
   |_=>False
 | .binOp op t x y _=>match mn ρ x with
   | .own n=>bif Tt y && Ho P t then iL (tF s (.own n)) λse=>yAj op se.2 K else False
   |_=>False
 | .convert st d x=>bif Pg P st && Kz P d then iL (tF s (mn ρ x)) λse=>∃b:ByteArray,se.1=1/\se.2=vU b/\K (.d (.v (.string b)))else False
 | .call c=>match c.callee with
   | .builtin .len=>match C' ρ c.args.toList with
     |[.own n]=>iL c.argTypes[0]? λt=>bif Ho P t then(match KB s n with
      |some len=>K (.d (.v (.int .i64 len)))
      |none=>iL (tF s (.own n)) λse=>K (.d (.v (.int .i64 se.2.length))))else False
     |[.mp n]=>iL c.argTypes[0]? λt=>bif z7d P t then(match s.get n with
      |some (.map es)=>K (.d (.v (.int .i64 es.length)))
      |_=>False)else False
     |_=>False
   |_=>False
 | .lookup t x i ok=>match mn ρ x with
   | .mp n=>match s.get n with
     |some (.map es)=>iL (GM P t) λke=>iL (GN (mn ρ i)) λkv=>bif M6 P ke.1 kv then iL (MD P ke.2) λz=>lD kv es/\∃b,HE P ke.2 λds=>LK es kv z ds b/\iL (G4 P ke.2 ds) λv=>K (bif ok then .jm [v,.d (.v (.bool b))]else v)else False
     |_=>False
   |_=>False
 |_=>False
def xBt (P:ab) (E:Ev) (o:ak) (ρ:Env) (w:af) (K:V->Prop):Prop:=∃v y,K v/\VR E v y/\(ae (ev ρ) o).run P w=.ok (.value y) w
def z7w {P:ab} {F:PH} {b:ByteArray} {xs:List aa} (h:iI F (vU b).flatten xs):xs=(b.data.toList.map UInt8.toNat).map λ(n:Nat)=>Value.int .u8 (n:Int):=by
 unfold vU at h;revert h;generalize b.data.toList=l
 induction l generalizing xs with
 |nil=>intro h;simpa[iI]using h
 |cons a l ih=>
  intro h;simp only[iT,A2,tu,zi,iI,DR]at h;obtain⟨x,ys,rfl,⟨rfl,_⟩,h⟩:=h;simp only[iT];rw[ih h]
def Yk {P:ab} {k:Ko} {L:List HP} {E:Ev} {s:St} {w:af} (R:Rel k L E s w) {ρS:xE} {ρ:Env} (he:mf E ρS ρ) {o:ak} {K:V->Prop} (h:sr P o ρS s K):xBt P E o ρ w K:=by
 cases ho:o.op
 case load t x=>
  simp only[sr,ho]at h;have hv:=he.ev x;split at h<;>first|exact h.elim|skip
  ·rename_i n off hx;rw[hx]at hv;simp only[VR]at hv;obtain⟨b,oo,l,e1,e2⟩:=hv;split at h<;>first|exact h.elim|skip
   rename_i vs T hg;obtain⟨v,hp,hk⟩:=zM h;obtain⟨b',l',sub,q1,q2,q3⟩:=R.cells hg;rw[e1]at q1;cases q1;obtain⟨y,hy,hh⟩:=zNk q2 q3 hp;refine⟨v,y,hk,hy,?_⟩;simp only[ae,ho,e2,oC];exact yI hh
  ·rename_i n sz i f hx;rw[hx]at hv;simp only[VR]at hv;obtain⟨b,oo,m,c,l,e1,e2⟩:=hv;split at h
   ·rename_i len Jy;obtain⟨hb,hi,hk⟩:=zL h;simp only[ld]at hb;have b1:=ji hb.1.1;have b2:=ji hb.1.2;subst b1 b2;obtain⟨a,c',sub,q1,q2,q3,q4⟩:=ZB R Jy;rw[e1]at q1;cases q1;obtain⟨bb,o',ll,T,fr,r1,r2,r3⟩:=KE q4 (by omega);cases r1;obtain⟨p,hp⟩:∃p,l[i]? =ap p:=⟨_,xl (by omega)⟩
    obtain⟨pb,po,rfl⟩:=q3 p (mc hp);refine⟨.sub n i,.pointer (ap ⟨pb,po,aq⟩),hk,by simp only[VR];exact⟨_,l,pb,po,e1,hp,rfl⟩,?_⟩;simp only[ae,ho,e2];refine yI (vT hb.2 r2 ?_);rw[<- r3,Jm,fk (by omega),Bg]at hp;rw[show oo+i*1+0=oo+i by omega];exact hp
   split at h
   ·rename_i x hx;obtain⟨v,y,hk,hy,hh⟩:=yAh R hx h e1;refine⟨v,y,hk,hy,?_⟩;simp only[ae,ho,e2];exact yI hh
   obtain⟨⟨oL,fh⟩,hd,h⟩:=zM h;obtain⟨hb,h⟩:=zL h;have:=ji hb;simp only at this;subst this;obtain⟨ds,hp,h⟩:=mC h;obtain⟨v,hm,hk⟩:=zM h;obtain⟨a,c',xs,q1,q2,q3,q4,q5⟩:=mR R (v:= .own n) (y:= .slice (ap ⟨b,oo,aq⟩) m c) (by simp only[VR];exact⟨l,e1,_,_,_,rfl⟩) hd;cases q1;obtain⟨y,hy,hh⟩:=zNb q3 q4 q5 hp hm;refine⟨v,y,hk,hy,?_⟩;simp only[ae,ho,e2];exact yI hh
  ·rename_i sz fh i f hx;rw[hx]at hv;simp only[VR]at hv;obtain⟨e0,e1,b,oo,l,T,fr,e2,e3,e4⟩:=hv;obtain⟨ds,hp,h⟩:=mC h;obtain⟨v,hm,hk⟩:=zM h;obtain⟨a,c',xs,q1,q2,q3,q4,q5⟩:=Y8 R (sz:=sz) (fh:=fh) (y:= .slice (ap ⟨b,oo,aq⟩) fh.length fh.length) (by
    simp only[DR];exact⟨_,_,rfl,mg _,e1,.inr ⟨b,oo,l,T,fr,rfl,e3,e4⟩⟩)
   cases q1;obtain⟨y,hy,hh⟩:=zNb q3 q4 q5 hp hm;refine⟨v,y,hk,hy,?_⟩;simp only[ae,ho,e2];exact yI hh
  ·rename_i n off i hx;rw[hx]at hv;simp only[VR]at hv;obtain⟨b,oo,l,e1,e2⟩:=hv;split at h<;>first|exact h.elim|skip
   rename_i vs T hg;obtain⟨PT,h⟩:=zL h;obtain⟨ds,h⟩:=mC h;split at h<;>first|exact h.elim|skip
   rename_i d;obtain⟨hd,hk⟩:=h;obtain⟨b',l',sub,q1,q2,q3⟩:=R.cells hg;rw[e1]at q1;cases q1;obtain⟨y,hy,hh⟩:=(q2.drop off).get hd;rw[Bg]at hy;refine⟨.d d,y,hk,hh,?_⟩;simp only[ae,ho,e2,oC];exact yI (vT PT q3 hy);rename_i vs T hg;obtain⟨PT,h⟩:=zL h;obtain⟨ds,h⟩:=mC h;split at h<;>first|exact h.elim|skip
   rename_i d;obtain⟨hd,hk⟩:=h;obtain⟨b',l',sub,q1,q2,q3⟩:=R.vec hg;rw[e1]at q1;cases q1;obtain⟨y,hy,hh⟩:=(q2.drop off).get hd;rw[Bg]at hy;refine⟨.d d,y,hk,by simpa only[VR]using hh,?_⟩;simp only[ae,ho,e2,oC];exact yI (vT PT q3 hy)
 case indexAddr t x i=>
  simp only[sr,ho]at h;have hv:=he.ev x;split at h<;>first|exact h.elim|skip
  rename_i n hx;split at h<;>first|exact h.elim|skip
  rename_i kk i' hi;have A8:=he.ev i;rw[hi]at A8;have A8:=A8.D8;obtain⟨sz,hs,h⟩:=zM h;split at h
  ·rename_i len Jy;obtain⟨hb,⟨h0,h1⟩,hk⟩:=zL h;have b1:=ji hb;subst b1;obtain⟨a,c',sub,q1,q2,q3,q4⟩:=ZB R Jy;rw[hx]at hv;simp only[VR]at hv;obtain⟨l,e1,_⟩:=hv;rw[q1]at e1;obtain⟨b,oo,ll,T,fr,rfl,r2,r3⟩:=KE q4 (by omega);have e1:=bc e1;have e2:ev ρ x= .slice (ap ⟨b,oo,aq⟩) len c':=(congrArg Prod.fst e1).symm;refine⟨_,.pointer (ap ⟨b,oo+i'.toNat*1+0,aq⟩),hk,by simp only[VR];exact⟨_,_,_,_,_,q1,rfl⟩,?_⟩;simp only[ae,ho,e2,A8];refine yI ?_;rw[wD hs ⟨h0,by omega⟩,uX];rfl
  split at h
  ·rename_i xh hxh;obtain⟨hb,⟨h0,h1⟩,hk⟩:=zL h;have b1:=ji hb;subst b1;obtain⟨a,c',sub,ys,xs,q1,q2,q3,q4,q5⟩:=R.vh hxh;rw[hx]at hv;simp only[VR]at hv;obtain⟨l,e1,_⟩:=hv;rw[q1]at e1;obtain⟨b,oo,ll,T,fr,rfl,r2,r3⟩:=KE q5 (by omega);have e1:=bc e1;have e2:ev ρ x= .slice (ap ⟨b,oo,aq⟩) xh.fh.length c':=(congrArg Prod.fst e1).symm;refine⟨_,.pointer (ap ⟨b,oo+i'.toNat*xh.sz+0,aq⟩),hk,by simp only[VR];exact⟨_,_,_,_,_,q1,rfl⟩,?_⟩;simp only[ae,ho,e2,A8];refine yI ?_;rw[wD hs ⟨h0,by omega⟩,uX];rfl
  obtain⟨⟨oL,fh⟩,hd,h⟩:=zM h;obtain⟨hb,⟨h0,h1⟩,hk⟩:=zL h;have:=ji hb;simp only at this;subst this;simp only at h1;rw[hx]at hv;have Fi:=hv;simp only[VR]at Fi;obtain⟨sub,e1,_⟩:=Fi;obtain⟨a,c',xs,q1,q2,q3,q4,q5⟩:=mR R hv hd;obtain⟨b,oo,l,T,fr,rfl,e2,e3⟩:=KE q5 (by omega);rw[q1]at e1;refine⟨_,.pointer (ap ⟨b,oo+i'.toNat*sz+0,aq⟩),hk,by simp only[VR];exact⟨_,_,_,_,_,e1,rfl⟩,?_⟩;simp only[ae,ho,q1,A8];refine yI ?_;rw[wD hs ⟨h0,by omega⟩,uX];rfl
 case binOp op t x y u=>
  simp only[sr,ho]at h;split at h<;>first|exact h.elim|skip
  rename_i n hx;obtain⟨hb,h⟩:=zL h;simp only[ld]at hb;obtain⟨⟨oL,fh⟩,hd,hk⟩:=zM h;have hv:=he.ev x;rw[hx]at hv;obtain⟨a,c',xs,q1,q2,q3,q4,q5⟩:=mR R hv hd;obtain⟨v,y',h1,h2,h3⟩:=zRk (E:=E) ho hb.1 hb.2 q1 (λha=>by
   obtain⟨z,hz,_⟩:=q5;rcases hz with⟨h1,_⟩|⟨_,_,_,_,_,h1,_⟩
   ·exact zm h1
   ·rw[ha]at h1;cases h1) hk
  exact⟨v,y',h1,h2,h3 w⟩
 case convert st d x=>
  simp only[sr,ho]at h;obtain⟨hb,h⟩:=zL h;simp only[ld]at hb;obtain⟨⟨oL,fh⟩,hd,h⟩:=zM h;obtain⟨b,rfl,rfl,hk⟩:=h;obtain⟨a,c',xs,q1,q2,q3,q4,q5⟩:=mR R (he.ev x) hd;refine⟨_,.string b,hk,wB rfl,?_⟩;obtain⟨e,hes,hu⟩:=yFm hb.1;simp only[ae,ho,q1];refine yI ?_;have we:=z7w (P:=P) q3;obtain⟨r1,hfc,r3⟩:=Ox (P:=P) (.inl ⟨a,c',rfl,q5⟩);rcases a with _|ad
  ·obtain⟨x,hx,hs⟩:=q5;have hz:(vU b).length=0:=by
    rcases hx with⟨h1,_⟩|⟨_,_,_,_,_,h1,_⟩
    ·exact h1
    ·cases h1
   have hb0:b= .empty:=by
    unfold vU at hz;simp at hz;simpa using hz
   subst hb0;simp only[convert,bind,run_bind,Cv.run_underlying hes,Cv.run_underlying (pY hb.2),Cv.run_underlying hu];rfl
  ·simp only[cx,Nat.mul_one]at hfc;rw[we]at hfc;simp only[convert,bind,run_bind,Cv.run_underlying hes,Cv.run_underlying (pY hb.2),Cv.run_underlying hu,Conv.bytesToString,hfc];rw[<- Array.forIn_toList];simp only[bind,pure];rw[zHz (P:=P) w (λ_ _=>rfl) _ .empty];simp only[cf];congr 2;rw[Cv.GF];apply ByteArray.ext;simp
 case call c=>
  simp only[sr,ho]at h;split at h<;>first|exact h.elim|skip
  rename_i hc;obtain⟨ys,e1,e2⟩:=mA he c.args;split at h<;>first|exact h.elim|skip
  ·rename_i n ot;obtain⟨t,ht,h⟩:=zM h;obtain⟨hs,h⟩:=zL h;split at h
   ·rename_i len Jy;rw[ot]at e2;simp only[im,VR]at e2;obtain⟨y,_,rfl,⟨l,hv,_⟩,rfl⟩:=e2;obtain⟨a,c',sub,q1,q2,q3,q4⟩:=ZB R Jy;rw[hv]at q1;have e3:y= .slice a len c':=congrArg Prod.fst (bc q1);subst e3;refine⟨_,.int .i64 len,h,wB rfl,?_⟩;rw[wG ho hc,e1];obtain⟨e,Lc⟩:=eG hs;refine yI ?_;simp only[cw,ht,A4,CX,bind,run_bind,Cv.run_underlying Lc];rfl
   obtain⟨⟨oL,fh⟩,hd,hk⟩:=zM h;rw[ot]at e2;simp only[im]at e2;obtain⟨y,_,rfl,hv,rfl⟩:=e2;obtain⟨a,c',xs,rfl,q2,q3,q4,q5⟩:=mR R hv hd;refine⟨_,.int .i64 fh.length,hk,wB rfl,?_⟩;rw[wG ho hc,e1];obtain⟨e,Lc⟩:=eG hs;refine yI ?_;simp only[cw,ht,A4,CX,bind,run_bind,Cv.run_underlying Lc];rfl
  ·rename_i n ot;obtain⟨t,ht,h⟩:=zM h;obtain⟨hs,h⟩:=zL h;split at h<;>first|exact h.elim|skip
   rename_i es hg;rw[ot]at e2;simp only[im,VR]at e2;obtain⟨y,_,rfl,⟨bm,sub,e3,rfl⟩,rfl⟩:=e2;obtain⟨hd,x,q1,q2,q3⟩:=R.row hg (by simp);rw[e3]at q1;cases q1;simp only[gg]at q2;obtain⟨b,gn,ck,e4,e5,e6,rfl⟩:=q2;cases e4;have hm:=q3 bm _ (by simp[one];rfl);have hl:gn.length=es.length:=by
    clear q3 hm hg h e6
    induction es generalizing gn with
    |nil=>simp only[MR]at e5;rw[e5];rfl
    |cons p es ih=>obtain⟨m,ms,rfl,_,_,e5⟩:=e5;simp[ih _ e5]
   refine⟨_,.int .i64 es.length,h,wB rfl,?_⟩;rw[wG ho hc,e1];obtain⟨kt,e,Lc⟩:=z4g hs;refine yI ?_;simp only[cw,ht,A4,CX,bind,run_bind,Cv.run_underlying Lc,qR hm trivial];simp[pure,cf,goInt,hl]
 case lookup t x i ok=>
  simp only[sr,ho]at h;split at h<;>first|exact h.elim|skip
  rename_i n hx;split at h<;>first|exact h.elim|skip
  rename_i es hg;obtain⟨ke,B4,h⟩:=zM h;obtain⟨kv,HT,h⟩:=zM h;obtain⟨P7,h⟩:=zL h;obtain⟨z,hz,Bm,b,h⟩:=zM h;obtain⟨ds,P4,h⟩:=mC h;obtain⟨v,hm,hk⟩:=zM h;have hv:=he.ev x;rw[hx]at hv;simp only[VR]at hv;obtain⟨bm,sub,e1,e2⟩:=hv;obtain⟨hd,x',q1,q2,q3⟩:=R.row hg (by simp);rw[e1]at q1;cases q1;simp only[gg]at q2;obtain⟨b',gn,ck,e4,e5,e6,rfl⟩:=q2;rw[e2]at e4;cases e4;have P2:=q3 bm _ (by simp[one];rfl);have hi:ev ρ i=kv:=tZ HT (he.ev i);obtain⟨kd,hu,zw⟩:=Ve P7;have EA:∀v,G4 P ke.2 z=ap v->∃zv,pI P ke.2=ap zv/\VR E v zv:=λv hv=>yNr hz hv
  refine⟨bif ok then .jm [v,.d (.v (.bool b))]else v,?_⟩;have run:∃y,VR E v y/\(ce t (.map (ap bm)) kv ok).run P w= .ok (if ok then .tuple #[y,.bool b]else y) w:=by
   rcases MY zw 0 e5 Bm with⟨r1,r2,r3,r4,_⟩|⟨q,m,Db,ys,r1,r2,r3,r4,r5,r6,r7,r8,_⟩
   ·rcases P4 with⟨l1,l2⟩|⟨l1,l2,l3⟩
    ·rw[r2]at l1;cases l1
    ·subst l2 l3;obtain⟨zv,z1,z2⟩:=EA v hm;refine⟨zv,z2,?_⟩;simp only[ce,bind,run_bind,Cv.run_underlying (gU B4),qR P2 trivial,pure,cf,wH hu zw,vL hu r1,mq (bV z1)]
   ·rcases P4 with⟨l1,l2⟩|⟨l1,l2,l3⟩
    ·rw[r4]at l1;cases l1;subst l2;refine⟨rR ys,Xr hm r5,?_⟩;simp only[ce,bind,run_bind,Cv.run_underlying (gU B4),qR P2 trivial,pure,cf,wH hu zw,vL hu r1,r6]
    ·rw[r4]at l1;cases l1
  obtain⟨y,hy,jr⟩:=run;refine⟨if ok then .tuple #[y,.bool b]else y,hk,?_,?_⟩
  ·cases ok
   ·exact hy
   ·simp only[cond_true,if_true,VR,im,DR];exact⟨[y,.bool b],rfl,y,_,rfl,hy,_,_,rfl,⟨rfl,rfl⟩,rfl⟩
  ·simp only[ae,ho,e2,hi];exact yI jr
 all_goals(simp only[sr,ho]at h)
variable {P:ab} {k:Ko} {L:List HP} {E:Ev} {s:St} {w:af}
def yQj {α:Type _} {w:af} {f g:α->HP} (h:∀a x,f a x->g a x):∀{l:List α} {M:List HP} {hs:List PH},Hs w (l.map f++M) hs->Hs w (l.map g++M) hs
 |[],M,hs,H=>H
 |a::l,M,hs,H=>by
  simp only[iT,tu]at H ⊢;cases H with
  |cons ha jb hd hr=>exact .cons (h _ _ ha) jb hd (yQj h hr)
def vD {α:Type _} {f g:α->HP} (h:∀a x,f a x->g a x) {l:List α} {M:List HP} (H:Hp k w (l.map f++M)):Hp k w (l.map g++M):=
 ⟨H.1,let⟨hs,hh⟩:=H.2;⟨hs,yQj h hh⟩⟩
def Xx {A:HP} {F:PH} {M:List HP} (H:Hp k w (A::fz F::M)):∃x,A x/\Dj x F/\Sub x w/\Hp k w (fz (un x F)::M):=by
 obtain⟨hk,hs,hh⟩:=H;cases hh with
 |cons ha jb hd hr=>
  cases hr with
  |cons hf yw Rg hr=>
   simp only[fz]at hf;obtain⟨rfl,hgt⟩:=hf;refine⟨_,ha,hd _ jg,jb,hk,_,.cons ⟨rfl,hgt.mono (λb o e=>by
    rcases hd _ jg b with h|h
    ·simp[un,h,e]
    ·rw[e]at h;cases h)⟩ (yMj jb yw) (λg hg=>yBp (hd g (jx _ hg)) (Rg g hg)) hr⟩
def yAp {x F:PH} (d:Dj x F):yj F (un x F):=λb o e=>by
 rcases d b with h|h
 ·simp[un,h,e]
 ·rw[e]at h;cases h
def Rel.new (R:Rel k L E s w) {o:fw} {O:Obj} {hd:Hd} (h:gg E.F o (E.gu++[hd]) hd (one w.heap.size O)):E.le ⟨E.F,E.gu++[hd]⟩/\Rel k L ⟨E.F,E.gu++[hd]⟩ (s.new o) (w.alloc O)/\(E.gu++[hd])[s.nx]? =ap hd:=by
 have hle:E.le ⟨E.F,E.gu++[hd]⟩:=⟨yj.refl _,Jk _ _⟩
 have kj:(E.gu++[hd])[s.nx]? =ap hd:=by rw[<- R.nx];simp
 refine⟨hle,⟨by simp[St.new,R.nx],?_⟩,kj⟩;have H:=R.hp.new O;have H1:Hp k (w.alloc O) (s.rows.map (iu E)++(pt w.heap.size O::fz E.F::L)):=H.perm (ni (l₁:=s.rows.map (iu E))).symm;have H2:=vD (λr x=>iu.mono hle r) H1;have H3:Hp k (w.alloc O) (pt w.heap.size O::(s.rows.map (iu ⟨E.F,E.gu++[hd]⟩)++fz E.F::L)):=H2.perm ni;exact H3.imp λx hx=> .inr ⟨hd,kj,by rw[show x=one w.heap.size O from hx];exact h⟩
def Rel.freeze (R:Rel k L E s w) {n t sz:Nat} {fh:List (List D)} (h:s.get n=ap (.own t sz fh)):∃E',E.le E'/\E'.gu=E.gu/\Rel k L E' (s.set n (.kh sz fh)) w:=by
 have H:Hp k w (iu E (n,.own t sz fh)::fz E.F::((vY n s.rows).map (iu E)++L)):=(R.focus h).cons ni;obtain⟨x,hx,hd,jb,H⟩:=Xx H;rcases hx with⟨e,_⟩|⟨hv,h1,h2⟩
 ·cases e
 simp only[gg]at h2;obtain⟨a,c,xs,h3,h4,h5,h6⟩:=h2;have hle:E.le ⟨un x E.F,E.gu⟩:=⟨yAp hd,Jg _⟩
 refine⟨⟨un x E.F,E.gu⟩,hle,rfl,?_⟩;have H1:Hp k w ((vY n s.rows).map (iu E)++fz (un x E.F)::L):=H.perm ni.symm;have H2:=vD (λr x=>iu.mono hle r) H1;have H3:Hp k w (iu ⟨un x E.F,E.gu⟩ (n,.kh sz fh)::((vY n s.rows).map (iu ⟨un x E.F,E.gu⟩)++fz (un x E.F)::L)):=by
  have:=(@gV k w True _).2 ⟨trivial,H2⟩;refine this.imp λy hy=> .inr ⟨hv,h1,?_⟩
  simp only[gg];refine⟨hy.2,?_⟩;simp only[DR];refine⟨a,c,h3,(TV h6).2,h5,?_⟩;rcases h6 with⟨rfl,q2,rfl,rfl,rfl⟩|⟨b,r,rfl,rfl,q3,q4,q5⟩
  ·exact .inl (zm q2)
  ·refine .inr ⟨b,0,xs++r,t,(0,0),rfl,?_,o8.2 ⟨xs,r,rfl,h4.mono hle.1⟩⟩;simp[un,one]
 refine⟨by simpa[St.set]using R.nx,H3.perm ?_⟩;have:=(((uG h).2 (.kh sz fh)).map (iu ⟨un x E.F,E.gu⟩)).append_right (fz (un x E.F)::L);simpa[St.set]using this.symm
def KK (s:St):V->Option (D×St)
 | .d d=>ap (d,s)
 | .own n=>match s.get n with
   |some (.own _ sz fh)=>ap (.ro sz fh,s.set n (.kh sz fh))
   |some (.kh sz fh)=>ap (.ro sz fh,s)
   |_=>aq
 |_=>aq
def Pf (s:St):List V->Option (List D×St)
 |[]=>ap ([],s)
 |v::l=>match KK s v with
  |some (d,s')=>match Pf s' l with
   |some (ds,s2)=>ap (d::ds,s2)
   |none=>aq
  |none=>aq
def OA (R:Rel k L E s w) {v:V} {d:D} {s':St} (h:KK s v=ap (d,s')) {y:aa} (hv:VR E v y):∃E',E.le E'/\E'.gu=E.gu/\Rel k L E' s' w/\s'.nx=s.nx/\DR E'.F d y:=by
 unfold KK at h;split at h<;>first|(cases h;done)|skip
 ·cases h;exact⟨E,Ev.le.refl _,rfl,R,rfl,by simpa only[VR]using hv⟩
 ·rename_i n;simp only[VR]at hv;obtain⟨sub,h1,_⟩:=hv;split at h<;>first|(cases h;done)|skip
  ·rename_i t sz fh hg;cases h;obtain⟨E',q1,q2,q3⟩:=R.freeze hg;refine⟨E',q1,q2,q3,rfl,?_⟩;have pw:(s.set n (.kh sz fh)).get n=ap (.kh sz fh):=by
    simp only[St.get,St.set];have:∀l:List (Nat×fw),lV n l≠aq->lV n (tM n (.kh sz fh) l)=ap (.kh sz fh):=by
     intro l
     induction l with
     |nil=>intro h;exact absurd rfl h
     |cons p l ih=>
      obtain⟨m,o⟩:=p;intro h;simp only[lV,tM]at h ⊢;cases hb:be m n
      ·rw[hb]at h;simp only[lV,hb,cond_false]at h ⊢;exact ih h
      ·simp only[lV,hb,cond_true]
    exact this _ (by simp only[St.get]at hg;rw[hg];simp)
   obtain⟨hd,x,e1,e2,e3⟩:=q3.row pw (by simp);rw[q2,h1]at e1;cases e1;simp only[gg]at e2;exact e2.2
  ·rename_i sz fh hg;cases h;obtain⟨hd,x,e1,e2,e3⟩:=R.row hg (by simp);rw[h1]at e1;cases e1;simp only[gg]at e2;exact⟨E,Ev.le.refl _,rfl,R,rfl,e2.2⟩
def yCg:∀{vs:List V} {s:St} {E:Ev} (R:Rel k L E s w) {ds:List D} {s':St} (h:Pf s vs=ap (ds,s')) {ys:List aa} (hv:im E vs ys),
 ∃E',E.le E'/\E'.gu=E.gu/\Rel k L E' s' w/\s'.nx=s.nx/\iI E'.F ds ys
 |[],s,E,R,ds,s',h,ys,hv=>by
  simp only[Pf,ba,cu]at h;obtain⟨rfl,rfl⟩:=h;simp only[im]at hv;exact⟨E,Ev.le.refl _,rfl,R,rfl,by simpa only[iI]using hv⟩
 |v::vs,s,E,R,ds,s',h,ys,hv=>by
  simp only[Pf]at h;simp only[im]at hv;obtain⟨y,ys,rfl,h1,h2⟩:=hv;split at h<;>first|(cases h;done)|skip
  rename_i d s1 hd;split at h<;>first|(cases h;done)|skip
  rename_i ds s2 hds;cases h;obtain⟨E1,q1,q2,q3,q4,q5⟩:=OA R hd h1;obtain⟨E2,r1,r2,r3,r4,r5⟩:=yCg q3 hds (h2.mono q1);exact⟨E2,q1.trans r1,r2.trans q2,r3,r4.trans q4,by simp only[iI];exact⟨_,_,rfl,q5.mono r1.1,r5⟩⟩
def z7e:D->Bool
 | .v (.slice aq 0 0)=>ar
 |_=>au
def EW (P:ab):List ac->List D->List D
 |t::ts,d::ds=>(match fF P t with
  |some sz=>bif z7e d then .ro sz []else d
  |none=>d)::EW P ts ds
 |_,ds=>ds
def X2 {F:PH}:∀{ts:List ac} {ds:List D} {ys:List aa},iI F ds ys->iI F (EW P ts ds) ys
 |[],ds,ys,h=>by unfold EW;exact h
 |t::ts,[],ys,h=>by unfold EW;exact h
 |t::ts,d::ds,ys,h=>by
  unfold EW;simp only[iI]at h ⊢;obtain⟨x,xs,rfl,h1,h2⟩:=h;refine⟨x,xs,rfl,?_,X2 h2⟩;split
  ·cases hb:z7e d
   ·exact h1
   ·unfold z7e at hb;split at hb
    ·simp only[DR]at h1;obtain⟨rfl,_⟩:=h1;simp only[cond_true,DR];exact⟨aq,0,rfl,mg _,by simp,.inl trivial⟩
    ·cases hb
  ·exact h1
def zXa:∀(ts:List ac) (ds:List D),(EW P ts ds).length=ds.length
 |[],ds=>by unfold EW;rfl
 |t::ts,[]=>by unfold EW;rfl
 |t::ts,d::ds=>by unfold EW;simp[zXa ts ds]
def HX (P:ab) (s:St) (t:ac) (v:V):Option (List D×St):=
 bif IV v then(match Pf s v.cl with
  |some (ds,s')=>ap (EW P (Oo P 6 t) ds,s')
  |none=>aq)else aq
def pA {α:Type _} {b:Bool} {x:Option α} {v:α} (h:(bif b then x else aq)=ap v):b=ar/\x=ap v:=by
 cases b
 ·cases h
 ·exact⟨rfl,h⟩
def MK (R:Rel k L E s w) {t:ac} {v:V} {ds:List D} {s':St} (h:HX P s t v=ap (ds,s')) {y:aa} (hv:VR E v y):
 ∃E' ys,E.le E'/\E'.gu=E.gu/\Rel k L E' s' w/\s'.nx=s.nx/\y.cells=ys.toArray/\iI E'.F ds ys:=by
 unfold HX at h;obtain⟨hb,h⟩:=pA h;split at h<;>first|(cases h;done)|skip
 rename_i ds0 s0 hf;cases h;obtain⟨l,hl,ND⟩:=VR.cells hb hv;obtain⟨E',q1,q2,q3,q4,q5⟩:=yCg R hf ND;exact⟨E',l,q1,q2,q3,q4,hl,X2 q5⟩
variable {P:ab} {k:Ko} {L:List HP} {E:Ev} {s:St} {w:af}
def ER (F:PH) (T:Type) (m:Nat) (iF:T->Nat->fw) (x:T) (p:aa) (l0:List aa):HP:=λh=>
 ∃j':List Hd,j'[0]? =ap (p,l0)/\j'.length=m/\hS ((av m).map λj=>λh=>∃oY,j'[j]? =ap oY/\gg F (iF x j) j' oY h) h
def xZ (F:PH) (T:Type) (m:Nat) (iF:T->Nat->fw) (l:List T) (sub:List aa) (hole:Option Nat) (i:Nat):HP:=λh=>
 if hole=ap i then h=pe else ∃x p l0,l[i]? =ap x/\sub[i]? =ap p/\ER F T m iF x p l0 h
def VI (sub:List aa):Prop:=∀p∈sub,∃b oo,p=.pointer (ap ⟨b,oo,aq⟩)
def rr {F:PH} {t:Nat} {T:Type} {m:Nat} {iF:T->Nat->fw} {l:List T} {hole:Option Nat} {gu:List Hd} {hd:Hd} {h:PH}:
 gg F (.kg t T m iF l hole) gu hd h↔∃a c,hd.1= .slice a l.length c/\hd.2.length=l.length/\VI hd.2/\Rl (oA t 1 a l.length c hd.2) (hS ((av l.length).map (xZ F T m iF l hd.2 hole))) h:=by
 simp only[gg];constructor
 ·rintro⟨a,c,h1,h2,h3,g,g',h4,h5,h6,h7⟩;refine⟨a,c,h1,h2,h3,g,g',h4,KA (λi x hx=> ?_) h5,h6,h7⟩;unfold xZ;split
  ·rename_i hi;rwa [fk hi]at hx
  ·rename_i hi;rw[dx hi]at hx;obtain⟨x,p,l0,j',r1,r2,r3,r4,r5⟩:=hx;exact⟨x,p,l0,r1,r2,j',r3,r4,r5⟩
 ·rintro⟨a,c,h1,h2,h3,g,g',h4,h5,h6,h7⟩;refine⟨a,c,h1,h2,h3,g,g',h4,KA (λi x hx=> ?_) h5,h6,h7⟩;unfold xZ at hx;split
  ·rename_i hi;rwa [fk hi]at hx
  ·rename_i hi;rw[dx hi]at hx;obtain⟨x,p,l0,r1,r2,j',r3,r4,r5⟩:=hx;exact⟨x,p,l0,j',r1,r2,r3,r4,r5⟩
def Up (R:Rel k L E s w) {n t:Nat} {T:Type} {m:Nat} {iF:T->Nat->fw} {l:List T} {hole:Option Nat} (h:s.get n=ap (.kg t T m iF l hole)):
 ∃a c sub,E.gu[n]? =ap (.slice a l.length c,sub)/\sub.length=l.length/\VI sub/\
  Hp k w (oA t 1 a l.length c sub::((av l.length).map (xZ E.F T m iF l sub hole)++((vY n s.rows).map (iu E)++fz E.F::L))):=by
 obtain⟨hk,hs,hh⟩:=R.focus h;cases hh with
 |cons ha jb hd hr=>
  rcases ha with⟨e,_⟩|⟨⟨hv,sub⟩,h1,h2⟩
  ·cases e
  ·obtain⟨a,c,rfl,q2,q3,q4⟩:=rr.1 h2;refine⟨a,c,sub,h1,q2,q3,?_⟩;have H:Hp k w (Rl (oA t 1 a l.length c sub) (hS ((av l.length).map (xZ E.F T m iF l sub hole)))::((vY n s.rows).map (iu E)++fz E.F::L)):=⟨hk,_,.cons q4 jb hd hr⟩
   have H1:=vu.1 H;have H2:=rq.1 H1.swap;exact H2.perm ni
def XN {n t:Nat} {T:Type} {m:Nat} {iF:T->Nat->fw} {l:List T} {hole:Option Nat} {a:Option am} {c:Nat} {sub:List aa} {M:List HP}
 (ht:E.gu[n]? =ap (.slice a l.length c,sub)) (hl:sub.length=l.length) (hp:VI sub)
 (H:Hp k w (oA t 1 a l.length c sub::((av l.length).map (xZ E.F T m iF l sub hole)++M))):Hp k w (iu E (n,.kg t T m iF l hole)::M):=by
 have H1:Hp k w ((av l.length).map (xZ E.F T m iF l sub hole)++oA t 1 a l.length c sub::M):=H.perm ni.symm;have H2:=(rq.2 H1).swap;exact(vu.2 H2).imp λx hx=> .inr ⟨_,ht,rr.2 ⟨a,c,rfl,hl,hp,hx⟩⟩
def zOc {n i:Nat} (h:i<n):∃B,av n=av i++i::B/\∀j∈B,j≠i:=by
 refine⟨(av (n-i-1)).map (λj=>i+1+j),?_,λj hj=> ?_⟩
 ·have:n=i+(1+(n-i-1)):=by omega
  conv=>lhs;rw[this]
  rw[List.range_add,List.range_add,jz];simp[Function.comp_def,DM]
 ·obtain⟨q,_,rfl⟩:=oe.1 hj;omega
def yPy (H:Hp k w L):Hp k w ((λh=>h=pe)::L):=((@gV k w True L).2 ⟨trivial,H⟩).imp λx hx=>hx.2
def y5b (H:Hp k w ((λh=>h=pe)::L)):Hp k w L:=((@gV k w True L).1 (H.imp λx hx=>⟨trivial,hx⟩)).2
def yJn {F:PH} {T:Type} {m:Nat} {iF:T->Nat->fw} {l:List T} {sub:List aa} {M:List HP} {i:Nat} {x:T} {p:aa} (hx:l[i]? =ap x) (hp:sub[i]? =ap p)
 (H:Hp k w ((av l.length).map (xZ F T m iF l sub aq)++M)):∃l0,Hp k w (ER F T m iF x p l0::((av l.length).map (xZ F T m iF l sub (ap i))++M)):=by
 have hi:i<l.length:=(ju.1 hx).1;obtain⟨B,hB,jf⟩:=zOc hi;have e1:∀j,j≠i->xZ F T m iF l sub aq j=xZ F T m iF l sub (ap i) j:=λj hj=>by
  funext h;unfold xZ;rw[dx (by simp),dx (by simp only[ba];omega)]
 have e2:xZ F T m iF l sub (ap i) i=λh=>h=pe:=by funext h;unfold xZ;rw[fk rfl]
 have ea:(av i).map (xZ F T m iF l sub (ap i))=(av i).map (xZ F T m iF l sub aq):=vy λj hj=>(e1 j (by have:=zh.1 hj;omega)).symm
 have eb:B.map (xZ F T m iF l sub (ap i))=B.map (xZ F T m iF l sub aq):=vy λj hj=>(e1 j (jf j hj)).symm
 rw[hB,jz,iT]at H ⊢;rw[ea,eb,e2];have H1:Hp k w (xZ F T m iF l sub aq i::((av i).map (xZ F T m iF l sub aq)++(B.map (xZ F T m iF l sub aq)++M))):=by
  rw[km]at H;exact H.perm ni
 obtain⟨l0,H2⟩:∃l0,Hp k w (ER F T m iF x p l0::((av i).map (xZ F T m iF l sub aq)++(B.map (xZ F T m iF l sub aq)++M))):=by
  obtain⟨hk,hs,hh⟩:=H1;cases hh with
  |cons ha jb hd hr=>
   unfold xZ at ha;rw[dx (by simp)]at ha;obtain⟨x',p',l0,r1,r2,r3⟩:=ha;rw[hx]at r1;rw[hp]at r2;cases r1;cases r2;exact⟨l0,hk,_,.cons r3 jb hd hr⟩
 have H3:=yPy H2;rw[km];refine⟨l0,H3.swap.cons ?_⟩;exact ni.symm
def yTw {F:PH} {T:Type} {m:Nat} {iF:T->Nat->fw} {l:List T} {sub:List aa} {M:List HP} {i:Nat} {x:T} {p:aa} {l0:List aa} (hi:i<l.length) (hp:sub[i]? =ap p)
 (H:Hp k w (ER F T m iF x p l0::((av l.length).map (xZ F T m iF l sub (ap i))++M))):Hp k w ((av l.length).map (xZ F T m iF (l.set i x) sub aq)++M):=by
 obtain⟨B,hB,jf⟩:=zOc hi;have e1:∀j,j≠i->xZ F T m iF (l.set i x) sub aq j=xZ F T m iF l sub (ap i) j:=λj hj=>by
  funext h;unfold xZ;rw[dx (by simp),dx (by simp only[ba];omega),List.getElem?_set_ne (by omega)]
 have e2:xZ F T m iF l sub (ap i) i=λh=>h=pe:=by funext h;unfold xZ;rw[fk rfl]
 have ea:(av i).map (xZ F T m iF (l.set i x) sub aq)=(av i).map (xZ F T m iF l sub (ap i)):=vy λj hj=>e1 j (by have:=zh.1 hj;omega)
 have eb:B.map (xZ F T m iF (l.set i x) sub aq)=B.map (xZ F T m iF l sub (ap i)):=vy λj hj=>e1 j (jf j hj)
 rw[hB,jz,iT,km]at H ⊢;rw[e2]at H;rw[ea,eb];have H1:Hp k w ((λh=>h=pe)::ER F T m iF x p l0::((av i).map (xZ F T m iF l sub (ap i))++(B.map (xZ F T m iF l sub (ap i))++M))):=
  H.perm ((co _ ni).trans (.swap _ _ _))
 have H2:=y5b H1;have H3:Hp k w (xZ F T m iF (l.set i x) sub aq i::((av i).map (xZ F T m iF l sub (ap i))++(B.map (xZ F T m iF l sub (ap i))++M))):=H2.imp λh hh=>by
  unfold xZ;rw[dx (by simp)];exact⟨x,p,l0,by rw[List.getElem?_set_self hi],hp,hh⟩
 exact H3.perm ni.symm
def yPz {F:PH} {T:Type} {m:Nat} {iF:T->Nat->fw} {l l2:List T} {sub ug:List aa} (hl:sub.length=l.length) {M:List HP}
 (H:Hp k w ((av l.length).map (xZ F T m iF l sub aq)++((av l2.length).map (xZ F T m iF l2 ug aq)++M))):
 Hp k w ((av (l++l2).length).map (xZ F T m iF (l++l2) (sub++ug) aq)++M):=by
 rw[iQ,List.range_add,jz,xi,km];have ea:(av l.length).map (xZ F T m iF (l++l2) (sub++ug) aq)=(av l.length).map (xZ F T m iF l sub aq):=vy λj hj=>by
  have hj:=zh.1 hj;funext h;unfold xZ;rw[dx (by simp),dx (by simp),Fb hj,Fb (by omega)]
 have eb:(av l2.length).map ((xZ F T m iF (l++l2) (sub++ug) aq)∘(l.length+·))=(av l2.length).map (xZ F T m iF l2 ug aq):=vy λj hj=>by
  funext h;simp only[Function.comp];unfold xZ;rw[dx (by simp),dx (by simp),CY (by omega),CY (by omega)];rw[show l.length+j-l.length=j by omega,show l.length+j-sub.length=j by omega]
 rw[ea,eb];exact H
def zOa {n:Nat} {T:Type} {m:Nat} {iF:T->Nat->fw} {x:T} {p:aa} {l0:List aa} (ht:E.gu[n]? =ap (p,l0)) {h:PH} (H:iu E (n,.sv T m iF x) h):ER E.F T m iF x p l0 h:=by
 rcases H with⟨e,_⟩|⟨hd,h1,h2⟩
 ·cases e
 ·rw[ht]at h1;cases h1;simp only[gg]at h2;exact h2
def z5d {n:Nat} {T:Type} {m:Nat} {iF:T->Nat->fw} {x:T} {p:aa} {l0:List aa} (ht:E.gu[n]? =ap (p,l0)) {h:PH} (H:ER E.F T m iF x p l0 h):iu E (n,.sv T m iF x) h:=
 .inr ⟨_,ht,by simp only[gg];exact H⟩
def Rel.out {A:HP} {E:Ev} {s:St} (R:Rel k (A::L) E s w):Hp k w (A::(s.rows.map (iu E)++fz E.F::L)):=by
 refine R.hp.perm ?_;have:(fz E.F::A::L).Perm (A::fz E.F::L):= .swap _ _ _;exact(this.append_left _).trans ni
def Rel.Jt {A:HP} {E:Ev} {s:St} (hn:E.gu.length=s.nx) (H:Hp k w (A::(s.rows.map (iu E)++fz E.F::L))):Rel k (A::L) E s w:=by
 refine⟨hn,H.perm ?_⟩;have:(fz E.F::A::L).Perm (A::fz E.F::L):= .swap _ _ _;exact((this.append_left _).trans ni).symm
def Rel.qz {A B:HP} {E:Ev} {s:St} (R:Rel k (A::L) E s w) (h:∀x,A x->B x):Rel k (B::L) E s w:=Rel.Jt R.nx (R.out.imp h)
def Rel.take {E:Ev} {s:St} (R:Rel k L E s w) {n:Nat} {o:fw} (h:s.get n=ap o):Rel k (iu E (n,o)::L) E (s.del n) w:=Rel.Jt R.nx (R.focus h)
def Rel.gz {E:Ev} {s:St} (R:Rel k L E s w) {n:Nat} {o:fw} (h:s.get n=ap o):Rel k (iu E (n,o)::L) E (s.Iu n o) w:=by
 cases o with
 |kh sz fh=>
  obtain⟨hd,x,h1,h2,h3⟩:=R.row h (by simp);refine⟨R.nx,?_⟩;have H:Hp k w ((λh=>h=pe)::(s.rows.map (iu E)++fz E.F::L)):=yPy R.hp;simp only[gg]at h2;have H1:Hp k w (iu E (n,.kh sz fh)::(s.rows.map (iu E)++fz E.F::L)):=H.imp λy hy=> .inr ⟨hd,h1,by simp only[gg];exact⟨hy,h2.2⟩⟩
  refine H1.perm ?_;have:(iu E (n,.kh sz fh)::fz E.F::L).Perm (fz E.F::iu E (n,.kh sz fh)::L):= .swap _ _ _;exact ni.symm.trans (this.append_left _)
 |_=>exact R.take h
def Rel.Iv (R:Rel k L E s w) {n t i:Nat} {T:Type} {m:Nat} {iF:T->Nat->fw} {l:List T} (h:s.get n=ap (.kg t T m iF l aq)) {x:T} (hx:l[i]? =ap x) {y:aa} (hv:VR E (.sub n i) y):
 ∃E1,E.le E1/\Rel k L E1 ((s.set n (.kg t T m iF l (ap i))).new (.sv T m iF x)) w/\VR E1 (.nm s.nx 0) y/\∃l0,E1.gu[s.nx]? =ap (y,l0):=by
 obtain⟨a,c,sub,h1,h2,h3,H⟩:=Up R h;simp only[VR]at hv;obtain⟨hd,l',b,oo,e1,e2,e3⟩:=hv;rw[h1]at e1;cases e1;obtain⟨l0,H1⟩:=yJn hx e2 (H.perm ni.symm);have H2:Hp k w (oA t 1 a l.length c sub::((av l.length).map (xZ E.F T m iF l sub (ap i))++(ER E.F T m iF x y l0::((vY n s.rows).map (iu E)++fz E.F::L)))):=
  H1.perm ((ni.symm.trans (cp _ (.swap _ _ _))).trans ni)
 have H3:=(XN h1 h2 h3 H2).swap;have H4:Hp k w (ER E.F T m iF x y l0::((tM n (.kg t T m iF l (ap i)) s.rows).map (iu E)++fz E.F::L)):=by
  refine H3.cons ?_;have:=(((uG h).2 (.kg t T m iF l (ap i))).map (iu E)).append_right (fz E.F::L);simpa using this.symm
 have H5:Hp k w ((tM n (.kg t T m iF l (ap i)) s.rows).map (iu E)++(ER E.F T m iF x y l0::fz E.F::L)):=H4.perm ni.symm;have hle:E.le ⟨E.F,E.gu++[(y,l0)]⟩:=⟨yj.refl _,Jk _ _⟩
 have kj:(E.gu++[((y,l0):Hd)])[s.nx]? =ap (y,l0):=by rw[<- R.nx];simp
 have H6:=vD (λr x=>iu.mono hle r) H5;have H7:Hp k w (ER E.F T m iF x y l0::((tM n (.kg t T m iF l (ap i)) s.rows).map (iu ⟨E.F,E.gu++[(y,l0)]⟩)++fz E.F::L)):=H6.perm ni;refine⟨⟨E.F,E.gu++[(y,l0)]⟩,hle,⟨by simp[St.new,St.set,R.nx],?_⟩,by simp only[VR];exact⟨b,oo,l0,by rw[kj,e3],e3⟩,l0,kj⟩;exact H7.imp λz hz=>z5d (E:=⟨E.F,E.gu++[(y,l0)]⟩) kj hz
def Rel.Iz (R:Rel k L E s w) {n t i z:Nat} {T:Type} {m:Nat} {iF:T->Nat->fw} {l:List T} {x:T} (ha:s.get z=ap (.sv T m iF x)) (h:(s.del z).get n=ap (.kg t T m iF l (ap i))) (hi:i<l.length)
 {y:aa} {l0:List aa} (hz:E.gu[z]? =ap (y,l0)) (hs:∀v sub,E.gu[n]? =ap (v,sub)->sub[i]? =ap y):Rel k L E ((s.del z).set n (.kg t T m iF (l.set i x) aq)) w:=by
 have R1:=R.take ha;obtain⟨a,c,sub,h1,h2,h3,H⟩:=Up R1 h;have hp:=hs _ _ h1;have H1:Hp k w (iu E (z,.sv T m iF x)::((av l.length).map (xZ E.F T m iF l sub (ap i))++(oA t 1 a l.length c sub::((vY n (s.del z).rows).map (iu E)++fz E.F::L)))):=by
  refine H.perm ?_;have p1:((vY n (s.del z).rows).map (iu E)++fz E.F::iu E (z,.sv T m iF x)::L).Perm (iu E (z,.sv T m iF x)::((vY n (s.del z).rows).map (iu E)++fz E.F::L)):=
   (cp _ (.swap _ _ _)).trans ni
  refine(co _ ((cp _ p1).trans ni)).trans ((cr _ _ _).trans (co _ ni.symm))
 have H2:=yTw hi hp (H1.imp λq hq=>zOa hz hq);have H3:Hp k w (iu E (n,.kg t T m iF (l.set i x) aq)::((vY n (s.del z).rows).map (iu E)++fz E.F::L)):=by
  refine XN (a:=a) (c:=c) (sub:=sub) (by rw[rj];exact h1) (by rw[rj];exact h2) h3 ?_;rw[rj];exact H2.perm ni
 refine⟨by simpa[St.set,St.del]using R1.nx,H3.perm ?_⟩;have:=(((uG h).2 (.kg t T m iF (l.set i x) aq)).map (iu E)).append_right (fz E.F::L);simpa[St.set]using this.symm
def YL {rows:List (Nat×fw)} {nx t:Nat} {T:Type} {m:Nat} {iF:T->Nat->fw} {l:List T} {a:Option am} {c:Nat} {sub:List aa} (hn:E.gu.length=nx) (hl:sub.length=l.length) (hp:VI sub)
 (H:Hp k w (oA t 1 a l.length c sub::((av l.length).map (xZ E.F T m iF l sub aq)++(rows.map (iu E)++fz E.F::L)))):
 ∃E',E.le E'/\Rel k L E' ⟨(nx,.kg t T m iF l aq)::rows,nx+1⟩ w/\VR E' (.own nx) (.slice a l.length c):=by
 have hle:E.le ⟨E.F,E.gu++[(.slice a l.length c,sub)]⟩:=⟨yj.refl _,Jk _ _⟩
 have kj:(E.gu++[((.slice a l.length c,sub):Hd)])[nx]? =ap (.slice a l.length c,sub):=by rw[<- hn];simp
 refine⟨⟨E.F,E.gu++[(.slice a l.length c,sub)]⟩,hle,⟨by simp[hn],?_⟩,by simp only[VR];exact⟨sub,kj,_,_,_,rfl⟩⟩;have H0:Hp k w (rows.map (iu E)++(oA t 1 a l.length c sub::((av l.length).map (xZ E.F T m iF l sub aq)++fz E.F::L))):=by
  refine H.perm ?_;refine(co _ ?_).trans ni.symm;rw[<- km,<- km];exact cq _ Bh
 have H1:=vD (λr x=>iu.mono hle r) H0;have H2:Hp k w (oA t 1 a l.length c sub::((av l.length).map (xZ E.F T m iF l sub aq)++(rows.map (iu ⟨E.F,E.gu++[(.slice a l.length c,sub)]⟩)++fz E.F::L))):=by
  refine H1.perm (ni.trans (co _ ?_));rw[<- km,<- km];exact cq _ Bh
 exact XN (E:=⟨E.F,E.gu++[(.slice a l.length c,sub)]⟩) kj hl hp H2
def pz (k:Ko) (L:List HP) (E:Ev) (K:V->St->Prop) (y:aa) (w':af):Prop:=∃E' v s',E.le E'/\Rel k L E' s' w'/\VR E' v y/\K v s'
@[reducible] def Br:=FuncId->List V->St->(V->St->Prop)->Prop
def Ia (P:ab) (H:Br):Prop:=∀f args s K,H f args s K->∀(k:Ko) (L:List HP) (E:Ev) (w:af) (ys:List aa),Rel k L E s w->im E args ys->ob P (callFunc f ys.toArray) w (pz k L E K)
structure SlI where
 e:ac
 sz:Nat
 oO:Nat
 z:List D
def pJ (P:ab) (t:ac):Option SlI:=
 match gD P t with
 |some (e,sz,oO,z)=>bif be z.size sz && z.toList.all (·.oz)then ap ⟨e,sz,oO,EW P (Oo P 6 e) (z.toList.map .v)⟩else aq
 |none=>aq
def yKg {F:PH}:∀{l:List aa},(l.all (·.oz))=ar->iI F (l.map .v) l
 |[],_=>by simp[iI]
 |y::l,h=>by
  simp only[List.all_cons,ld]at h;simp only[iT,iI,DR];exact⟨y,l,rfl,⟨rfl,h.1⟩,yKg h.2⟩
def cL {P:ab} {t:ac} {i:SlI} (h:pJ P t=ap i):∃z,gD P t=ap (i.e,i.sz,i.oO,z)/\z.size=i.sz/\i.z.length=i.sz/\∀F,iI F i.z z.toList:=by
 unfold pJ at h;split at h<;>first|(cases h;done)|skip
 rename_i e sz oO z hz;obtain⟨hb,h⟩:=pA h;cases h;simp only[ld]at hb;have h1:=ji hb.1;exact⟨z,hz,h1,by rw[zXa,iz,Jo,h1],λF=>X2 (yKg hb.2)⟩
def Nb {α:Type} (l:List α) (o:Nat) (vs:List α):List α:=l.take o++(vs++l.drop (o+vs.length))
def z4x {α:Type} {sz:Nat}:∀{fh:List (List α)} (i:Nat) (ds:List α),(∀el∈fh,el.length=sz)->i<fh.length->ds.length=sz->
 (fh.set i ds).flatten=Nb fh.flatten (i*sz) ds
 |[],i,ds,_,h,_=>by simp at h
 |el::fh,0,ds,hu,h,hd=>by
  simp only[KX,A2,Nb,bo,GU,zi,oC];rw[hd,<- hu el jg,List.drop_left]
 |el::fh,i+1,ds,hu,h,hd=>by
  have ih:=z4x (fh:=fh) i ds (λe he=>hu e (jx _ he)) (by simpa using h) hd;simp only[Jl,A2,Nb]at ih ⊢;rw[ih];have e1:=hu el jg;rw[Ak,Hw (i*sz) sz,List.take_append,KV,e1];rw[oV (show el.length<=sz+i*sz by omega),show sz+i*sz-sz=i*sz by omega,HD (show el.length<=sz+i*sz+ds.length by omega),show sz+i*sz+ds.length-sz=i*sz+ds.length by omega];simp
def OH {F:PH} {ds es:List D} {l m:List aa} (h1:iI F ds l) (h2:iI F es m) (o:Nat):iI F (ds.take o++(es++ds.drop (o+es.length))) (lj l o m):=by
 unfold lj;rw[km];have:=h2.length;rw[this];exact(h1.take o).append (h2.append (h1.drop _))
def O6 (P:ab) (e sz:Nat):St->List (Nat×V)->List (List D)->Option (List (List D)×St)
 |s,[],fh=>ap (fh,s)
 |s,(i,v)::ps,fh=>match HX P s e v with
  |some (ds,s')=>bif be ds.length sz && bu i fh.length then O6 P e sz s' ps (fh.set i ds)else aq
  |none=>aq
def yVa {α:Type} {sz:Nat} {fh:List (List α)} {i:Nat} {ds:List α} (hu:∀el∈fh,el.length=sz) (hd:ds.length=sz):∀el∈fh.set i ds,el.length=sz:=by
 intro el qf;rcases Pt qf with h|rfl
 ·exact hu el h
 ·exact hd
def z4n {P:ab} {k:Ko} {L:List HP} {w:af} {e sz:Nat}:∀{ps:List (Nat×V)} {E:Ev} {s:St} (R:Rel k L E s w) {fh mh:List (List D)} {s':St} {qs:List (Nat×aa)} {cs:List aa},
 O6 P e sz s ps fh=ap (mh,s')->B9 E ps qs->(∀el∈fh,el.length=sz)->iI E.F fh.flatten cs->
 ∃E' Cp,E.le E'/\E'.gu=E.gu/\Rel k L E' s' w/\s'.nx=s.nx/\(∀el∈mh,el.length=sz)/\mh.length=fh.length/\iI E'.F mh.flatten Cp/\Instr.fill (λi=>ap (i*sz,sz)) cs.toArray qs=ap Cp.toArray
 |[],E,s,R,fh,mh,s',qs,cs,h,hp,hu,hc=>by
  simp only[O6,ba,cu]at h;obtain⟨rfl,rfl⟩:=h;simp only[B9]at hp;subst hp;exact⟨E,cs,Ev.le.refl _,rfl,R,rfl,hu,rfl,hc,rfl⟩
 |(i,v)::ps,E,s,R,fh,mh,s',qs,cs,h,hp,hu,hc=>by
  simp only[O6]at h;simp only[B9]at hp;obtain⟨y,qs,rfl,hv,hp⟩:=hp;split at h<;>first|(cases h;done)|skip
  rename_i ds s1 hd;obtain⟨hb,h⟩:=pA h;simp only[ld]at hb;have hlen:=ji hb.1;have hi:i<fh.length:=by simpa[zg]using hb.2
  obtain⟨E1,ys,q1,q2,q3,q4,q5,q6⟩:=MK R hd hv;have WH:B9 E1 ps qs:=by
   have:∀{ps:List (Nat×V)} {qs:List (Nat×aa)},B9 E ps qs->B9 E1 ps qs:=by
    intro ps
    induction ps with
    |nil=>intro qs h;exact h
    |cons p ps ih=>obtain⟨i,v⟩:=p;intro qs h;obtain⟨y,ys,h1,h2,h3⟩:=h;exact⟨y,ys,h1,h2.mono q1,ih h3⟩
   exact this hp
  have Co:iI E1.F (fh.set i ds).flatten (lj cs (i*sz) ys):=by
   rw[z4x i ds hu hi hlen];exact OH (hc.mono q1.1) q6 (i*sz)
  obtain⟨E2,Cp,r1,r2,r3,r4,r5,r6,r7,r8⟩:=z4n q3 h WH (yVa hu hlen) Co;refine⟨E2,Cp,q1.trans r1,r2.trans q2,r3,r4.trans q4,r5,by rw[r6,rj],r7,?_⟩;have C3:ys.length=sz:=by rw[q6.length,hlen]
  have xy:cs.length=fh.length*sz:=by rw[hc.length,j9 hu]
  have qt:i*sz+sz<=fh.length*sz:=by
   have:=yh sz (show i+1<=fh.length by omega);rwa [Ak]at this
  have aax:y.cells.size=sz:=by rw[q5,Ji,C3]
  have HW:(decide (y.cells.size≠sz)||decide (i*sz+y.cells.size>cs.toArray.size))=au:=by
   rw[aax,Ji];simp;omega
  have FM:y.cells.zipIdx.foldl (λ(cs:Array aa) (p:aa×Nat)=>cs.setIfInBounds (i*sz+p.2) p.1) cs.toArray=(lj cs (i*sz) ys).toArray:=by
   have hz:ys.toArray.zipIdx=(ys.zipIdx).toArray:=by
    apply cy;simp
   rw[q5,hz,List.foldl_toArray];rw[XF (off:=i*sz) ys 0 cs (by omega)];rfl
  simp only[Instr.fill];rw[dx (by rw[HW];simp),FM];exact r8
def eR {z:List aa}:∀n,(GR z.toArray (n*z.length)).toList=(aw n z).flatten
 |0=>by simp[GR]
 |n+1=>by
  have ih:=eR (z:=z) n;simp only[GR,Ji]at ih ⊢;rw[K0,A2,<- ih,Ak,Hw,List.range_add,jz];congr 1
  ·apply Hz;intro i;rw[uz];by_cases hi:i<z.length
   ·rw[KZ hi];simp only[ym,Nat.mod_eq_of_lt hi];rw[mi];rw[xl hi];rfl
   ·rw[ue (by simpa using Nat.not_lt.1 hi),ue (Nat.not_lt.1 hi)];rfl
  ·rw[xi];refine vy λj _=> ?_
   simp only[Function.comp,Nat.add_mod_left]
def z1j {F:PH} {ds:List D} {l:List aa} (h:iI F ds l):∀n,iI F (aw n ds).flatten (aw n l).flatten
 |0=>by simp[iI]
 |n+1=>by simp only[K0,A2];exact h.append (z1j h n)
def Ow {α:Type} {ds:List α} {n sz:Nat} (h:ds.length=sz):∀el∈aw n ds,el.length=sz:=by
 intro el qf;rw[(List.mem_replicate.1 qf).2];exact h
def zX (fh:List (List D)) (i f:Nat) (ds:List D):List (List D):=fh.modify i λel=>el.take f++(ds++el.drop (f+ds.length))
def VG:V->Bool
 | .top=>au
 | .agg _=>au
 | .jm _=>au
 |_=>ar
def OZ:List V->Bool
 |[]=>ar
 |v::l=>bif VG v then OZ l else au
def z3p {E:Ev}:∀{vs:List V} {l:List aa},OZ vs=ar->im E vs l->∀y∈l,y.oz=ar
 |[],l,_,h=>by simp only[im]at h;subst h;simp
 |v::vs,l,hb,h=>by
  simp only[im]at h;obtain⟨x,xs,rfl,h1,h2⟩:=h;simp only[OZ]at hb;obtain⟨qu,oG⟩:VG v=ar/\OZ vs=ar:=by
   revert hb;generalize VG v=b;cases b<;>simp
  intro y hy;rcases ku.1 hy with rfl|hy
  ·cases v<;>simp only[VG,nr]at qu<;>simp only[VR]at h1
   ·rename_i d;exact iI.one (F:=E.F) (vs:=[d]) (l:=[y]) (by simp only[iI];exact⟨_,_,rfl,h1,rfl⟩) y (by simp)
   ·obtain⟨_,_,_,_,rfl⟩:=h1;rfl
   ·obtain⟨_,_,_,_,_,_,rfl⟩:=h1;rfl
   ·obtain⟨_,_,_,_,_,_,_,rfl,_⟩:=h1;rfl
   ·obtain⟨_,_,_,_,rfl⟩:=h1;rfl
   ·obtain⟨_,_,_,_,_,rfl⟩:=h1;rfl
   ·obtain⟨_,_,_,rfl⟩:=h1;rfl
   ·obtain⟨_,_,_,_,_,_,rfl⟩:=h1;rfl
   ·obtain⟨_,_,rfl,_⟩:=h1;rfl
   ·obtain⟨_,rfl,_⟩:=h1;rfl
  ·exact z3p oG h2 y hy
def Xp (s:St) (sz:Nat):V->Option (List (List D))
 | .d (.v (.slice aq 0 0))=>ap []
 | .d (.v (.string b))=>bif be sz 1 then ap (vU b)else aq
 |v=>match tF s v with
  |some (oL,fh)=>bif be sz oL then ap fh else aq
  |none=>aq
def z1h (P:ab) (t1 t2:ac) (s:St) (x y:V) (K:V->St->Prop):Prop:=
 iL (pJ P t1) λi=>bif KL P t2 && bu 0 i.oO then iL (Xp s i.sz y) λys=>
  match x with
  | .d (.v (.slice aq 0 0))=>ys.length*i.oO<=140737488355328/\K (.own s.nx) (s.new (.own i.e i.sz ys))
  | .own n=>match s.get n with
    |some (.own T sz fh)=>bif be T i.e && be sz i.sz then(fh.length+ys.length)*i.oO<=140737488355328/\K (.own s.nx) ((s.del n).new (.own i.e i.sz (fh++ys)))else False
    |_=>False
  |_=>False else False
def VC:V->Bool
 | .agg l=> !(be l.length 1)
 | .d _=>ar
 |_=>au
def Mx:List V->St->(List V->St->Prop)->Prop
 |[],s,K=>K [] s
 |v::l,s,K=>match v with
  | .d (.ro sz fh)=>Mx l (s.new (.kh sz fh)) λl' s'=>K (.own s.nx::l') s'
  |v=>Mx l s λl' s'=>K (v::l') s'
def Ya (P:ab) (t1 t2:ac) (s:St) (x y:V) (K:V->St->Prop):Prop:=
 match y with
 | .own n2=>(match s.get n2 with
   |some (.kg _ T2 m2 xe l2 aq)=>iL (pJ P t1) λi=>bif KL P t2 && bu 0 i.oO && be i.sz 1 then(match x with
    | .d (.v (.slice aq 0 0))=>l2.length*i.oO<=140737488355328/\K (.own s.nx) ((s.del n2).new (.kg i.e T2 m2 xe l2 aq))
    | .own n=>(match(s.del n2).get n with
      |some (.kg t1' T1 m1 RG l1 aq)=>∃zr:List T2,fw.kg t1' T1 m1 RG l1 aq=fw.kg i.e T2 m2 xe zr aq/\(zr.length+l2.length)*i.oO<=140737488355328/\K (.own s.nx) (((s.del n2).del n).new (.kg i.e T2 m2 xe (zr++l2) aq))
      |_=>False)
    |_=>False)else False
   |_=>False)
 |_=>False
def yJz (s:St):V->Bool
 | .own n=>match KB s n with
   |some _=>ar
   |none=>au
 |_=>au
def yZb (n i a:Nat) (v:V) (s:St) (K:V->St->Prop):Prop:=
 match s.get a with
 |some o=>(match(s.del a).get n with
  |some (.kg t T m iF l (ap j))=>∃x:T,o=.sv T m iF x/\j=i/\i<l.length/\K v ((s.del a).set n (.kg t T m iF (l.set i x) aq))
  |_=>False)
 |none=>False
def yOh (H:Br) (f:FuncId) (args:List V) (s:St) (K:V->St->Prop):Prop:=
 match args with
 | .sub n i::rest=>(match s.get n with
   |some (.kg t T m iF l aq)=>∃x:T,l[i]?=ap x/\H f (.nm s.nx 0::rest) ((s.set n (.kg t T m iF l (ap i))).new (.sv T m iF x)) λv s'=>yZb n i s.nx v s' K
   |_=>False)
 |args=>H f args s K
def Vx (P:ab) (t:ac):Option ac:=
 match P.underlying t with
 |some (.slice e)=>(match P.underlying e with
  |some (.int .u8)=>ap e
  |_=>aq)
 |_=>aq
def zWt {P:ab} {t e:ac} (h:Vx P t=ap e):P.underlying t=ap (.slice e)/\P.underlying e=ap (.int .u8):=by
 unfold Vx at h;split at h<;>first|(cases h;done)|skip
 rename_i e' he;split at h<;>first|(cases h;done)|skip
 rename_i hu;cases h;exact⟨he,hu⟩
def Xf:List (Nat×V)->Option Nat
 |[(0,.nm m 0)]=>ap m
 |_=>aq
def X1 (P:ab) (t:ac) (x:yf) (n sz i f:Nat) (v:V) (s:St) (K:V->St->Prop):Prop:=
 bif be sz x.sz then(match v,fF P t with
  | .own c,ap _=>(match s.get c with
    |some (.own _ _ _)=>iL (pM P t) λm=>bif be m 1 && !(be n c)then(i<x.fh.length/\f<sz)/\(match x.q with
     |true=>(i=x.i/\f=x.f)/\K (.jm []) (s.set n (.vh ar x.T sz x.fh x.i x.f ar (ap c)))
     |false=>(i=x.i->f=x.f->K (.jm []) (s.set n (.vh au x.T sz x.fh x.i x.f ar (ap c))))/\(x.f<sz/\(¬(i=x.i/\f=x.f)->match HX P s t (.own c)with
      |some (ds,s')=>(match nY s' n with
       |some y=>bif be ds.length 1 then y=x/\K (.jm []) (s'.set n (.vh x.q x.T sz (zX x.fh i f ds) x.i x.f x.b x.m))else False
       |none=>False)
      |none=>False)))else False
    |_=>False)
  |v,_=>(match HX P s t v with
   |some (ds,s')=>(match nY s' n with
    |some y=>iL (pM P t) λm=>bif be ds.length m then(y=x/\i<x.fh.length/\f+m<=sz/\x.clear i f m)/\K (.jm []) (s'.set n (.vh x.q x.T sz (zX x.fh i f ds) x.i x.f x.b x.m))else False
    |none=>False)
   |none=>False))else False
def se (P:ab) (H:Br) (o:ak) (ρ:xE) (s:St) (K:V->St->Prop):Prop:=
 match o.op with
 | .alloc e=>iL (pI P e) λz=>bif IV (CZ z)then K (.nm s.nx 0) (s.new (.cells (CZ z).cl e))else False
 | .box e x=>bif IV (mn ρ x)then Mx (mn ρ x).cl s λvs s=>K (.nm s.nx 0) (s.new (.cells vs e))else False
 | .buildSlice t len ps=>match Xf (KD ρ ps.toList)with
   |some m=>(match s.get m with
    |some (.sv T mm iF x)=>iL (pJ P t) λi=>bif be i.sz 1 && be len 1 then K (.own s.nx) ((s.del m).new (.kg i.e T mm iF [x] aq))else False
    |_=>False)
   |none=>iL (pJ P t) λi=>bif bg (len*i.sz) 16777216 then match O6 P i.e i.sz s (KD ρ ps.toList) (aw len i.z)with
   |some (fh,s')=>K (.own s'.nx) (s'.new (.own i.e i.sz fh))
   |none=>False else False
 | .makeMap _ aq=>K (.mp s.nx) (s.new (.map []))
 | .makeSlice t l c=>match mn ρ l,mn ρ c with
   | .d (.v (.int _ l)),.d (.v (.int _ c))=>iL (pJ P t) λi=>(0<=l/\l<=c/\c<=9223372036854775807/\(i.oO:Int)*c<=2 ^ 48)/\K (.own s.nx) (s.new (.own i.e i.sz (aw l.toNat i.z)))
   |_,_=>False
 | .store t x v=>match mn ρ x with
   | .nm n off=>bif IV (mn ρ v)then Mx (mn ρ v).cl s λus s=>match s.get n with
     |some (.cells vs T)=>iL (pM P t) λm=>bif be us.length m && bg (off+m) vs.length && OZ us then
       K (.jm []) (s.set n (.cells (vs.take off++(us++vs.drop (off+m))) T))else False
     |_=>False
     else False
   | .el n sz i f=>match nY s n with
     |some x=>X1 P t x n sz i f (mn ρ v) s K
     |none=>match HX P s t (mn ρ v)with
     |some (ds,s')=>match s'.get n with
      |some (.own T oL fh)=>iL (pM P t) λm=>bif be sz oL && be ds.length m && bg (f+m) sz then i<fh.length/\K (.jm []) (s'.set n (.own T sz (zX fh i f ds)))else False
      |some (.G2 T fh)=>iL (pM P t) λm=>bif be sz 1 && be ds.length 1 && be m 1 && be f 0 then i<fh.length/\K (.jm []) (s'.set n (.G2 T (zX fh i 0 ds)))else False
      |_=>False
     |none=>False
   | .na n off i=>match mn ρ v with
     | .d (.v u)=>(match s.get n with
       |some (.cells vs T)=>iL (pM P t) λm=>bif be m 1 then i<(vs.drop off).length/\K (.jm []) (s.set n (.cells (vs.take off++(vs.drop off).set i (.d (.v u))) T))else False
       |some (.vec ds T)=>iL (pM P t) λm=>bif be m 1 then i<(ds.drop off).length/\K (.jm []) (s.set n (.vec (ds.take off++(ds.drop off).set i (.v u)) T))else False
       |_=>False)
     |_=>False
   |_=>False
 | .slice t x lo hi aq=>match mn ρ x with
   | .own n=>match s.get n with
     |some (.own T sz fh)=>iL (fF P t) λoL=>bif be sz oL then Ep (GL ρ lo) (GL ρ hi) λl h=>match l,h with
      |none,aq=>K (.own n) s
      |none,ap h=>(0<=h/\h<=fh.length)/\K (.own s.nx) ((s.del n).new (.own T sz (fh.take h.toNat)))
      |some l,h=>M9 sz fh (ap l) h λv=>K v (s.set n (.kh sz fh))else False
     |some (.kh sz fh)=>iL (fF P t) λoL=>bif be sz oL then Ep (GL ρ lo) (GL ρ hi) λl h=>M9 sz fh l h λv=>K v s else False
     |_=>False
   |_=>False
 | .mapUpdate t x i v=>match mn ρ x with
   | .mp n=>iL (GM P t) λke=>iL (GN (mn ρ i)) λkv=>bif M6 P ke.1 kv && VC (mn ρ v)then(match HX P s ke.2 (mn ρ v)with
     |some (ds,s')=>(match s'.get n with
      |some (.map es)=>lD kv es/\K (.jm []) (s'.set n (.map (jI kv ds es)))
      |_=>False)
     |none=>False)else False
   |_=>False
 | .mapEntry t x i=>match mn ρ x with
   | .mp n=>iL (GM P t) λke=>iL (GN (mn ρ i)) λkv=>bif M6 P ke.1 kv then iL (MD P ke.2) λz=>(match s.get n with
     |some (.map es)=>lD kv es/\∃b,HE P ke.2 λds=>LK es kv z ds b/\iL (G4 P ke.2 ds) λv=>∀x:Int,K (.jm [v,.d (.v (.int .i64 x))]) (s.set n (.Ct (jI kv ds es) kv x))
     |_=>False)else False
   |_=>False
 | .entryStore t x st v=>match mn ρ x with
   | .mp n=>(match mn ρ st with
     | .d (.v (.int _ b))=>iL (GM P t) λke=>bif VC (mn ρ v)then(match HX P s ke.2 (mn ρ v)with
       |some (ds,s')=>(match s'.get n with
        |some (.Ct es kv b')=>b=b'/\lD kv es/\K (.jm []) (s'.set n (.map (jI kv ds es)))
        |_=>False)
       |none=>False)else False
     |_=>False)
   |_=>False
 | .convert st d x=>match mn ρ x with
   | .d (.v (.string b))=>bif Kz P st then iL (Vx P d) λe=>K (.own s.nx) (s.new (.G2 e (vU b)))else False
   | .own n=>match s.get n with
     |some (.own T sz fh)=>bif be st d && be sz 1 then iL (Vx P d) λe=>bif be T e then 1<=fh.length/\K (.own n) (s.set n (.kh sz fh))else False else False
     |_=>False
   |_=>False
 | .range t x=>match mn ρ x with
   | .d (.v (.string b))=>bif Kz P t then K (.nm s.nx 0) (s.new (.iter b 0))else False
   |_=>False
 | .next x ar=>match mn ρ x with
   | .nm n 0=>match s.get n with
     |some (.iter b pos)=>du (bu pos b.size)
       (K (.jm [.d (.v (.bool ar)),.d (.v (.int .i64 (pos:Nat))),.d (.v (.int .i32 (Utf8.decode b pos).1))]) (s.set n (.iter b (pos+(Utf8.decode b pos).2))))
       (K (.jm [.d (.v (.bool au))]) s)
     |_=>False
   |_=>False
 | .call c=>match c.callee with
   | .value x=>match mn ρ x with
     | .fn f a b=>yOh H f (a++(C' ρ c.args.toList++b)) s K
     |_=>False
   | .builtin .append=>match c.argTypes.toList with
     |[t1,t2]=>match C' ρ c.args.toList with
      |[x,y]=>bif yJz s y then Ya P t1 t2 s x y K else z1h P t1 t2 s x y K
      |_=>False
     |_=>False
   | .builtin .delete=>match C' ρ c.args.toList with
     |[.mp n,y]=>iL c.argTypes[0]? λt=>iL (GM P t) λke=>iL (GN y) λkv=>bif M6 P ke.1 kv then(match s.get n with
      |some (.map es)=>lD kv es/\K (.jm []) (s.set n (.map (rC kv es)))
      |_=>False)else False
     |_=>False
   |_=>False
 |_=>False
def gA {P:ab} {w:af} {r:Nat} {O O':Obj} (h:w.heap[r]? =ap O') (hO:match O' with| .cells _ _ _=>False|_=>True):(setObj r O).run P w= .ok () (World.ja w r O):=by
 simp only[setObj,cf,h];cases O'<;>first|exact hO.elim|rfl
def pE {sz:Nat}:∀{fh:List (List D)} (i f:Nat) (ds:List D),(∀el∈fh,el.length=sz)->i<fh.length->f+ds.length<=sz->
 (zX fh i f ds).flatten=Nb fh.flatten (i*sz+f) ds/\∀el∈zX fh i f ds,el.length=sz
 |[],i,f,ds,_,h,_=>by simp at h
 |el::fh,0,f,ds,hu,h,hd=>by
  have e1:=hu el jg;constructor
  ·simp only[zX,List.modify_zero_cons,A2,Nb,bo,oC];rw[zq (by omega),GZ (by omega)];simp
  ·intro e he;simp only[zX,List.modify_zero_cons,ku]at he;rcases he with rfl|he
   ·simp only[iQ,oK,qc];omega
   ·exact hu e (jx _ he)
 |el::fh,i+1,f,ds,hu,h,hd=>by
  have e1:=hu el jg;obtain⟨Wt,Ws⟩:=pE (fh:=fh) i f ds (λe he=>hu e (jx _ he)) (by simpa using h) hd;constructor
  ·simp only[zX,Nq,A2,Nb]at Wt ⊢;rw[Wt,Ak,List.take_append,KV,e1];rw[oV (show el.length<=i*sz+sz+f by omega),show i*sz+sz+f-sz=i*sz+f by omega,HD (show el.length<=i*sz+sz+f+ds.length by omega),show i*sz+sz+f+ds.length-sz=i*sz+f+ds.length by omega];simp
  ·intro e he;simp only[zX,Nq,ku]at he Ws;rcases he with rfl|he
   ·exact e1
   ·exact Ws e he
def zUw {P:ab} {w:af} {t b o:Nat} {v y:aa} {l:List aa} {T:ac} (hz:pM P t=ap 1) (hc:v.cells= #[y]) (ho:o<l.length) (h1:y.oz=ar)
 (hb:w.heap[b]? =ap (.cells l.toArray T (l.length,l.length+1))):GO P (storeVar t ⟨b,o,aq⟩ v) w (World.ja w b (.cells (l.set o y).toArray T (l.length,l.length+1))):=by
 have S8:w.cell? ⟨b,o,aq⟩=ap l[o]:=by rw[UX hb];exact xl ho
 have hf:w.frozen? ⟨b,o,aq⟩=au:=by
  simp only[World.frozen?,hb];simp;omega
 have ra:w.setCell ⟨b,o,aq⟩ y=World.ja w b (.cells (l.set o y).toArray T (l.length,l.length+1)):=by
  unfold World.setCell World.ja;congr 1;apply Pm;intro i;rw[Array.getElem?_modify,Pw];have iq:b<w.heap.size:=by
   rcases vx b w.heap.size with h|h
   ·exact h
   ·rw[GY h]at hb;cases hb
  by_cases hi:b=i
  ·subst hi;have oG:w.heap[b]= .cells l.toArray T (l.length,l.length+1):=by rw[Pu iq]at hb;exact bc hb
   simp[iq,oG]
  ·simp[hi]
 have h0:(store ⟨b,o,aq⟩ y).run P w= .ok () (World.ja w b (.cells (l.set o y).toArray T (l.length,l.length+1))):=by
  unfold store;cases y<;>first|(cases h1;done)|(simp only[cf,S8,hf,nr,if_false,ra])
 unfold pM at hz;split at hz<;>first|(cases hz;done)|skip
 rename_i i hi;have hz:i.size=1:=bc hz;unfold GO storeVar;simp only[bind,run_bind,run_sizeOf hi,hc,hz];simp only[Ji,iY,Al];have e:(storeCells ⟨b,o,aq⟩ [y] 0).run P w= .ok () (World.ja w b (.cells (l.set o y).toArray T (l.length,l.length+1))):=by
  unfold storeCells;simp only[bind,run_bind,uX,E8,h0];unfold storeCells;rfl
 simpa using e
def gW {P:ab} {w:af} {t b o n:Nat} {v:aa} {l vs:List aa} {T:ac} (hz:pM P t=ap n) (hc:v.cells=vs.toArray) (hn:vs.length=n) (ho:o+n<=l.length) (h1:∀y∈vs,y.oz=ar)
 (hb:w.heap[b]? =ap (.cells l.toArray T)):GO P (storeVar t ⟨b,o,aq⟩ v) w (World.ja w b (.cells (lj l o vs).toArray T)):=by
 unfold pM at hz;split at hz<;>first|(cases hz;done)|skip
 rename_i i hi;cases hz;unfold GO storeVar;have:=vA (P:=P) vs 0 o l w hb (by omega) h1;simp only[E8]at this;simp only[bind,run_bind,run_sizeOf hi,hc,Ji,hn];simpa using this
end Sx
