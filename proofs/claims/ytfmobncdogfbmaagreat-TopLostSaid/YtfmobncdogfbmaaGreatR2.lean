/- Texts of ours. No condition. -/
import Derived.Laws.Cover1
import Derived.Laws.StructEq
import Derived.MapKept
import Derived.Test.YtfmobncdogfbmaaGreatR1
set_option linter.all false
open Go renaming Value->aa,Program->ab,TypeId->ac,execOp->ae,World->af,Operand->ag,MapEntry->aj,Oper->ak,Addr->am,IntKind->ao
open Option renaming some->ap,none->aq
open Bool renaming true->ar,false->au
open List renaming range->av,replicate->aw,take_take->ax,drop_take->ay
open Option.some renaming injEq->az,inj->ba
open Nat renaming beq->bc,ble->be,zero_mul->bg,blt->bo
open Go.Instr renaming findNow->bu,typeAssert->bv,lookup->bz
open Go.Sem renaming run->cd,bind->ce,pure->cf
open Go.Op renaming operands->cg,equalIn->cm
open List.Perm renaming cons->co,append_left->cp,append_right->cq,swap->cr
open Prod.mk renaming injEq->ct
open Go.Builtin renaming len_->cu,firstCells->cw
open Array renaming ext'->cx
open True renaming intro->Y_
namespace Sx
open Go Go.RowKit Cv
def ic.length {E:Ev}:∀{vs:List V} {l:List aa},ic E vs l->l.length=vs.length
 |[],l,h=>by simp only[ic]at h;subst h;rfl
 |v::vs,l,h=>by simp only[ic]at h;obtain⟨x,xs,rfl,h1,h2⟩:=h;simp[h2.length]
def ic.get {E:Ev}:∀{vs:List V} {l:List aa},ic E vs l->∀{i:Nat} {v:V},vs[i]? =ap v->∃y,l[i]? =ap y/\VR E v y
 |[],l,h,i,v,e=>by simp at e
 |v::vs,l,h,i,u,e=>by
  simp only[ic]at h;obtain⟨x,xs,rfl,h1,h2⟩:=h;cases i with
  |zero=>simp at e;subst e;exact⟨x,rfl,h1⟩
  |succ i=>simp at e ⊢;exact h2.get e
def ic.take {E:Ev}:∀{vs:List V} {l:List aa},ic E vs l->∀(n:Nat),ic E (vs.take n) (l.take n)
 |[],l,h,n=>by simp only[ic]at h;subst h;simp[ic]
 |v::vs,l,h,n=>by
  simp only[ic]at h;obtain⟨x,xs,rfl,h1,h2⟩:=h;cases n with
  |zero=>simp[ic]
  |succ n=>simp only[vj,ic];exact⟨_,_,rfl,h1,h2.take n⟩
def ic.drop {E:Ev}:∀{vs:List V} {l:List aa},ic E vs l->∀(n:Nat),ic E (vs.drop n) (l.drop n)
 |[],l,h,n=>by simp only[ic]at h;subst h;simp[ic]
 |v::vs,l,h,n=>by
  have h0:=h;simp only[ic]at h;obtain⟨x,xs,rfl,h1,h2⟩:=h;cases n with
  |zero=>exact h0
  |succ n=>simp only[List.drop_succ_cons];exact h2.drop n
def ic.append {E:Ev}:∀{vs:List V} {l:List aa},ic E vs l->∀{us:List V} {m:List aa},ic E us m->ic E (vs++us) (l++m)
 |[],l,h,us,m,h'=>by simp only[ic]at h;subst h;exact h'
 |v::vs,l,h,us,m,h'=>by
  simp only[ic]at h;obtain⟨x,xs,rfl,h1,h2⟩:=h;simp only[uu,ic];exact⟨_,_,rfl,h1,h2.append h'⟩
def ic.one {E:Ev} {v:V} {y:aa} (h:VR E v y):ic E [v] [y]:=by simp only[ic];exact⟨_,_,rfl,h,rfl⟩
def ic.nil {E:Ev}:ic E [] []:=by simp only[ic]
def iC.length {F:PH}:∀{vs:List D} {l:List aa},iC F vs l->l.length=vs.length
 |[],l,h=>by simp only[iC]at h;subst h;rfl
 |v::vs,l,h=>by simp only[iC]at h;obtain⟨x,xs,rfl,h1,h2⟩:=h;simp[h2.length]
def iC.append {F:PH}:∀{vs:List D} {l:List aa},iC F vs l->∀{us:List D} {m:List aa},iC F us m->iC F (vs++us) (l++m)
 |[],l,h,us,m,h'=>by simp only[iC]at h;subst h;exact h'
 |v::vs,l,h,us,m,h'=>by
  simp only[iC]at h;obtain⟨x,xs,rfl,h1,h2⟩:=h;simp only[uu,iC];exact⟨_,_,rfl,h1,h2.append h'⟩
def iC.split {F:PH}:∀{vs us:List D} {l:List aa},iC F (vs++us) l->∃l1 l2,l=l1++l2/\iC F vs l1/\iC F us l2
 |[],us,l,h=>⟨[],l,rfl,by simp only[iC],h⟩
 |v::vs,us,l,h=>by
  simp only[uu,iC]at h;obtain⟨x,xs,rfl,h1,h2⟩:=h;obtain⟨l1,l2,rfl,h3,h4⟩:=h2.split;exact⟨x::l1,l2,rfl,by simp only[iC];exact⟨_,_,rfl,h1,h3⟩,h4⟩
def iC.take {F:PH}:∀{vs:List D} {l:List aa},iC F vs l->∀(n:Nat),iC F (vs.take n) (l.take n)
 |[],l,h,n=>by simp only[iC]at h;subst h;simp[iC]
 |v::vs,l,h,n=>by
  simp only[iC]at h;obtain⟨x,xs,rfl,h1,h2⟩:=h;cases n with
  |zero=>simp[iC]
  |succ n=>simp only[vj,iC];exact⟨_,_,rfl,h1,h2.take n⟩
def iC.drop {F:PH}:∀{vs:List D} {l:List aa},iC F vs l->∀(n:Nat),iC F (vs.drop n) (l.drop n)
 |[],l,h,n=>by simp only[iC]at h;subst h;simp[iC]
 |v::vs,l,h,n=>by
  have h0:=h;simp only[iC]at h;obtain⟨x,xs,rfl,h1,h2⟩:=h;cases n with
  |zero=>exact h0
  |succ n=>simp only[List.drop_succ_cons];exact h2.drop n
def iC.one {F:PH}:∀{vs:List D} {l:List aa},iC F vs l->∀v∈l,v.ou=ar
 |[],l,h=>by simp only[iC]at h;subst h;simp
 |v::vs,l,h=>by
  simp only[iC]at h;obtain⟨x,xs,rfl,h1,h2⟩:=h;intro u hu;rcases j'.1 hu with rfl|hu
  ·cases v with
   |v y=>simp only[DR]at h1;rw[h1.1];exact h1.2
   |ro sz fa=>simp only[DR]at h1;obtain⟨a,c,rfl,_⟩:=h1;rfl
  ·exact h2.one u hu
def iC.get {F:PH}:∀{vs:List D} {l:List aa},iC F vs l->∀{i:Nat} {v:D},vs[i]? =ap v->∃y,l[i]? =ap y/\DR F v y
 |[],l,h,i,v,e=>by simp at e
 |v::vs,l,h,i,u,e=>by
  simp only[iC]at h;obtain⟨x,xs,rfl,h1,h2⟩:=h;cases i with
  |zero=>simp at e;subst e;exact⟨x,rfl,h1⟩
  |succ i=>simp at e ⊢;exact h2.get e
def iC.OJ {E:Ev}:∀{vs:List D} {l:List aa},iC E.F vs l->ic E (vs.map .d) l
 |[],l,h=>by simp only[iC]at h;subst h;simp[ic]
 |v::vs,l,h=>by
  simp only[iC]at h;obtain⟨x,xs,rfl,h1,h2⟩:=h;simp only[jg,ic,VR];exact⟨_,_,rfl,h1,h2.OJ⟩
def oX {F:PH}:∀{fa:Q_ D} {l:List aa},BP F fa l↔∃xs r,l=xs++r/\iC F fa.flatten xs
 |[],l=>by simp only[BP,List.flatten_nil,true_iff,iC];exact⟨[],l,rfl,rfl⟩
 |el::fa,l=>by
  simp only[BP,Bg];constructor
  ·rintro⟨l1,l2,rfl,h1,h2⟩;obtain⟨xs,r,rfl,h3⟩:=oX.1 h2;exact⟨l1++xs,r,by simp,h1.append h3⟩
  ·rintro⟨xs,r,rfl,h⟩;obtain⟨l1,l2,rfl,h1,h2⟩:=h.split;exact⟨l1,l2++r,by simp,h1,oX.2 ⟨l2,r,rfl,h2⟩⟩
def wJ {α:Type} {sz:Nat}:∀{fa:Q_ α},(∀el∈fa,el.length=sz)->fa.flatten.length=fa.length*sz
 |[],_=>by simp
 |el::fa,h=>by
  rw[Bg,ix,h el iY,wJ (λe he=>h e (jj _ he)),iG,Ad];omega
def rZ {α:Type} {sz:Nat}:∀{fa:Q_ α} (i:Nat),(∀el∈fa,el.length=sz)->fa.flatten.drop (i*sz)=(fa.drop i).flatten
 |[],i,_=>by simp
 |el::fa,0,h=>by simp
 |el::fa,i+1,h=>by
  rw[Bg,List.drop_succ_cons,<- rZ i (λe he=>h e (jj _ he)),Ad,FI,<- Ds];rw[show(el++fa.flatten).drop sz=fa.flatten by rw[<- h el iY,Ow]]
def tG {α:Type} {sz:Nat}:∀{fa:Q_ α} (i:Nat),(∀el∈fa,el.length=sz)->fa.flatten.take (i*sz)=(fa.take i).flatten
 |[],i,_=>by simp
 |el::fa,0,h=>by simp
 |el::fa,i+1,h=>by
  rw[Bg,vj,Bg,<- tG i (λe he=>h e (jj _ he)),Ad,FI,List.take_append,h el iY];simp[h el iY];rw[ng (by rw[h el iY];omega)]
def zNa {α:Type} {sz:Nat} {fa:Q_ α} {i f n:Nat} {el:List α} (h:∀el∈fa,el.length=sz) (hi:fa[i]? =ap el) (hf:f+n<=sz):(fa.flatten.drop (i*sz+f)).take n=(el.drop f).take n:=by
 have hm:=kx hi;have gr:i<fa.length:=(jk.1 hi).1;rw[<- Ds,rZ i h];have:fa.drop i=el::fa.drop (i+1):=by
  rw[CN gr];congr 1;exact(jk.1 hi).2
 rw[this,Bg,HN (by rw[h el hm];omega),zi (by rw[pj,h el hm];omega)]
def okc:aa->Bool
 | .agg cs=>cs.toList.all (·.ou)
 | .tuple cs=>cs.toList.all (·.ou)
 |_=>ar
def Dw (x:aa):V:=
 bif okc x then(match x with
 | .agg cs=> .agg (cs.toList.map λy=> .d (.v y))
 | .tuple cs=> .je (cs.toList.map λy=> .d (.v y))
 |x=> .d (.v x))else .top
def yTh {E:Ev}:∀{l:List aa},(l.all (·.ou))=ar->ic E (l.map λy=> .d (.v y)) l
 |[],_=>by simp[ic]
 |y::l,h=>by
  simp only[List.all_cons,lu]at h;simp only[jg,ic,VR,DR];exact⟨y,l,rfl,⟨rfl,h.1⟩,yTh h.2⟩
def PG (E:Ev) (x:aa):VR E (Dw x) x:=by
 unfold Dw;cases h:okc x
 ·simp[VR]
 ·cases x<;>simp only[cond_true,VR,DR]<;>first|exact⟨rfl,rfl⟩|exact⟨Y_,rfl⟩|(rename_i cs;exact⟨cs.toList,by simp,yTh h⟩)
@[reducible] def xG:=Nat->V
def lz (ρ:xG):ag->V
 | .tmp t=>ρ t
 | .const x=>Dw x
 | .func f=> .fn f [] []
 | .global _=> .top
def Bx (ρ:xG):Option Nat->V->xG
 |none,_=>ρ
 |some d,v=>λi=>bif bc i d then v else ρ i
def lp (E:Ev) (ρS:xG) (ρ:Env):Prop:=∀t,VR E (ρS t) (ρ t)
def lp.ev {E:Ev} {ρS:xG} {ρ:Env} (h:lp E ρS ρ) (x:ag):VR E (lz ρS x) (ev ρ x):=by
 cases x with
 |tmp t=>exact h t
 |const v=>exact PG E v
 |func f=>simp only[lz,Cv.ev,VR];exact⟨[],[],rfl,ic.nil,ic.nil⟩
 |global g=>simp only[lz,VR]
def lp.put {E:Ev} {ρS:xG} {ρ:Env} (h:lp E ρS ρ) (d:Option Nat) {v:V} {y:aa} (hv:VR E v y):lp E (Bx ρS d v) (Cv.put ρ d y):=by
 cases d with
 |none=>exact h
 |some d=>
  intro t;simp only[Bx,Cv.put];cases bc t d
  ·exact h t
  ·exact hv
def lp.mono {E E':Ev} (h:E.le E') {ρS:xG} {ρ:Env} (e:lp E ρS ρ):lp E' ρS ρ:=λt=>(e t).mono h
def DF (ρ:xG):List ag->List V
 |[]=>[]
 |x::l=>lz ρ x::DF ρ l
def yQc {E:Ev} {ρS:xG} {ρ:Env} (h:lp E ρS ρ):∀(l:List ag),ic E (DF ρS l) (l.map (ev ρ))
 |[]=>by simp[DF,ic]
 |x::l=>by simp only[DF,jg,ic];exact⟨_,_,rfl,h.ev x,yQc h l⟩
def mD {E:Ev} {ρS:xG} {ρ:Env} (h:lp E ρS ρ) (l:Array ag):∃ys:List aa,l.map (ev ρ)=ys.toArray/\ic E (DF ρS l.toList) ys:=
 ⟨l.toList.map (ev ρ),by apply cx;simp,yQc h _⟩
def Rs:List V->Option (List aa)
 |[]=>ap []
 | .d (.v x)::l=>match Rs l with
   |some r=>ap (x::r)
   |none=>aq
 |_::_=>aq
def Hw:V->Option aa
 | .d (.v x)=>ap x
 | .agg l=>match Rs l with
   |some r=>ap (.agg r.toArray)
   |none=>aq
 | .fn f [] []=>ap (.func (.func f) #[] #[])
 |_=>aq
def z4d {E:Ev}:∀{l:List V} {r ys:List aa},Rs l=ap r->ic E l ys->ys=r
 |[],r,ys,h,e=>by simp only[Rs,az]at h;subst h;simpa only[ic]using e
 |v::l,r,ys,h,e=>by
  simp only[ic]at e;obtain⟨x,xs,rfl,h1,h2⟩:=e;unfold Rs at h;split at h
  ·rename_i heq;cases heq
  ·rename_i x' l' heq;cases heq;simp only[VR,DR]at h1;split at h<;>first|(cases h;done)|skip
   rename_i r' hr;cases h;rw[h1.1,z4d hr h2]
  ·cases h
def LH {E:Ev} {v:V} {x y:aa} (h:Hw v=ap x) (e:VR E v y):y=x:=by
 unfold Hw at h;split at h
 ·cases h;simp only[VR,DR]at e;exact e.1
 ·rename_i l;split at h<;>first|(cases h;done)|skip
  rename_i r hr;cases h;simp only[VR]at e;obtain⟨ys,rfl,h2⟩:=e;rw[z4d hr h2]
 ·cases h;simp only[VR]at e;obtain⟨as,bs,rfl,h2,h3⟩:=e;simp only[ic]at h2 h3;subst h2 h3;rfl
 ·cases h
def X4 (ρ:xG):ag->Bool
 | .tmp t=>match Hw (ρ t)with
   |some _=>ar
   |none=>au
 |_=>ar
def Xm (ρ:xG):List ag->Bool
 |[]=>ar
 |x::l=>bif X4 ρ x then Xm ρ l else au
def Xe (ρ:xG):Env:=λt=>match Hw (ρ t)with
 |some x=>x
 |none=>undef
def y6o {E:Ev} {ρS:xG} {ρ:Env} (h:lp E ρS ρ) {x:ag} (hl:X4 ρS x=ar):ev (Xe ρS) x=ev ρ x:=by
 cases x with
 |tmp t=>
  simp only[X4]at hl;split at hl<;>first|(cases hl;done)|skip
  rename_i y hy;simp only[Cv.ev,Xe,hy];exact(LH hy (h t)).symm
 |_=>rfl
def yGz {E:Ev} {ρS:xG} {ρ:Env} (h:lp E ρS ρ):∀{l:List ag},Xm ρS l=ar->∀x∈l,ev (Xe ρS) x=ev ρ x
 |[],_,x,hx=>by cases hx
 |y::l,hl,x,hx=>by
  simp only[Xm]at hl;cases hy:X4 ρS y with
  |false=>rw[hy]at hl;cases hl
  |true=>
   rw[hy]at hl;rcases j'.1 hx with rfl|hx
   ·exact y6o h hy
   ·exact yGz h hl x hx
def PM:Op->Bool
 | .binOp _ _ _ _ _=>ar
 | .unOp _ _ _=>ar
 | .convert _ _ _=>ar
 | .index _ _ _=>ar
 | .nilCheck _=>ar
 | .slice _ _ _ _ aq=>ar
 | .call {callee:= .builtin _,..}=>ar
 |_=>au
def yMy {ρ ρ':Env} {o:ak} (hp:PM o.op=ar) (h:∀x∈o.op.operands.toList,ev ρ x=ev ρ' x):ae (ev ρ) o=ae (ev ρ') o:=by
 obtain⟨dst,op,ty,pos,after,gd⟩:=o;cases op<;>simp only[PM,oS]at hp
 case binOp a b x y c=>simp only[cg,j',FM,or_false,forall_eq_or_imp,forall_eq]at h;simp only[ae,h]
 case unOp a b x=>simp only[cg,j',FM,or_false,forall_eq]at h;simp only[ae,h]
 case convert a b x=>simp only[cg,j',FM,or_false,forall_eq]at h;simp only[ae,h]
 case index a x y=>simp only[cg,j',FM,or_false,forall_eq_or_imp,forall_eq]at h;simp only[ae,h]
 case nilCheck x=>simp only[cg,j',FM,or_false,forall_eq]at h;simp only[ae,h]
 case slice a x lo hi mx=>
  cases mx with
  |some m=>simp[PM]at hp
  |none=>
   have hl:lo.map (ev ρ)=lo.map (ev ρ'):=by
    cases lo with
    |none=>rfl
    |some z=>simp only[wz];rw[h z (by simp[cg])]
   have hh:hi.map (ev ρ)=hi.map (ev ρ'):=by
    cases hi with
    |none=>rfl
    |some z=>simp only[wz];rw[h z (by simp[cg])]
   simp only[ae,hl,hh,h x (by simp[cg])];rfl
 case call c=>
  obtain⟨callee,args,ats⟩:=c;cases callee<;>simp only[PM,oS]at hp
  have ha:args.map (ev ρ)=args.map (ev ρ'):=by
   apply Array.map_congr_left;intro x hx;exact h x (by simp[cg,Call.operands,hx])
  simp only[ae,resolve,ha]
def LX (P:ab) (t:ac) (x y:aa):Option Bool:=
 match P.underlying t with
 |some (.int _)=>match x with
  | .int k a=>match y with
    | .int k' b=>bif xm k k' then ap (a==b)else aq
    |_=>aq
  |_=>aq
 |some .string=>match x with
  | .string a=>match y with
    | .string b=>ap (a==b)
    |_=>aq
  |_=>aq
 |some .bool=>match x with
  | .bool a=>match y with
    | .bool b=>ap (a==b)
    |_=>aq
  |_=>aq
 |_=>aq
def LP (P:ab) (xs ys:List aa):List Field->Option Bool
 |[]=>ap ar
 | f :: fs => bif f.name == "_" then none else match xs[f.offset]?, ys[f.offset]? with
   |some x,ap y=>match LX P f.type x y with
    |some a=>match LP P xs ys fs with
     |some b=>ap (a && b)
     |none=>aq
    |none=>aq
   |_,_=>aq
def Xk (P:ab) (f:Field) (xs ys:List aa):Option Bool:=
 match P.underlying f.type with
 |some (.struct gs)=>match ES P f.type with
  |some n=>bif P.stoodInHeld f.type then aq else LP P ((xs.drop f.offset).take n) ((ys.drop f.offset).take n) gs.toList
  |none=>aq
 |_=>match xs[f.offset]?,ys[f.offset]? with
  |some x,ap y=>LX P f.type x y
  |_,_=>aq
def NN (P:ab) (xs ys:List aa):List Field->Option Bool
 |[]=>ap ar
 | f :: fs => bif f.name == "_" then none else match Xk P f xs ys with
   |some a=>match NN P xs ys fs with
    |some b=>ap (a && b)
    |none=>aq
   |none=>aq
def ySv (P:ab) (t:ac) (xs ys:List aa):Option Bool:=
 match P.underlying t with
 |some (.struct fs)=>bif P.stoodInHeld t then aq else NN P xs ys fs.toList
 |_=>aq
def WA {P:ab} {t:ac} {x y:aa} {b:Bool} (h:LX P t x y=ap b):CA P t=ar:=by
 unfold LX at h;unfold CA;split at h<;>first|(cases h;done)|skip
 all_goals(rename_i he;rw[he])
def z8m {P:ab} {t:ac} {x y:aa} {b:Bool} {d:Nat} (h:LX P t x y=ap b) (w:af):(cm (d+1) t x y).run P w= .ok b w:=by
 unfold LX at h;split at h<;>first|(cases h;done)|skip
 all_goals
  rename_i he;split at h<;>first|(cases h;done)|skip
  split at h<;>first|(cases h;done)|skip
  unfold cm;simp only[bind,pure,run_bind,Cv.run_underlying he]
 ·obtain⟨hk,hb⟩:=yZ h;clear h;have:=zZl hk;subst this;cases hb;simp only[if_true,cd]
 ·cases h;rfl
 ·cases h;rfl
def VO {P:ab} {t off:Nat} {cs:List aa} {v:aa} (hs:CA P t=ar) (h:cs[off]? =ap v) (w:af):(part t cs.toArray off).run P w= .ok v w:=by
 unfold part;have:cs.toArray[off]? =ap v:=by simp[h]
 simp only[bind,run_bind,nJ hs w,oS,if_false,this];rfl
def zXn {P:ab} (w:af) {xs ys:List aa} {σ:Type} {s0:σ} {fin:σ} {F:Field->σ->Sem (ForInStep σ)}
 (hF : ∀ f x y b, (f.name == "_") = false -> xs[f.offset]? = some x -> ys[f.offset]? = some y -> LX P f.type x y = some b -> (F f s0).run P w = .ok (if b then .yield s0 else .done fin) w) :
 ∀{fs:List Field} {b:Bool},LP P xs ys fs=ap b->((forIn fs s0 F):Sem σ).run P w= .ok (if b then s0 else fin) w
 |[],b,h=>by
  simp only[LP,az]at h;subst h;rfl
 |f::fs,b,h=>by
  simp only[LP]at h;have hn : (f.name == "_") = false := by
   cases hb : (f.name == "_")
   ·rfl
   ·rw[hb]at h;cases h
  rw[hn]at h;simp only[cond_false]at h;split at h<;>first|(cases h;done)|skip
  rename_i x y hx hy;split at h<;>first|(cases h;done)|skip
  rename_i a ha;split at h<;>first|(cases h;done)|skip
  rename_i b' hb;cases h;have h1:=hF f x y a hn hx hy ha;have ih:=zXn (P:=P) w hF hb;simp only[List.forIn_cons,bind,run_bind,h1];cases a
  ·rfl
  ·simpa using ih
def z3b {P:ab} {t:ac} {fs:Array Field} {xs ys:List aa} {b:Bool} {d:Nat} (yg:P.underlying t=ap (.struct fs)) (lr:P.stoodInHeld t=au) (h:LP P xs ys fs.toList=ap b) (w:af):
 (cm (d+2) t (.agg xs.toArray) (.agg ys.toArray)).run P w= .ok b w:=by
 unfold cm;simp only[bind,pure,run_bind,Cv.run_underlying yg,program,cd,ce,lr,oS,if_false];rw[<- Array.forIn_toList];have := zXn (P := P) (xs := xs) (ys := ys) w (σ := Option Bool × Unit) (s0 := (none, ())) (fin := (some false, ())) (F := λf __s => if f.name ≠ "_" then
  (part f.type xs.toArray f.offset).bind λx=>(part f.type ys.toArray f.offset).bind λy=>(cm (d+1) f.type x y).bind λc=>
    if(!c)=ar then cf (ForInStep.done (ap au,()))else cf (ForInStep.yield (aq,()))
  else cf (ForInStep.yield (aq,()))) (by
  intro f x y c hn hx hy hc;have jy : f.name ≠ "_" := by simpa using hn
  simp only[jy,ne_eq,not_false_eq_true,if_true,run_bind,VO (WA hc) hx,VO (WA hc) hy,z8m (d:=d) hc];cases c<;>rfl) h
 rw[this];cases b<;>rfl
def zKa {P:ab} {t off n:Nat} {cs:List aa} (hs:ES P t=ap n) (w:af):(part t cs.toArray off).run P w= .ok (.agg ((cs.drop off).take n).toArray) w:=by
 obtain⟨h1,h2⟩:=aC hs w;unfold part;have e:cs.toArray.extract off (off+n)=((cs.drop off).take n).toArray:=by
  rw[List.extract_toArray,List.extract_eq_take_drop];simp
 simp only[bind,pure,run_bind,h1,if_true,h2,cd,e]
def zRp {P:ab} (w:af) {xs ys:List aa} {σ:Type} {s0:σ} {fin:σ} {F:Field->σ->Sem (ForInStep σ)}
 (hF : ∀ f b, (f.name == "_") = false -> Xk P f xs ys = some b -> (F f s0).run P w = .ok (if b then .yield s0 else .done fin) w) :
 ∀{fs:List Field} {b:Bool},NN P xs ys fs=ap b->((forIn fs s0 F):Sem σ).run P w= .ok (if b then s0 else fin) w
 |[],b,h=>by
  simp only[NN,az]at h;subst h;rfl
 |f::fs,b,h=>by
  simp only[NN]at h;have hn : (f.name == "_") = false := by
   cases hb : (f.name == "_")
   ·rfl
   ·rw[hb]at h;cases h
  rw[hn]at h;simp only[cond_false]at h;split at h<;>first|(cases h;done)|skip
  rename_i a ha;split at h<;>first|(cases h;done)|skip
  rename_i b' hb;cases h;have h1:=hF f a hn ha;have ih:=zRp (P:=P) w hF hb;simp only[List.forIn_cons,bind,run_bind,h1];cases a
  ·rfl
  ·simpa using ih
def ySg {P:ab} {f:Field} {xs ys:List aa} {b:Bool} (h:Xk P f xs ys=ap b) (w:af):
 ∃x y,(part f.type xs.toArray f.offset).run P w= .ok x w/\(part f.type ys.toArray f.offset).run P w= .ok y w/\(cm 9999 f.type x y).run P w= .ok b w:=by
 unfold Xk at h;split at h
 ·rename_i gs hgs;split at h<;>first|(cases h;done)|skip
  rename_i n hn;have lr:P.stoodInHeld f.type=au/\LP P ((xs.drop f.offset).take n) ((ys.drop f.offset).take n) gs.toList=ap b:=by
   revert h;cases P.stoodInHeld f.type<;>intro h
   ·exact⟨rfl,h⟩
   ·cases h
  exact⟨_,_,zKa hn w,zKa hn w,z3b (d:=9997) hgs lr.1 lr.2 w⟩
 ·split at h<;>first|(cases h;done)|skip
  rename_i x y hx hy;exact⟨x,y,VO (WA h) hx w,VO (WA h) hy w,z8m (d:=9998) h w⟩
def yKb {P:ab} {t:ac} {xs ys:List aa} {b:Bool} (h:ySv P t xs ys=ap b) (w:af):(Op.equal t (.agg xs.toArray) (.agg ys.toArray)).run P w= .ok b w:=by
 unfold ySv at h;split at h<;>first|(cases h;done)|skip
 rename_i fs yg;have lr:P.stoodInHeld t=au/\NN P xs ys fs.toList=ap b:=by
  revert h;cases P.stoodInHeld t<;>intro h
  ·exact⟨rfl,h⟩
  ·cases h
 rw[nG];unfold cm;simp only[bind,pure,run_bind,Cv.run_underlying yg,program,cd,ce,lr.1,oS,if_false];rw[<- Array.forIn_toList];have := zRp (P := P) (xs := xs) (ys := ys) w (σ := Option Bool × Unit) (s0 := (none, ())) (fin := (some false, ())) (F := λf __s => if f.name ≠ "_" then
  (part f.type xs.toArray f.offset).bind λx=>(part f.type ys.toArray f.offset).bind λy=>(cm 9999 f.type x y).bind λc=>
    if(!c)=ar then cf (ForInStep.done (ap au,()))else cf (ForInStep.yield (aq,()))
  else cf (ForInStep.yield (aq,()))) (by
  intro f c hn hc;have jy : f.name ≠ "_" := by simpa using hn
  obtain⟨x,y,r1,r2,r3⟩:=ySg hc w;simp only[jy,ne_eq,not_false_eq_true,if_true,run_bind,r1,r2,r3];cases c<;>rfl) lr.2
 rw[this];cases b<;>rfl
def V.cl:V->List V
 | .agg l=>l
 |v=>[v]
def Xw (P:ab) (t:ac) (cs:List V) (off:Nat):Option V:=
 match ES P t with
 |some sz=>ap (.agg ((cs.drop off).take sz))
 |none=>bif CA P t then cs[off]? else aq
def iF {α:Type} (x:Option α) (K:α->Prop):Prop:=
 match x with
 |some v=>K v
 |none=>False
def zN {α:Type} {x:Option α} {K:α->Prop} (h:iF x K):∃v,x=ap v/\K v:=by
 cases x with
 |none=>exact h.elim
 |some v=>exact⟨v,rfl,h⟩
def zOp {P:ab} {E:Ev} {t:ac} {cs:List V} {ys:List aa} {off:Nat} {v:V} (hr:ic E cs ys) (h:Xw P t cs off=ap v):∃y,VR E v y/\∀w,(part t ys.toArray off).run P w= .ok y w:=by
 unfold Xw at h;split at h
 ·rename_i sz hs;simp only[az]at h;subst h;refine⟨.agg ((ys.drop off).take sz).toArray,?_,λw=> ?_⟩
  ·simp only[VR];exact⟨_,rfl,(hr.drop off).take sz⟩
  obtain⟨h1,h2⟩:=aC hs w;unfold part;simp only[bind,run_bind,h1,h2,if_true,pure,cd];congr 3;simp[List.extract_eq_take_drop]
 ·rename_i hs;obtain⟨hb,h⟩:=yZ h;obtain⟨y,h1,h2⟩:=hr.get h;refine⟨y,h2,λw=> ?_⟩;unfold part;have:ys.toArray[off]? =ap y:=by simp[h1]
  simp only[bind,run_bind,nJ hb w,oS,if_false,this];rfl
def NH (place:Nat->Option (Nat×Nat)):List (Nat×V)->List V->Option (List V)
 |[],cs=>ap cs
 |(i,v)::rest,cs=>
  match place i with
  |none=>aq
  |some (off,size)=>bif bc v.cl.length size && be (off+size) cs.length then NH place rest (cs.take off++(v.cl++cs.drop (off+size)))else aq
def Ct (E:Ev):List (Nat×V)->List (Nat×aa)->Prop
 |[],l=>l=[]
 |(i,v)::ps,l=>∃y ys,l=(i,y)::ys/\VR E v y/\Ct E ps ys
def JO:V->Bool
 | .top=>au
 |_=>ar
def VR.cells {E:Ev} {v:V} {y:aa} (ht:JO v=ar) (h:VR E v y):∃l,y.cells=l.toArray/\ic E v.cl l:=by
 cases v
 case agg l=>simp only[VR]at h;obtain⟨ys,rfl,h⟩:=h;exact⟨ys,rfl,h⟩
 case top=>cases ht
 case d x=>
  have h0:=h;simp only[VR]at h;refine⟨[y],?_,ic.one h0⟩;cases x with
  |v x=>simp only[DR]at h;obtain⟨rfl,h⟩:=h;cases y<;>first|rfl|cases h
  |ro sz fa=>simp only[DR]at h;obtain⟨a,c,rfl,_⟩:=h;rfl
 case nm n o=>have h0:=h;simp only[VR]at h;obtain⟨b,oo,l,h1,rfl⟩:=h;exact⟨[_],rfl,ic.one h0⟩
 case el n sz i f=>have h0:=h;simp only[VR]at h;obtain⟨b,oo,m,c,l,h1,rfl⟩:=h;exact⟨[_],rfl,ic.one h0⟩
 case re sz fa i f=>have h0:=h;simp only[VR]at h;obtain⟨_,_,b,o,l,T,fr,rfl,_⟩:=h;exact⟨[_],rfl,ic.one h0⟩
 case na n o i=>have h0:=h;simp only[VR]at h;obtain⟨b,oo,l,h1,rfl⟩:=h;exact⟨[_],rfl,ic.one h0⟩
 case own n=>have h0:=h;simp only[VR]at h;obtain⟨l,h1,a,m,c,rfl⟩:=h;exact⟨[_],rfl,ic.one h0⟩
 case mp n=>have h0:=h;simp only[VR]at h;obtain⟨b,l,h1,rfl⟩:=h;exact⟨[_],rfl,ic.one h0⟩
 case sub n i=>have h0:=h;simp only[VR]at h;obtain⟨hd,l,b,oo,h1,h2,rfl⟩:=h;exact⟨[_],rfl,ic.one h0⟩
 case je l=>have h0:=h;simp only[VR]at h;obtain⟨ys,rfl,h⟩:=h;exact⟨[_],rfl,ic.one h0⟩
 case fn f a b=>have h0:=h;simp only[VR]at h;obtain⟨as,bs,rfl,h⟩:=h;exact⟨[_],rfl,ic.one h0⟩
 case Ai t x=>have h0:=h;simp only[VR]at h;obtain⟨z,rfl,h⟩:=h;exact⟨[_],rfl,ic.one h0⟩
def Xv:List (Nat×V)->Bool
 |[]=>ar
 |p::l=>bif JO p.2 then Xv l else au
def zCt {E:Ev} {place:Nat->Option (Nat×Nat)}:∀{ps:List (Nat×V)} {cs r:List V} {qs:List (Nat×aa)} {ys:List aa},Xv ps=ar->NH place ps cs=ap r->Ct E ps qs->ic E cs ys->
 ∃zs,Instr.fill place ys.toArray qs=ap zs.toArray/\ic E r zs
 |[],cs,r,qs,ys,_,h,hp,hc=>by
  simp only[NH,az]at h;simp only[Ct]at hp;subst h hp;exact⟨ys,rfl,hc⟩
 |(i,v)::ps,cs,r,qs,ys,ht,h,hp,hc=>by
  simp only[NH]at h;simp only[Ct]at hp;obtain⟨y,qs,rfl,hv,hp⟩:=hp;simp only[Xv]at ht;cases Yl:JO v<;>rw[Yl]at ht<;>simp only[cond_false,cond_true,oS]at ht
  obtain⟨l,hl,OV⟩:=VR.cells Yl hv;split at h<;>first|(cases h;done)|skip
  rename_i off size zm;obtain⟨hb,h⟩:=yZ h;simp only[lu]at hb;have h1:=ji hb.1;have h2:=Cj hb.2;have e1:=OV.length;have e2:=hc.length;have pn:y.cells.size=size:=by rw[hl,Kb,e1,h1]
  have IZ:(decide (y.cells.size≠size)||decide (off+y.cells.size>ys.toArray.size))=au:=by
   rw[pn,Kb];simp;omega
  have hc':ic E (cs.take off++(v.cl++cs.drop (off+size))) (ys.take off++(l++ys.drop (off+size))):=(hc.take off).append (OV.append (hc.drop _));obtain⟨zs,q1,q2⟩:=zCt ht h hp hc';refine⟨zs,?_,q2⟩;simp only[Instr.fill,zm];have Gq:y.cells.zipIdx.foldl (λ(cs:Array aa) (p:aa×Nat)=>cs.setIfInBounds (off+p.2) p.1) ys.toArray=(ys.take off++(l++ys.drop (off+size))).toArray:=by
   have hz:l.toArray.zipIdx=(l.zipIdx).toArray:=by
    apply cx;simp
   rw[hl,hz,List.foldl_toArray];rw[Zf (off:=off) l 0 ys X_];simp only[lg,FJ,e1,h1,jd]
  rw[eg (by rw[IZ];simp),Gq];exact q1
def rB (P:ab) (t:ac):Option aa:=
 match P.info? t with
 |some i=>i.zero
 |none=>aq
def yDn (P:ab) (t:ac) (ps:List (Nat×V)):Option V:=
 match rB P t with
 |some z=>bif JO (Dw z) && Xv ps then(match yRr P t with
  |some pl=>match RH pl with
   |some _=>match NH (z1z pl) ps (Dw z).cl with
    |some cs=>ap (.agg cs)
    |none=>aq
   |none=>aq
  |none=>match UX P t with
   |some (_,_,sz)=>match NH (λi=>ap (i*sz,sz)) ps (Dw z).cl with
    |some cs=>ap (.agg cs)
    |none=>aq
   |none=>aq)else aq
 |none=>aq
def c8 {P:ab} {t:ac} {z:aa} (h:rB P t=ap z):zero? P t=ap z:=by
 unfold rB at h;unfold zero?;split at h
 ·rename_i i hi;rw[hi];exact h
 ·cases h
def z2c {P:ab} {E:Ev} {t:ac} {ps:List (Nat×V)} {qs:List (Nat×aa)} {v:V} (hp:Ct E ps qs) (h:yDn P t ps=ap v):
 ∃y,VR E v y/\∀w,(Instr.build t qs.toArray).run P w= .ok y w:=by
 unfold yDn at h;split at h<;>first|(cases h;done)|skip
 rename_i z hz;have Fa:=λw=>mg (c8 hz) w
 obtain⟨hb,h⟩:=yZ h;simp only[lu]at hb;obtain⟨zl,DA,X9⟩:=VR.cells (E:=E) hb.1 (PG E z);split at h
 ·rename_i pl zm;split at h<;>first|(cases h;done)|skip
  rename_i L hL;split at h<;>first|(cases h;done)|skip
  rename_i cs Ie;simp only[az]at h;subst h;have aaD:=zWn hL;subst aaD;unfold yRr at zm;split at zm<;>first|(cases zm;done)|skip
  rename_i fs yg;simp only[az]at zm;have Yi:(λi=>L.toArray[i]?)=z1z (L.map ap):=by
   funext i;unfold z1z;simp only[Bj,ra];cases L[i]? <;>rfl
  obtain⟨zs,hf,OU⟩:=zCt hb.2 Ie hp X9;refine⟨.agg zs.toArray,by simp only[VR];exact⟨zs,rfl,OU⟩,λw=> ?_⟩;have hm:=zUw w zm;have hmA:((fs.mapM λf=>(do pure (f.offset,<- Go.sizeOf f.type):Sem (Nat×Nat))):Sem (Array (Nat×Nat))).run P w= .ok L.toArray w:=by
   rw[Array.mapM_eq_mapM_toList,map_eq_pure_bind];simp only[bind,pure,run_bind]at hm ⊢;rw[hm];rfl
  unfold Instr.build;simp only[bind]at hmA;simp only[bind,run_bind,Fa,Cv.run_underlying yg,hmA,DA,Yi,hf];rfl
 ·split at h<;>first|(cases h;done)|skip
  rename_i n e sz Kv;split at h<;>first|(cases h;done)|skip
  rename_i cs Ie;simp only[az]at h;subst h;obtain⟨i,h1,h2,rfl⟩:=zIu Kv;obtain⟨zs,hf,OU⟩:=zCt hb.2 Ie hp X9;refine⟨.agg zs.toArray,by simp only[VR];exact⟨zs,rfl,OU⟩,λw=> ?_⟩;unfold Instr.build;simp only[bind,run_bind,Fa,Cv.run_underlying h1,run_sizeOf h2,DA,hf];rfl
def LD (ρ:xG):List (Nat×ag)->List (Nat×V)
 |[]=>[]
 |(i,x)::l=>(i,lz ρ x)::LD ρ l
def V' {E:Ev} {ρS:xG} {ρ:Env} (h:lp E ρS ρ):∀(l:List (Nat×ag)),Ct E (LD ρS l) (l.map λp=>(p.1,ev ρ p.2))
 |[]=>by simp[LD,Ct]
 |(i,x)::l=>by simp only[LD,jg,Ct];exact⟨_,_,rfl,h.ev x,V' h l⟩
def aW (P:ab) (t:ac):Bool:=
 match P.underlying t with
 |some (.interface _)=>ar
 |none=>ar
 |_=>au
def XP:V->Bool
 | .nm _ _=>ar
 | .el _ _ _ _=>ar
 | .re _ _ _ _=>ar
 | .sub _ _=>ar
 |_=>au
def yIx {E:Ev} {v:V} {y:aa} (hp:XP v=ar) (h:VR E v y):∃a,y= .pointer (ap a):=by
 cases v<;>simp only[XP,oS]at hp<;>simp only[VR]at h
 ·obtain⟨b,oo,l,h1,rfl⟩:=h;exact⟨_,rfl⟩
 ·obtain⟨b,oo,m,c,l,h1,rfl⟩:=h;exact⟨_,rfl⟩
 ·obtain⟨_,_,b,o,l,T,fr,rfl,_⟩:=h;exact⟨_,rfl⟩
 ·obtain⟨hd,l,b,oo,h1,h2,rfl⟩:=h;exact⟨_,rfl⟩
def HA (ρ:xG):Option ag->Option (Option Int)
 |none=>ap aq
 |some x=>match lz ρ x with
  | .d (.v (.int _ n))=>ap (ap n)
  |_=>aq
def Oe (sz:Nat) (fa:Q_ D) (lo hi:Option Int) (K:V->Prop):Prop:=
 match lo,hi with
 |none,aq=>K (.d (.ro sz fa))
 |some l,aq=>(0<=l/\l<=fa.length)/\K (.d (.ro sz (fa.drop l.toNat)))
 |none,ap h=>(0<=h/\h<=fa.length)/\K (.d (.ro sz (fa.take h.toNat)))
 |some l,ap h=>(0<=l/\l<=h/\h<=fa.length)/\K (.d (.ro sz ((fa.take h.toNat).drop l.toNat)))
def WT:ag->Bool
 | .const (.slice aq 0 0)=>ar
 |_=>au
def yDk (op:BinOp) (fa:Q_ D) (K:V->Prop):Prop:=
 ∀b:Bool,(b=ar->fa=[])->match op with
  | .eql=>K (.d (.v (.bool b)))
  | .neq=>K (.d (.v (.bool !b)))
  |_=>False
def z9w:V->V->Bool
 | .nm n o,.nm m p=>bc n m && bc o p
 |_,_=>au
def XO (P:ab) (t:ac):Bool:=
 match P.underlying t with
 |some (.pointer e)=>(rA P e).isSome
 |_=>au
def yBd {P:ab} {t:ac} (h:XO P t=ar):∃e i,P.underlying t=ap (.pointer e)/\P.info? e=ap i:=by
 unfold XO at h;split at h<;>first|(cases h;done)|skip
 rename_i e he;unfold rA at h;split at h<;>first|(cases h;done)|skip
 rename_i i hi;exact⟨e,i,he,hi⟩
def yMr {E:Ev} {u v:V} {x y:aa} (h:z9w u v=ar) (hx:VR E u x) (hy:VR E v y):∃a,x= .pointer (ap a)/\y= .pointer (ap a):=by
 unfold z9w at h;split at h<;>first|(cases h;done)|skip
 simp only[lu]at h;have h1:=ji h.1;have h2:=ji h.2;subst h1 h2;simp only[VR]at hx hy;obtain⟨b,oo,l,e1,rfl⟩:=hx;obtain⟨b',oo',l',e2,rfl⟩:=hy;rw[e1]at e2;cases e2;exact⟨_,rfl,rfl⟩
def zOl {P:ab} {t:ac} (h:XO P t=ar) (a:am) (w:af):(Op.equal t (.pointer (ap a)) (.pointer (ap a))).run P w= .ok ar w:=by
 obtain⟨e,i,h1,h2⟩:=yBd h;rw[nG];generalize 9999=d;unfold cm;simp only[bind,pure,Cv.run_bind,Cv.run_underlying h1,Cv.run_sizeOf h2];split
 ·simp only[sameAddr,bind,pure,beq_self_eq_true,if_true];rfl
 ·simp only[beq_self_eq_true,if_true];rfl
def mpV (P:ab) (t:ac) (v:V) (y:ag):Bool:=
 match v,y with
 | .mp _,.const (.map aq)=>(match P.underlying t with
   |some (.map _ _)=>ar
   |_=>au)
 |_,_=>au
def yPj {P:ab} {t:ac} {v:V} {y:ag} (h:mpV P t v y=ar):(∃n,v= .mp n)/\y= .const (.map aq)/\∃a b,P.underlying t=ap (.map a b):=by
 unfold mpV at h;split at h<;>first|(cases h;done)|skip
 rename_i n;split at h<;>first|(cases h;done)|skip
 rename_i a b hu;exact⟨⟨n,rfl⟩,rfl,a,b,hu⟩
def E7 (P:ab) (o:ak) (ρ:xG) (K:V->Prop):Prop:=
 bif PM o.op then(bif Xm ρ o.op.operands.toList then bX P o (Xe ρ) (λx=>K (Dw x))else False)else False
def sq (P:ab) (o:ak) (ρ:xG) (K:V->Prop):Prop:=
 match o.op with
 | .move x=>K (lz ρ x)
 | .assign x=>K (lz ρ x)
 | .pick c a b=>match lz ρ c with
   | .d (.v (.bool t))=>dp t (K (lz ρ a)) (K (lz ρ b))
   |_=>False
 | .nilCheck x=>bif XP (lz ρ x)then K (lz ρ x)else E7 P o ρ K
 | .fieldAddr s x f=>iF (YX P s f) λoff=>match lz ρ x with
   | .nm n o=>K (.nm n (o+off))
   | .el n sz i g=>K (.el n sz i (g+off))
   | .re sz fa i g=>K (.re sz fa i (g+off))
   |_=>False
 | .indexAddr t x i=>match lz ρ i with
   | .d (.v (.int _ i))=>match lz ρ x with
     | .d (.ro sz fa)=>iF (g8 P t) λoD=>bif bc sz oD then(0<=i/\i<fa.length)/\K (.re sz fa i.toNat 0)else False
     | .nm n o=>iF (mE P t) λns=>bif be 32 ns.1 && bc ns.2 1 then(0<=i/\i<ns.1)/\K (.na n o i.toNat)else iF (Lr i ns.1) λj=>K (.nm n (o+j*ns.2))
     | .el n sz k g=>iF (mE P t) λns=>iF (Lr i ns.1) λj=>K (.el n sz k (g+j*ns.2))
     | .re sz fa k g=>iF (mE P t) λns=>iF (Lr i ns.1) λj=>K (.re sz fa k (g+j*ns.2))
     |_=>False
   |_=>False
 | .index t x i=>match lz ρ x with
   | .agg cs=>match lz ρ i with
     | .d (.v (.int _ i))=>iF (UX P t) λns=>iF (Lr i ns.1) λj=>iF (Xw P ns.2.1 cs (j*ns.2.2)) K
     |_=>False
   |_=>E7 P o ρ K
 | .field t x f=>match lz ρ x with
   | .agg cs=>iF (zLr P t f) λfo=>iF (Xw P fo.1 cs fo.2) K
   |_=>False
 | .extract x i=>match lz ρ x with
   | .je l=>iF l[i]? K
   |_=>False
 | .build t ps=>iF (yDn P t (LD ρ ps.toList)) K
 | .makeFunc (.func f) a b=>K (.fn f (DF ρ a.toList) (DF ρ b.toList))
 | .makeInterface t x=>bif aW P t then False else K (.Ai t (lz ρ x))
 | .typeAssert x _ a au=>bif aW P a then False else(match lz ρ x with
   | .Ai t v=>bif bc t a then K v else False
   |_=>False)
 | .typeAssert x _ a ar=>bif aW P a then False else(match lz ρ x with
   | .Ai t v=>bif bc t a then K (.je [v,.d (.v (.bool ar))])else iF (rB P a) λz=>K (.je [Dw z,.d (.v (.bool au))])
   | .d (.v .nilIface)=>iF (rB P a) λz=>K (.je [Dw z,.d (.v (.bool au))])
   |_=>False)
 | .binOp op t x y _=>bif z9w (lz ρ x) (lz ρ y) && XO P t then(match op with
    | .eql=>K (.d (.v (.bool ar)))
    | .neq=>K (.d (.v (.bool au)))
    |_=>False)else bif mpV P t (lz ρ x) y then(match op with
    | .eql=>K (.d (.v (.bool au)))
    | .neq=>K (.d (.v (.bool ar)))
    |_=>False)else bif XP (lz ρ x) && W7 P t && Px y then(match op with
    | .eql=>K (.d (.v (.bool au)))
    | .neq=>K (.d (.v (.bool ar)))
    |_=>False)else bif WT y && Ir P t then(match lz ρ x with
     | .d (.ro _ fa)=>yDk op fa K
     |_=>E7 P o ρ K)else match Hw (lz ρ x)with
    |some (.agg xs)=>match Hw (lz ρ y)with
     |some (.agg ys)=>bif P.eqGuardType P.depth t then False else iF (ySv P t xs.toList ys.toList) λb=>match op with
      | .eql=>K (.d (.v (.bool b)))
      | .neq=>K (.d (.v (.bool !b)))
      |_=>False
     |_=>False
    |_=>E7 P o ρ K
 | .call c=>match c.callee with
   | .builtin .len=>match DF ρ c.args.toList with
     |[.d (.ro _ fa)]=>iF c.argTypes[0]? λt=>bif Ir P t then K (.d (.v (.int .i64 fa.length)))else False
     |_=>E7 P o ρ K
   | .builtin .min=>match DF ρ c.args.toList with
     |[.d (.v (.int k x)),.d (.v (.int _ y))]=>K (.d (.v (.int k (min x y))))
     |[.d (.v (.int k x)),.d (.v (.int _ y)),.d (.v (.int _ z))]=>K (.d (.v (.int k (min (min x y) z))))
     |_=>E7 P o ρ K
   |_=>E7 P o ρ K
 | .slice t x lo hi aq=>match lz ρ x with
   | .d (.ro sz fa)=>iF (g8 P t) λoD=>bif bc sz oD then EO (HA ρ lo) (HA ρ hi) λl h=>Oe sz fa l h K else False
   |_=>E7 P o ρ K
 | .unOp _ _ _=>E7 P o ρ K
 | .convert _ _ _=>E7 P o ρ K
 |_=>False
def cO {b:Bool} {A B:Prop} (h:bif b then A else B):(b=ar/\A)\/(b=au/\B):=by
 cases b
 ·exact .inr ⟨rfl,h⟩
 ·exact .inl ⟨rfl,h⟩
def yJe {b:Bool} {A B:Prop} (h:dp b A B):(b=ar/\A)\/(b=au/\B):=by
 cases b
 ·exact .inr ⟨rfl,h⟩
 ·exact .inl ⟨rfl,h⟩
def xAx (P:ab) (E:Ev) (o:ak) (ρ:Env) (K:V->Prop):Prop:=∃v y,K v/\VR E v y/\FB P (ae (ev ρ) o) y
def uM {P:ab} {E:Ev} {ρS:xG} {ρ:Env} (he:lp E ρS ρ) {o:ak} {K:V->Prop} (h:E7 P o ρS K):xAx P E o ρ K:=by
 unfold E7 at h;obtain⟨hp,h⟩:=zM h;obtain⟨hl,h⟩:=zM h;obtain⟨y,hk,hf⟩:=fS h;exact⟨_,y,hk,PG E y,by rw[<- yMy hp (yGz he hl)];exact hf⟩
def VR.EB {E:Ev} {k:ao} {i:Int} {y:aa} (h:VR E (.d (.v (.int k i))) y):y= .int k i:=by
 simp only[VR,DR]at h;exact h.1
def wI {E:Ev} {x:aa} (h:x.ou=ar):VR E (.d (.v x)) x:=by
 simp only[VR,DR];exact⟨Y_,h⟩
def dA {E:Ev} {ρS:xG} {ρ:Env} (he:lp E ρS ρ) {x:Option ag} {r:Option Int} (h:HA ρS x=ap r):DJ ρ x=ap r:=by
 cases x with
 |none=>exact h
 |some x=>
  simp only[HA]at h;split at h<;>first|(cases h;done)|skip
  rename_i k n hx;have:=he.ev x;rw[hx]at this;simp only[DJ,this.EB];exact h
def DR.Gh {F:PH} {sz lo hi:Nat} {fa:Q_ D} {a:Option am} {c:Nat} (h:DR F (.ro sz fa) (.slice a fa.length c)) (h1:lo<=hi) (h2:hi<=fa.length):
 DR F (.ro sz ((fa.take hi).drop lo)) (.slice (if c=lo then a else a.map (·.add (lo*sz))) (hi-lo) (c-lo)):=by
 simp only[DR]at h ⊢;obtain⟨a',c',e,hc,hs,hm⟩:=h;cases e;have hlen:((fa.take hi).drop lo).length=hi-lo:=by rw[pj,nr];omega
 refine⟨_,c-lo,by rw[hlen],by rw[hlen];omega,λel oT=>hs el (OG (Kg oT)),?_⟩;by_cases h0:lo=hi
 ·left;exact ye X_
 ·right;rcases hm with hm|⟨b,o,l,T,fr,rfl,h4,h5⟩
  ·subst hm;simp at h2;omega
  ·refine⟨b,o+lo*sz,l,T,fr,?_,h4,?_⟩
   ·rw[eg X_];simp[uV]
   ·obtain⟨xs,r,e,hx⟩:=oX.1 h5;refine oX.2 ⟨(xs.drop (lo*sz)).take ((hi-lo)*sz),(xs.drop (lo*sz)).drop ((hi-lo)*sz)++r,?_,?_⟩
    ·rw[<- jd,Bi,<- Ds,e,HN];rw[hx.length,wJ hs];exact xv _ X_
    ·have:=(hx.drop (lo*sz)).take ((hi-lo)*sz);rw[rZ lo hs,tG (hi-lo) (λel oT=>hs el (Kg oT)),List.take_drop]at this;rw[show lo+(hi-lo)=hi by omega]at this;exact this
def DR.GF {F:PH} {sz:Nat} {fa:Q_ D} {y:aa} (h:DR F (.ro sz fa) y) {lo hi:Option Int} {K:V->Prop} (hk:Oe sz fa lo hi K):
 ∃a c v,y= .slice a fa.length c/\K v/\uc a fa.length c lo hi sz λp n c=>∀E:Ev,E.F=F->VR E v (.slice p n c):=by
 have h0:=h;simp only[DR]at h0;obtain⟨a,c,rfl,hc,_⟩:=h0;unfold Oe at hk;split at hk
 ·exact⟨a,c,_,rfl,hk,by simp only[uc];exact⟨hc,λE hE=>by subst hE;simpa only[VR]using h⟩⟩
 ·rename_i l;obtain⟨⟨h1,h2⟩,hk⟩:=hk;refine⟨a,c,_,rfl,hk,?_⟩;simp only[uc];refine⟨⟨h1,h2,hc⟩,λE hE=> ?_⟩;subst hE;have:=h.Gh (lo:=l.toNat) (hi:=fa.length) X_ (jx _);rw[ng (jx _)]at this;simpa only[VR]using this
 ·rename_i u;obtain⟨⟨h1,h2⟩,hk⟩:=hk;refine⟨a,c,_,rfl,hk,?_⟩;simp only[uc];refine⟨⟨h1,X_⟩,λE hE=> ?_⟩;subst hE;have:=h.Gh (lo:=0) (hi:=u.toNat) X_ X_;simp only[bg,eK,ite_self,Nat.sub_zero,Ei]at this;simpa only[VR]using this
 ·rename_i l u;obtain⟨⟨h1,h2,h3⟩,hk⟩:=hk;refine⟨a,c,_,rfl,hk,?_⟩;simp only[uc];refine⟨⟨h1,h2,X_⟩,λE hE=> ?_⟩;subst hE;have:=h.Gh (lo:=l.toNat) (hi:=u.toNat) X_ X_;simpa only[VR]using this
def z5j {p:Option am} {n c:Nat} {lo hi:Option Int} {sz:Nat} {K K':Option am->Nat->Nat->Prop} (h:∀p n c,K p n c->K' p n c) (hk:uc p n c lo hi sz K):uc p n c lo hi sz K':=by
 unfold uc at*;cases lo<;>cases hi<;>exact⟨hk.1,h _ _ _ hk.2⟩
def zVh {P:ab} {t:ac} (h:W7 P t=ar) (a:am):cZ P t (.pointer (ap a))=ap au:=by
 obtain⟨e,he⟩:=z6l h;unfold cZ;rw[he];rfl
def yLt {y:ag} (h:Px y=ar):y= .const (.pointer aq):=by
 unfold Px at h;split at h
 ·rfl
 ·cases h
def zRn {P:ab} {E:Ev} {ρ:Env} {o:ak} {op:BinOp} {t u:ac} {x y:ag} {fa:Q_ D} {K:V->Prop} {a:Option am} {n c:Nat} (ho:o.op= .binOp op t x y u) (hy:WT y=ar) (ht:Ir P t=ar)
 (hx:ev ρ x= .slice a n c) (ha:a=aq->fa=[]) (h:yDk op fa K):xAx P E o ρ K:=by
 have pz:y= .const (.slice aq 0 0):=by
  unfold WT at hy;split at hy
  ·rfl
  ·cases hy
 subst pz;obtain⟨e,he⟩:=eF ht;have hn:cZ P t (.slice a n c)=ap a.isNone:=by unfold cZ;rw[he]
 have hk:=h a.isNone (λhb=>ha (i9 hb));split at hk<;>first|exact hk.elim|skip
 ·refine⟨_,.bool a.isNone,hk,wI rfl,?_⟩;have:=x6 (P:=P) (neg:=au) (r:=a.isNone) (ρ:=ρ) ho (by rw[hx];trivial) trivial (λw=>by rw[hx];exact xF trivial w) (λw=>by rw[hx];exact fM hn w);simpa using this
 ·refine⟨_,.bool (!a.isNone),hk,wI rfl,?_⟩;have:=x6 (P:=P) (neg:=ar) (r:=a.isNone) (ρ:=ρ) ho (by rw[hx];trivial) trivial (λw=>by rw[hx];exact xF trivial w) (λw=>by rw[hx];exact fM hn w);simpa using this
def z4l {P:ab} {E:Ev} {ρS:xG} {ρ:Env} (he:lp E ρS ρ) {o:ak} {K:V->Prop} (h:sq P o ρS K):xAx P E o ρ K:=by
 cases ho:o.op
 case move x=>simp only[sq,ho]at h;exact⟨_,_,h,he.ev x,λw=>by simp only[ae,ho];rfl⟩
 case assign x=>simp only[sq,ho]at h;exact⟨_,_,h,he.ev x,λw=>by simp only[ae,ho];rfl⟩
 case pick c a b=>
  simp only[sq,ho]at h;split at h<;>first|exact h.elim|skip
  rename_i t hc;have hv:=he.ev c;rw[hc]at hv;simp only[VR,DR]at hv;rcases yJe h with⟨rfl,h⟩|⟨rfl,h⟩
  ·exact⟨_,_,h,he.ev a,λw=>by simp only[ae,ho,hv.1,asBool,bind,pure,ce,cd];rfl⟩
  ·exact⟨_,_,h,he.ev b,λw=>by simp only[ae,ho,hv.1,asBool,bind,pure,ce,cd];rfl⟩
 case nilCheck x=>
  simp only[sq,ho]at h;rcases cO h with⟨hp,h⟩|⟨_,h⟩
  ·obtain⟨a,ha⟩:=yIx hp (he.ev x);exact⟨_,_,h,he.ev x,λw=>by simp only[ae,ho,ha];rfl⟩
  ·exact uM he h
 case fieldAddr s x f=>
  simp only[sq,ho]at h;obtain⟨off,hf,h⟩:=zN h;obtain⟨fs,fd,i,h1,h2,h3,h4,rfl⟩:=zWj hf;have hv:=he.ev x;have run:∀b oo,ev ρ x= .pointer (ap ⟨b,oo,aq⟩)->FB P (ae (ev ρ) o) (.pointer (ap ⟨b,oo+fd.offset,aq⟩)):=by
   intro b oo hx;simp only[ae,ho,hx];refine yF λw=> ?_
   simp only[Instr.fieldAt,Instr.sureAddr,fieldPlace,bind,pure,run_bind,ce,cd,Cv.run_underlying h1,h2,run_sizeOf h3,eg h4,uV]
  split at h<;>first|exact h.elim|skip
  ·rename_i n o' hx;rw[hx]at hv;simp only[VR]at hv;obtain⟨b,oo,l,e1,e2⟩:=hv;exact⟨_,_,h,by simp only[VR];exact⟨b,oo,l,e1,rfl⟩,by have:=run _ _ e2;rw[Dq]at this;exact this⟩
  ·rename_i n sz i g hx;rw[hx]at hv;simp only[VR]at hv;obtain⟨b,oo,m,c,l,e1,e2⟩:=hv;exact⟨_,_,h,by simp only[VR];exact⟨b,oo,m,c,l,e1,rfl⟩,by have:=run _ _ e2;rw[Dq _ g]at this;exact this⟩
  ·rename_i sz fa i g hx;rw[hx]at hv;simp only[VR]at hv;obtain⟨e0,e1,b,oo,l,T,fr,e2,e3,e4⟩:=hv;exact⟨_,_,h,by simp only[VR];exact⟨e0,e1,b,oo,l,T,fr,rfl,e3,e4⟩,by have:=run _ _ e2;rw[Dq _ g]at this;exact this⟩
 case indexAddr t x i=>
  simp only[sq,ho]at h;split at h<;>first|exact h.elim|skip
  rename_i k i' hi;have Bm:=he.ev i;rw[hi]at Bm;have Bm:=Bm.EB;have hv:=he.ev x;have arr:∀{b oo:Nat} {ns:Nat×Nat} {j:Nat},mE P t=ap ns->Lr i' ns.1=ap j->ev ρ x= .pointer (ap ⟨b,oo,aq⟩)->FB P (ae (ev ρ) o) (.pointer (ap ⟨b,oo+j*ns.2,aq⟩)):=by
   intro b oo ns j pn hj hx;obtain⟨rfl,gr⟩:=zUy hj;simp only[ae,ho,hx,Bm];refine yF λw=> ?_
   rw[dY pn ⟨X_,X_⟩,uV];simp
  split at h<;>first|exact h.elim|skip
  ·rename_i sz fa hx;obtain⟨oD,hs,h⟩:=zN h;obtain⟨hb,⟨h0,h1⟩,hk⟩:=zM h;have:=ji hb;subst this;rw[hx]at hv;simp only[VR,DR]at hv;obtain⟨a,c,e1,e2,e3,e4⟩:=hv;rcases e4 with e4|⟨b,oo,l,T,fr,rfl,e5,e6⟩
   ·subst e4;simp at h1;omega
   refine⟨_,.pointer (ap ⟨b,oo+i'.toNat*sz,aq⟩),hk,?_,?_⟩
   ·simp only[VR];exact⟨X_,e3,b,oo,l,T,fr,rfl,e5,e6⟩
   ·simp only[ae,ho,e1,Bm];refine yF λw=> ?_
    rw[wP hs ⟨h0,X_⟩,uV]
  ·rename_i n o' hx;obtain⟨ns,hs,h⟩:=zN h;rcases cO h with⟨hb,⟨h0,h1⟩,h⟩|⟨_,h⟩
   ·simp only[lu]at hb;have np:=ji hb.2;rw[hx]at hv;simp only[VR]at hv;obtain⟨b,oo,l,e1,e2⟩:=hv;refine⟨_,.pointer (ap ⟨b,oo+(o'+i'.toNat),aq⟩),h,by simp only[VR];exact⟨b,oo,l,e1,rfl⟩,?_⟩;simp only[ae,ho,e2,Bm];refine yF λw=> ?_
    rw[dY hs ⟨h0,h1⟩,uV,np,Nat.mul_one,Dq]
   obtain⟨j,hj,h⟩:=zN h;rw[hx]at hv;simp only[VR]at hv;obtain⟨b,oo,l,e1,e2⟩:=hv;exact⟨_,_,h,by simp only[VR];exact⟨b,oo,l,e1,rfl⟩,by have:=arr hs hj e2;rw[Dq]at this;exact this⟩
  ·rename_i n sz i g hx;obtain⟨ns,hs,h⟩:=zN h;obtain⟨j,hj,h⟩:=zN h;rw[hx]at hv;simp only[VR]at hv;obtain⟨b,oo,m,c,l,e1,e2⟩:=hv;exact⟨_,_,h,by simp only[VR];exact⟨b,oo,m,c,l,e1,rfl⟩,by have:=arr hs hj e2;rw[Dq _ g]at this;exact this⟩
  ·rename_i sz fa i g hx;obtain⟨ns,hs,h⟩:=zN h;obtain⟨j,hj,h⟩:=zN h;rw[hx]at hv;simp only[VR]at hv;obtain⟨e0,e1,b,oo,l,T,fr,e2,e3,e4⟩:=hv;exact⟨_,_,h,by simp only[VR];exact⟨e0,e1,b,oo,l,T,fr,rfl,e3,e4⟩,by have:=arr hs hj e2;rw[Dq _ g]at this;exact this⟩
 case index t x i=>
  simp only[sq,ho]at h;split at h
  ·rename_i cs hx;split at h<;>first|exact h.elim|skip
   rename_i k i' hi;obtain⟨⟨n,e,sz⟩,hs,h⟩:=zN h;obtain⟨j,hj,h⟩:=zN h;obtain⟨v,hp,hk⟩:=zN h;have Bm:=he.ev i;rw[hi]at Bm;have Bm:=Bm.EB;have hv:=he.ev x;rw[hx]at hv;simp only[VR]at hv;obtain⟨ys,e1,e2⟩:=hv;obtain⟨y,hy,hr⟩:=zOp e2 hp;obtain⟨rfl,gr⟩:=zUy hj;obtain⟨inf,q1,q2,q3⟩:=zIu hs;refine⟨v,y,hk,hy,?_⟩;simp only[ae,ho,e1,Bm];refine yF λw=> ?_
   have hb:(0:Int)<=(j:Int)/\(j:Int)<n:=⟨X_,X_⟩
   simp only[Instr.index,asIntOf,bind,pure,run_bind,ce,cd,Cv.run_underlying q1,fh hb,run_sizeOf q2,q3];exact hr w
  ·exact uM he h
 case field t x f=>
  simp only[sq,ho]at h;split at h<;>first|exact h.elim|skip
  rename_i cs hx;obtain⟨⟨ft,off⟩,hf,h⟩:=zN h;obtain⟨v,hp,hk⟩:=zN h;have hv:=he.ev x;rw[hx]at hv;simp only[VR]at hv;obtain⟨ys,e1,e2⟩:=hv;obtain⟨y,hy,hr⟩:=zOp e2 hp;obtain⟨fs,fd,h1,h2,rfl,rfl⟩:=zSc hf;refine⟨v,y,hk,hy,?_⟩;simp only[ae,ho,e1];refine yF λw=> ?_
  simp only[Instr.field,asAgg,bind,pure,run_bind,ce,cd,Cv.run_underlying h1,h2];exact hr w
 case extract x i=>
  simp only[sq,ho]at h;split at h<;>first|exact h.elim|skip
  rename_i l hx;obtain⟨v,hl,h⟩:=zN h;have hv:=he.ev x;rw[hx]at hv;simp only[VR]at hv;obtain⟨ys,e1,e2⟩:=hv;obtain⟨y,hy,hr⟩:=e2.get hl;refine⟨v,y,h,hr,?_⟩;simp only[ae,ho,e1];refine yF λw=> ?_
  have:ys.toArray[i]? =ap y:=by simp[hy]
  simp only[Instr.extract,this];rfl
 case build t ps=>
  simp only[sq,ho]at h;obtain⟨v,hb,h⟩:=zN h;obtain⟨y,hy,hr⟩:=z2c (V' he ps.toList) hb;refine⟨v,y,h,hy,?_⟩;simp only[ae,ho];refine yF λw=> ?_
  have:(ps.map λ(i,x)=>(i,ev ρ x))=(ps.toList.map λp=>(p.1,ev ρ p.2)).toArray:=by
   apply cx;simp
  rw[this];exact hr w
 case makeFunc fn a b=>
  cases fn<;>simp only[sq,ho]at h
  rename_i f;obtain⟨as,e1,e2⟩:=mD he a;obtain⟨bs,e3,e4⟩:=mD he b;refine⟨_,.func (.func f) as.toArray bs.toArray,h,by simp only[VR];exact⟨as,bs,rfl,e2,e4⟩,?_⟩;simp only[ae,ho,e1,e3];exact yF λw=>rfl
 case makeInterface t x=>
  simp only[sq,ho]at h;obtain⟨hb,h⟩:aW P t=au/\K (.Ai t (lz ρS x)):=by
   revert h;cases aW P t<;>intro h
   ·exact⟨rfl,h⟩
   ·exact h.elim
  refine⟨_,.iface t (ev ρ x),h,by simp only[VR];exact⟨_,rfl,he.ev x⟩,?_⟩;simp only[ae,ho];refine yF λw=> ?_
  unfold aW at hb;cases hd:P.underlying t with
  |none=>rw[hd]at hb;cases hb
  |some d=>
   rw[hd]at hb;unfold Instr.makeInterface;simp only[bind,run_bind,Cv.run_underlying hd];cases d<;>first|rfl|cases hb
 case typeAssert x xt a ok=>
  cases ok with
  |true=>
   simp only[sq,ho]at h;obtain⟨hb,h⟩:aW P a=au/\(match lz ρS x with
    | .Ai t v=>bif bc t a then K (.je [v,.d (.v (.bool ar))])else iF (rB P a) λz=>K (.je [Dw z,.d (.v (.bool au))])
    | .d (.v .nilIface)=>iF (rB P a) λz=>K (.je [Dw z,.d (.v (.bool au))])
    |_=>False):=by
    revert h;cases aW P a<;>intro h
    ·exact⟨rfl,h⟩
    ·exact h.elim
   have jy:∃d,P.underlying a=ap d/\∀ms,d≠.interface ms:=by
    unfold aW at hb;split at hb<;>first|(cases hb;done)|skip
    rename_i MU EE;cases hu:P.underlying a with
    |none=>exact absurd hu EE
    |some d=>exact⟨d,rfl,λms e=>MU ms (by rw[hu,e])⟩
   obtain⟨d,hu,hd⟩:=jy;have Lc:∀z,rB P a=ap z->VR E (.je [Dw z,.d (.v (.bool au))]) (.tuple #[z,.bool au]):=λz hz=>by
    simp only[VR,ic,DR];exact⟨[z,.bool au],rfl,_,_,rfl,PG E z,_,_,rfl,⟨rfl,rfl⟩,rfl⟩
   split at h<;>first|exact h.elim|skip
   ·rename_i t v hx;have hv:=he.ev x;rw[hx]at hv;simp only[VR]at hv;obtain⟨z,e1,e2⟩:=hv;rcases cO h with⟨ht,hk⟩|⟨ht,hk⟩
    ·have:=ji ht;subst this;refine⟨_,.tuple #[z,.bool ar],hk,?_,?_⟩
     ·simp only[VR,ic,DR];exact⟨[z,.bool ar],rfl,_,_,rfl,e2,_,_,rfl,⟨rfl,rfl⟩,rfl⟩
     ·simp only[ae,ho,e1];refine yF λw=> ?_
      simp only[bv,bind,run_bind,Cv.run_underlying hu];cases d<;>first|rfl|exact absurd rfl (hd _)|(simp only[if_true];rfl)
    ·obtain⟨z0,hz,hk⟩:=zN hk;have hta:¬t=a:=λe=>by subst e;rw[Nat.beq_refl]at ht;cases ht
     refine⟨_,.tuple #[z0,.bool au],hk,Lc z0 hz,?_⟩;simp only[ae,ho,e1];refine yF λw=> ?_
     simp only[bv,bind,run_bind,Cv.run_underlying hu];cases d<;>first|exact absurd rfl (hd _)|(simp only[eg hta,if_true,bind,run_bind,Cv.mg (c8 hz) w];rfl)
   ·rename_i hx;have hv:=he.ev x;rw[hx]at hv;simp only[VR,DR]at hv;obtain⟨z0,hz,hk⟩:=zN h;refine⟨_,.tuple #[z0,.bool au],hk,Lc z0 hz,?_⟩;simp only[ae,ho,hv.1];refine yF λw=> ?_
    simp only[bv,bind,run_bind,Cv.run_underlying hu];cases d<;>first|exact absurd rfl (hd _)|(simp only[if_true,bind,run_bind,Cv.mg (c8 hz) w];rfl)
  |false=>
   simp only[sq,ho]at h;obtain⟨hb,h⟩:aW P a=au/\(match lz ρS x with
    | .Ai t v=>bif bc t a then K v else False
    |_=>False):=by
    revert h;cases aW P a<;>intro h
    ·exact⟨rfl,h⟩
    ·exact h.elim
   split at h<;>first|exact h.elim|skip
   rename_i t v hx;obtain⟨ht,hk⟩:=zM h;have:=ji ht;subst this;have hv:=he.ev x;rw[hx]at hv;simp only[VR]at hv;obtain⟨z,e1,e2⟩:=hv;refine⟨v,z,hk,e2,?_⟩;simp only[ae,ho,e1];refine yF λw=> ?_
   unfold aW at hb;split at hb<;>first|(cases hb;done)|skip
   rename_i MU EE;cases hu:P.underlying t with
   |none=>exact absurd hu EE
   |some d=>
    simp only[bv,bind,run_bind,Cv.run_underlying hu];cases d<;>first|rfl|exact absurd hu (MU _)|(simp only[if_true];rfl)
 case binOp op t x y u=>
  simp only[sq,ho]at h;rcases cO h with⟨hp,hk⟩|⟨_,h⟩
  ·simp only[lu]at hp;obtain⟨a,hx,hy⟩:=yMr hp.1 (he.ev x) (he.ev y);clear h;split at hk<;>first|exact hk.elim|skip
   ·refine⟨_,.bool ar,hk,wI rfl,?_⟩;have:=x6 (P:=P) (neg:=au) (r:=ar) (ρ:=ρ) ho (by rw[hx];trivial) (by rw[hy];trivial) (λw=>by rw[hx,hy];exact xF trivial w) (λw=>by rw[hx,hy];exact zOl hp.2 a w);simpa using this
   ·refine⟨_,.bool au,hk,wI rfl,?_⟩;have:=x6 (P:=P) (neg:=ar) (r:=ar) (ρ:=ρ) ho (by rw[hx];trivial) (by rw[hy];trivial) (λw=>by rw[hx,hy];exact xF trivial w) (λw=>by rw[hx,hy];exact zOl hp.2 a w);simpa using this
  rcases cO h with⟨hp,hk⟩|⟨_,h⟩
  ·obtain⟨⟨n,hx⟩,rfl,ka,kb,hu⟩:=yPj hp;have hv:=he.ev x;rw[hx]at hv;simp only[VR]at hv;obtain⟨b,l,_,ha⟩:=hv;have hr:cZ P t (.map (ap b))=ap au:=by simp[cZ,hu]
   clear h;split at hk<;>first|exact hk.elim|skip
   ·refine⟨_,.bool au,hk,wI rfl,?_⟩;have:=x6 (P:=P) (neg:=au) (r:=au) (ρ:=ρ) ho (by rw[ha];trivial) trivial (λw=>by rw[ha];exact xF trivial w) (λw=>by rw[ha];exact aH hr w);simpa using this
   ·refine⟨_,.bool ar,hk,wI rfl,?_⟩;have:=x6 (P:=P) (neg:=ar) (r:=au) (ρ:=ρ) ho (by rw[ha];trivial) trivial (λw=>by rw[ha];exact xF trivial w) (λw=>by rw[ha];exact aH hr w);simpa using this
  rcases cO h with⟨hp,hk⟩|⟨_,h⟩
  ·simp only[lu]at hp;obtain⟨⟨Yj,Kn⟩,hp3⟩:=hp;obtain⟨a,ha⟩:=yIx Yj (he.ev x);have hy:=yLt hp3;subst hy;clear h;split at hk<;>first|exact hk.elim|skip
   ·refine⟨_,.bool au,hk,wI rfl,?_⟩;have:=x6 (P:=P) (neg:=au) (r:=au) (ρ:=ρ) ho (by rw[ha];trivial) trivial (λw=>by rw[ha];exact xF trivial w) (λw=>by rw[ha];exact aA (zVh Kn a) w);simpa using this
   ·refine⟨_,.bool ar,hk,wI rfl,?_⟩;have:=x6 (P:=P) (neg:=ar) (r:=au) (ρ:=ρ) ho (by rw[ha];trivial) trivial (λw=>by rw[ha];exact xF trivial w) (λw=>by rw[ha];exact aA (zVh Kn a) w);simpa using this
  ·rcases cO h with⟨hp,hk⟩|⟨_,h⟩
   ·simp only[lu]at hp;clear h;split at hk
    ·rename_i sz fa hx;have hv:=he.ev x;rw[hx]at hv;simp only[VR,DR]at hv;obtain⟨a,c,e1,_,_,e4⟩:=hv;exact zRn ho hp.1 hp.2 e1 (λha=>by
      rcases e4 with e4|⟨_,_,_,_,_,e5,_⟩
      ·exact e4
      ·rw[ha]at e5;cases e5) hk
    ·exact uM he hk
   ·split at h
    ·rename_i xs xa;split at h<;>first|exact h.elim|skip
     rename_i ys HV;rcases cO h with⟨_,hk⟩|⟨hgt,hk⟩
     ·exact hk.elim
     clear h;obtain⟨b,hb,hk⟩:=zN hk;have ex:=LH xa (he.ev x);have ey:=LH HV (he.ev y);have jq:=λw=>yKb (P:=P) hb w
     simp only[RM]at jq;have hg:∀(op:BinOp) w,(eqGuard op t x y (.agg xs) (.agg ys)).run P w= .ok () w:=by
      intro op w;unfold eqGuard;cases op<;>first|rfl|(simp[bind,pure,run_bind,program,cd,ce,hgt])
     split at hk<;>first|exact hk.elim|skip
     ·refine⟨_,.bool b,hk,wI rfl,?_⟩;have:=x6 (P:=P) (neg:=au) (r:=b) (ρ:=ρ) ho (by rw[ex];trivial) (by rw[ey];trivial) (λw=>by rw[ex,ey];exact hg _ w) (λw=>by rw[ex,ey];exact jq w);simpa using this
     ·refine⟨_,.bool (!b),hk,wI rfl,?_⟩;have:=x6 (P:=P) (neg:=ar) (r:=b) (ρ:=ρ) ho (by rw[ex];trivial) (by rw[ey];trivial) (λw=>by rw[ex,ey];exact hg _ w) (λw=>by rw[ex,ey];exact jq w);simpa using this
    ·exact uM he h
 case call c=>
  simp only[sq,ho]at h;split at h
  ·rename_i hc;split at h
   ·rename_i sz fa oc;obtain⟨t,ht,h⟩:=zN h;obtain⟨hs,h⟩:=zM h;obtain⟨ys,e1,e2⟩:=mD he c.args;rw[oc]at e2;simp only[ic,VR,DR]at e2;obtain⟨y,_,rfl,⟨a,k,rfl,_⟩,rfl⟩:=e2;refine⟨_,.int .i64 fa.length,h,wI rfl,?_⟩;rw[wF ho hc,e1];obtain⟨e,Mo⟩:=eF hs;refine yF λw=> ?_
    simp only[cu,ht,Bj,CM,bind,run_bind,Cv.run_underlying Mo];rfl
   ·exact uM he h
  ·rename_i hc;split at h
   ·rename_i kk x k2 y oc;obtain⟨ys,e1,e2⟩:=mD he c.args;rw[oc]at e2;simp only[ic,VR,DR]at e2;obtain⟨_,_,rfl,⟨rfl,_⟩,_,_,rfl,⟨rfl,_⟩,rfl⟩:=e2;refine⟨_,.int kk (min x y),h,wI rfl,?_⟩;rw[wF ho hc,e1];refine yF λw=> ?_
    rw[show min x y=if y<x then y else x by rw[Int.min_def];split<;>split<;>omega];apply run_min_int2
   ·rename_i kk x k2 y k3 z oc;obtain⟨ys,e1,e2⟩:=mD he c.args;rw[oc]at e2;simp only[ic,VR,DR]at e2;obtain⟨_,_,rfl,⟨rfl,_⟩,_,_,rfl,⟨rfl,_⟩,_,_,rfl,⟨rfl,_⟩,rfl⟩:=e2;refine⟨_,.int kk (min (min x y) z),h,wI rfl,?_⟩;rw[wF ho hc,e1];refine yF λw=> ?_
    rw[show min (min x y) z=if z<(if y<x then y else x)then z else(if y<x then y else x)by rw[Int.min_def,Int.min_def];repeat' split<;>omega];apply run_min_int3
   ·exact uM he h
  ·exact uM he h
 case slice t x lo hi mx=>
  cases mx with
  |some m=>simp only[sq,ho]at h
  |none=>
   simp only[sq,ho]at h;split at h
   ·rename_i sz fa hx;obtain⟨oD,hs,h⟩:=zN h;obtain⟨hb,hh⟩:=zM h;have:=ji hb;subst this;obtain⟨l,u,h1,h2,hh⟩:=sP hh;have hv:=he.ev x;rw[hx]at hv;simp only[VR]at hv;obtain⟨a,c,v,e1,hk,zc⟩:=hv.GF hh;have hp:bX P o ρ (λy=>VR E v y):=by
     simp only[bX,ho,e1,hs,dA he h1,dA he h2,EO];exact z5j (λp n c hh=>hh E rfl) zc
    obtain⟨y,hy,hf⟩:=fS hp;exact⟨v,y,hk,hy,hf⟩
   ·exact uM he h
 case unOp op t x=>simp only[sq,ho]at h;exact uM he h
 case convert s d x=>simp only[sq,ho]at h;exact uM he h
 all_goals(simp only[sq,ho]at h)
end Sx
namespace Cv
open Go Go.RowKit
def yMq {φ:I5} {b:Nat} {xs:List V} {t:ac} {Dy:Option Nat} {O:Obj} (h:coT φ b (.cells xs t Dy) O):∃r,O= .cells (Ih φ xs++r).toArray t/\(∀sz,Dy=ap sz->xs.length+r.length=(φ b).2*sz)/\(Dy=aq->r=[]):=by
 cases Dy with
 |none=>
  have h':O= .cells (Ih φ xs).toArray t:=h;exact⟨[],by rw[h',oQ],by simp,λ_=>rfl⟩
 |some sz=>
  obtain⟨r,h1,h2⟩:=h;exact⟨r,h1,λs hs=>(by cases hs;exact h2),by simp⟩
def Rel.cells {φ:I5} {s:St} {w:af} (R:Rel φ s w) {b:Nat} {xs:List V} {t:ac} {Dy:Option Nat} (h:s.get b=ap (.cells xs t Dy)):
 ∃r,w.heap[(φ b).1]? =ap (.cells (Ih φ xs++r).toArray t)/\(∀sz,Dy=ap sz->xs.length+r.length=(φ b).2*sz)/\(Dy=aq->r=[]):=by
 obtain⟨O,h1,h2⟩:=R.obj b _ h;obtain⟨r,rfl,h3,h4⟩:=yMq h2;exact⟨r,h1,h3,h4⟩
def gE {P:ab} {t k e:ac} (h:Hx P t=ap (k,e)):P.underlying t=ap (.map k e):=by
 unfold Hx at h;split at h
 ·simp only[az,ct]at h;obtain⟨rfl,rfl⟩:=h;assumption
 ·cases h
def kA {P:ab} {w:af} {r:Nat} {O:Obj} (h:w.heap[r]? =ap O) (hO:match O with| .cells _ _ _=>False|_=>True):(getObj r).run P w= .ok O w:=by
 simp only[getObj,cd,h];cases O<;>first|exact hO.elim|rfl
def yKi {P:ab} {t:ac} (h:J4 P t=ar):∃e,P.underlying t=ap (.slice e)/\P.underlying e=ap (.int .u8):=by
 unfold J4 at h;split at h<;>first|(cases h;done)|skip
 rename_i e he;split at h<;>first|(cases h;done)|skip
 exact⟨e,he,by assumption⟩
def zJv {P:ab} (w:af) {F:aa->ByteArray->Sem (ForInStep ByteArray)} (hF:∀(n:Nat) (s:ByteArray),F (.int .u8 (n:Int)) s= .pure (.yield (s.push (UInt8.ofNat n)))):∀(l:List Nat) (acc:ByteArray),
 ((forIn (l.map λ(n:Nat)=>Value.int .u8 (n:Int)) acc F):Sem ByteArray).run P w= .ok (acc++bs l) w
 |[],acc=>by
  have:acc++bs []=acc:=by apply ByteArray.ext;simp[bs]
  rw[this];rfl
 |n::l,acc=>by
  have ih:=zJv (P:=P) w hF l (acc.push (UInt8.ofNat n));simp only[jg,List.forIn_cons,bind,hF,ce];rw[ih];congr 1;apply ByteArray.ext;simp[bs,Nat.toUInt8]
end Cv
namespace Sx
open Go Go.RowKit Cv
def Rel.focus {k:Ko} {L:List HP} {E:Ev} {s:St} {w:af} (R:Rel k L E s w) {n:Nat} {o:fq} (h:s.get n=ap o):
 Hp k w (ie E (n,o)::((uG n s.rows).map (ie E)++fz E.F::L)):=by
 refine R.hp.perm ?_;have:=((uH h).1.map (ie E)).append_right (fz E.F::L);simpa using this
def Rel.oh {k:Ko} {L:List HP} {E:Ev} {s:St} {w w':af} (R:Rel k L E s w) {n:Nat} {o:fq} (h:s.get n=ap o) {o':fq}
 (H:Hp k w' (ie E (n,o')::((uG n s.rows).map (ie E)++fz E.F::L))):Rel k L E (s.set n o') w':=by
 refine⟨R.nx,H.perm ?_⟩;have:=(((uH h).2 o').map (ie E)).append_right (fz E.F::L);simpa[St.set]using this.symm
def Rel.frozen {k:Ko} {L:List HP} {E:Ev} {s:St} {w:af} (R:Rel k L E s w):∀b o,E.F b=ap o->w.heap[b]? =ap o:=by
 have H:Hp k w (fz E.F::(s.rows.map (ie E)++L)):=R.hp.perm mu;obtain⟨h,⟨rfl,_⟩,hs⟩:=H.sat;exact hs
def Rel.row {k:Ko} {L:List HP} {E:Ev} {s:St} {w:af} (R:Rel k L E s w) {n:Nat} {o:fq} (h:s.get n=ap o) (hg:o≠.gone):
 ∃hd x,E.gl[n]? =ap hd/\fw E.F o E.gl hd x/\Sub x w:=by
 obtain⟨x,hx,hs⟩:=(R.focus h).sat;rcases hx with⟨e,_⟩|⟨hd,h1,h2⟩
 ·exact absurd e hg
 ·exact⟨hd,x,h1,h2,hs⟩
def Rel.cells {k:Ko} {L:List HP} {E:Ev} {s:St} {w:af} (R:Rel k L E s w) {n:Nat} {vs:List V} {t:ac} (h:s.get n=ap (.cells vs t)):
 ∃b l sub,E.gl[n]? =ap (.pointer (ap ⟨b,0,aq⟩),sub)/\ic E vs l/\w.heap[b]? =ap (.cells l.toArray t):=by
 obtain⟨⟨hv,sub⟩,x,h1,h2,h3⟩:=R.row h (by simp);simp only[fw]at h2;obtain⟨b,l,rfl,h4,rfl⟩:=h2;exact⟨b,l,sub,h1,h4,h3 b _ (by simp[one])⟩
def Rel.vec {k:Ko} {L:List HP} {E:Ev} {s:St} {w:af} (R:Rel k L E s w) {n:Nat} {ds:List D} {t:ac} (h:s.get n=ap (.vec ds t)):
 ∃b l sub,E.gl[n]? =ap (.pointer (ap ⟨b,0,aq⟩),sub)/\iC E.F ds l/\w.heap[b]? =ap (.cells l.toArray t):=by
 obtain⟨⟨hv,sub⟩,x,h1,h2,h3⟩:=R.row h (by simp);simp only[fw]at h2;obtain⟨b,l,rfl,h4,rfl⟩:=h2;exact⟨b,l,sub,h1,h4,h3 b _ (by simp[one])⟩
def eU (s:St):V->Option (Nat×Q_ D)
 | .d (.ro sz fa)=>ap (sz,fa)
 | .own n=>match s.get n with
   |some (.own _ sz fa)=>ap (sz,fa)
   |some (.kr sz fa)=>ap (sz,fa)
   |some (.HS _ fa)=>ap (1,fa)
   |_=>aq
 |_=>aq
def zMf {k:Ko} {L:List HP} {E:Ev} {s:St} {w:af} (R:Rel k L E s w) {sz:Nat} {fa:Q_ D} {y:aa} (h:DR E.F (.ro sz fa) y):
 ∃a c xs,y= .slice a fa.length c/\fa.length<=c/\iC E.F fa.flatten xs/\(∀el∈fa,el.length=sz)/\Sat w (FQ sz a fa.length c xs):=by
 simp only[DR]at h;obtain⟨a,c,rfl,h1,h2,h3⟩:=h;rcases h3 with rfl|⟨b,o,l,T,fr,rfl,h4,h5⟩
 ·exact⟨a,c,[],rfl,h1,by simp[iC],h2,pe,.inl ⟨rfl,rfl,rfl⟩,Sub.pe w⟩
 ·obtain⟨xs,r,e,hx⟩:=oX.1 h5;have hl:xs.length=fa.length*sz:=by rw[hx.length,wJ h2]
  refine⟨_,c,xs,rfl,h1,hx,h2,one b (.cells l.toArray T fr),.inr ⟨b,o,l,T,fr,rfl,rfl,?_,hl,h1⟩,?_⟩
  ·rw[e,zi X_,ng X_]
  ·intro b' o' e';simp only[one]at e';split at e'
   ·rename_i hb;subst hb;cases e';exact R.frozen _ _ h4
   ·cases e'
def mP {k:Ko} {L:List HP} {E:Ev} {s:St} {w:af} (R:Rel k L E s w) {v:V} {y:aa} (hv:VR E v y) {sz:Nat} {fa:Q_ D} (h:eU s v=ap (sz,fa)):
 ∃a c xs,y= .slice a fa.length c/\fa.length<=c/\iC E.F fa.flatten xs/\(∀el∈fa,el.length=sz)/\Sat w (FQ sz a fa.length c xs):=by
 unfold eU at h;split at h
 ·simp only[az,ct]at h;obtain⟨rfl,rfl⟩:=h;simp only[VR]at hv;exact zMf R hv
 ·rename_i n;simp only[VR]at hv;obtain⟨sub,h1,h2⟩:=hv;split at h<;>first|(cases h;done)|skip
  ·rename_i t oD lq hg;simp only[az,ct]at h;obtain⟨rfl,rfl⟩:=h;obtain⟨hd,x,q1,q2,q3⟩:=R.row hg (by simp);rw[h1]at q1;cases q1;simp only[fw]at q2;obtain⟨a,c,xs,rfl,q4,q5,q6⟩:=q2;exact⟨a,c,xs,rfl,(Vk q6).2,q4,q5,x,nK q6,q3⟩
  ·rename_i oD lq hg;simp only[az,ct]at h;obtain⟨rfl,rfl⟩:=h;obtain⟨hd,x,q1,q2,q3⟩:=R.row hg (by simp);rw[h1]at q1;cases q1;simp only[fw]at q2;exact zMf R q2.2
  ·rename_i t lq hg;simp only[az,ct]at h;obtain⟨rfl,rfl⟩:=h;obtain⟨hd,x,q1,q2,q3⟩:=R.row hg (by simp);rw[h1]at q1;cases q1;simp only[fw]at q2;obtain⟨b,c,xs,r,rfl,q4,q5,q6,q7⟩:=q2;have hl:xs.length=lq.length*1:=by rw[q4.length,wJ q5]
   exact⟨_,c,xs,rfl,q6,q4,q5,x,.inr ⟨b,0,xs++r,t,_,rfl,q7,by rw[Ei,zi X_,ng X_],hl,q6⟩,q3⟩
 ·cases h
def zC (fa:Q_ D) (i f n:Nat):Option (List D):=
 match fa[i]? with
 |some el=>bif be (f+n) el.length then ap ((el.drop f).take n)else aq
 |none=>aq
def X1:aa->(D->Prop)->Prop
 | .int k _,K=>∃n:Int,K (.v (.int k n))
 | .bool _,K=>∃b:Bool,K (.v (.bool b))
 | .string _,K=>∃s:ByteArray,K (.v (.string s))
 | .slice _ _ _,K=>∃(sz:Nat) (fa:List (List D)),K (.ro sz fa)
 |_,K=>∃d:D,K d
def shL:List aa->(List D->Prop)->Prop
 |[],K=>K []
 |z::zs,K=>X1 z λd=>shL zs λds=>K (d::ds)
def P3 (P:ab):Nat->ac->List ac
 |0,t=>[t]
 |f+1,t=>match P.underlying t with
  |some (.struct fs)=>(fs.toList.map λfd=>P3 P f fd.type).flatten
  |some (.array n e)=>(aw n (P3 P f e)).flatten
  |_=>[t]
def LW (P:ab):List ac->List aa->(List D->Prop)->Prop
 |t::ts,z::zs,K=>match g8 P t with
  |some sz=>∃fa:Q_ D,LW P ts zs λds=>K (.ro sz fa::ds)
  |none=>X1 z λd=>LW P ts zs λds=>K (d::ds)
 |_,zs,K=>shL zs K
def FR (P:ab) (t:ac) (K:List D->Prop):Prop:=
 match rB P t with
 |some z=>LW P (P3 P 6 t) z.cells.toList K
 |none=>False
def yHf {z:aa} {K:D->Prop} (h:X1 z K):∃d,K d:=by
 cases z<;>simp only[X1]at h<;>first|(obtain⟨n,h⟩:=h;exact⟨_,h⟩)|(obtain⟨a,n,h⟩:=h;exact⟨_,h⟩)
def z0o:∀{zs:List aa} {K:List D->Prop},shL zs K->∃ds,K ds
 |[],_,h=>⟨_,h⟩
 |_::_,_,h=>let⟨_,h1⟩:=yHf h;let⟨_,h2⟩:=z0o h1;⟨_,h2⟩
def Y3 {P:ab}:∀{ts:List ac} {zs:List aa} {K:List D->Prop},LW P ts zs K->∃ds,K ds
 |t::ts,z::zs,K,h=>by
  unfold LW at h;split at h
  ·obtain⟨fa,h⟩:=h;obtain⟨ds,h⟩:=Y3 h;exact⟨_,h⟩
  ·obtain⟨d,h⟩:=yHf h;obtain⟨ds,h⟩:=Y3 h;exact⟨_,h⟩
 |[],zs,K,h=>by unfold LW at h;exact z0o h
 |t::ts,[],K,h=>by unfold LW at h;exact z0o h
def pT {P:ab} {t:ac} {K:List D->Prop} (h:FR P t K):∃ds,K ds:=by
 unfold FR at h;split at h
 ·exact Y3 h
 ·exact h.elim
def Dz (P:ab) (t:ac) (ds:List D):Option V:=
 match ES P t with
 |some n=>bif bc ds.length n then ap (.agg (ds.map .d))else aq
 |none=>bif CA P t then(match ds with
  |[d]=>ap (.d d)
  |_=>aq)else aq
def zPe {P:ab} {E:Ev} {w:af} {t sz i f:Nat} {fa:Q_ D} {b oo:Nat} {c:Nat} {xs:List aa} {ds:List D} {v:V} (hx:iC E.F fa.flatten xs) (hu:∀el∈fa,el.length=sz)
 (hs:Sat w (FQ sz (ap ⟨b,oo,aq⟩) fa.length c xs)) (hp:zC fa i f ds.length=ap ds) (hm:Dz P t ds=ap v):∃y,VR E v y/\pX P t ⟨b,oo+i*sz+f,aq⟩ w y:=by
 unfold zC at hp;split at hp<;>first|(cases hp;done)|skip
 rename_i el oT;obtain⟨hb,hp⟩:=yZ hp;have hb:=Cj hb;have ug:=kx oT;have hi:i<fa.length:=(jk.1 oT).1;rw[hu el ug]at hb;obtain⟨b',o',l,T,fr,e1,e2,e3⟩:=LC hs X_;cases e1;have nk:=(hx.drop (i*sz+f)).take ds.length;have hfp:=zNa hu oT hb;rw[hfp,ba hp]at nk;have hlen:xs.length=fa.length*sz:=by rw[hx.length,wJ hu]
 have xd:i*sz+sz<=fa.length*sz:=by
  have:=xv sz (show i+1<=fa.length by omega);rwa [Ad]at this
 have om:(l.drop (oo+i*sz+f)).take ds.length=(xs.drop (i*sz+f)).take ds.length:=by
  rw[<- e3,ay,ax,Ds,Dq oo];congr 1;rw[FL];omega
 unfold Dz at hm;split at hm
 ·rename_i n hn;obtain⟨hq,hm⟩:=yZ hm;have:=ji hq;cases hm;refine⟨.agg ((xs.drop (i*sz+f)).take ds.length).toArray,by simp only[VR];exact⟨_,rfl,nk.OJ⟩,?_⟩;refine Wq hn e2 (by rw[<- this];exact om) ?_;rw[nk.length,this]
 ·obtain⟨hq,hm⟩:=yZ hm;split at hm<;>first|(cases hm;done)|skip
  rename_i d;cases hm;simp only[iG,uj,iC]at nk om;obtain⟨y,ys,e4,h4,h5⟩:=nk;subst h5;refine⟨y,by simpa only[VR]using h4,uA hq e2 ?_⟩;have:((l.drop (oo+i*sz+f)).take 1)[0]? =ap y:=by rw[om,e4];rfl
  rw[IH,fh X_,BA]at this;simpa using this
def XE (P:ab) (t:ac) (vs:List V) (off:Nat):Option V:=
 match ES P t with
 |some sz=>bif be (off+sz) vs.length then ap (.agg ((vs.drop off).take sz))else aq
 |none=>bif CA P t then vs[off]? else aq
def zOm {P:ab} {E:Ev} {w:af} {t b off:Nat} {vs:List V} {l:List aa} {T:ac} {fr:Nat×Nat} {v:V} (hv:ic E vs l) (hb:w.heap[b]? =ap (.cells l.toArray T fr)) (h:XE P t vs off=ap v):
 ∃y,VR E v y/\pX P t ⟨b,off,aq⟩ w y:=by
 unfold XE at h;split at h
 ·rename_i n hn;obtain⟨hq,h⟩:=yZ h;have hq:=Cj hq;cases h;have hp:=(hv.drop off).take n;refine⟨.agg ((l.drop off).take n).toArray,by simp only[VR];exact⟨_,rfl,hp⟩,Wq hn hb rfl ?_⟩;rw[hp.length,nr,pj];omega
 ·obtain⟨hq,h⟩:=yZ h;obtain⟨y,h1,h2⟩:=hv.get h;exact⟨y,h2,uA hq hb h1⟩
def j6 (s:ByteArray):Q_ D:=s.data.toList.map λb=>[.v (.int .u8 b.toNat)]
def mF:aa->aa->Bool
 | .int k a,.int k' b=>xm k k' && decide (a=b)
 | .string a,.string b=>decide (a=b)
 |_,_=>au
def jL (x:aa):List (aa×List D)->Option (List D)
 |[]=>aq
 |(y,ds)::l=>bif mF x y then ap ds else jL x l
def LK (es:List (aa×List D)) (x:aa) (z ds:List D) (b:Bool):Prop:=(jL x es=ap ds/\b=ar)\/(jL x es=aq/\ds=z/\b=au)
def y5n:aa->Bool
 | .int _ _=>ar
 |_=>au
def y6b:aa->Bool
 | .string _=>ar
 |_=>au
def Oh (P:ab) (t:ac) (x:aa):Bool:=
 match P.underlying t with
 |some (.int _)=>y5n x
 |some .string=>y6b x
 |_=>au
def me:aa->aa->Bool
 | .int k _,.int k' _=>xm k k'
 | .string _,.string _=>ar
 |_,_=>au
def lF (x:aa) (es:List (aa×List D)):Prop:=∀p∈es,me x p.1=ar
def gU (x:aa) (ds:List D):List (aa×List D)->List (aa×List D)
 |[]=>[(x,ds)]
 |(y,e)::l=>bif mF x y then(y,ds)::l else(y,e)::gU x ds l
def CI (x:aa):List (aa×List D)->List (aa×List D)
 |[]=>[]
 |(y,e)::l=>bif mF x y then l else(y,e)::CI x l
def HT (P:ab) (t:ac) (ds:List D):Option V:=
 match ES P t with
 |some n=>bif bc ds.length n && !(bc n 1)then ap (.agg (ds.map .d))else aq
 |none=>bif CA P t then(match ds with
  |[d]=>ap (.d d)
  |_=>aq)else aq
def Hx (P:ab) (t:ac):Option (ac×ac):=
 match P.underlying t with
 |some (.map k e)=>ap (k,e)
 |_=>aq
def yOr {a b:ao} (h:xm a b=ar):a=b:=by
 cases a<;>cases b<;>first|rfl|cases h
def yZs {x y:aa} (h:mF x y=ar):x=y:=by
 unfold mF at h;split at h
 ·simp only[lu,ua]at h;rw[yOr h.1,h.2]
 ·rw[su h]
 ·cases h
def V7 {P:ab} {t:ac} {x:aa} (h:Oh P t x=ar):∃kd,P.underlying t=ap kd/\J0 kd x:=by
 unfold Oh at h;split at h
 ·rename_i ik hu;refine⟨_,hu,.inl ?_⟩;cases x<;>first|(cases h;done)|exact⟨_,_,_,rfl,rfl⟩
 ·rename_i hu;refine⟨_,hu,.inr ?_⟩;cases x<;>first|(cases h;done)|exact⟨_,rfl,rfl⟩
 ·cases h
def yFp (s s':ByteArray):(s==s')=decide (s=s'):=by
 by_cases h:s=s'
 ·subst h;rw[jt rfl];show(s.data==s.data)=ar;simp
 ·rw[ju h];cases hb:s==s'
  ·rfl
  ·have:(s.data==s'.data)=ar:=hb;exact absurd (ByteArray.ext (eq_of_beq this)) h
def zAo {kd:TypeDesc} {x y:aa} (hk:J0 kd x) (hl:me x y=ar):Instr.sameNow kd x y=ap (mF x y):=by
 rcases hk with⟨ik,k,n,rfl,rfl⟩|⟨s,rfl,rfl⟩
 ·cases y<;>simp only[me,oS]at hl
  rename_i k' m;have:=yOr hl;subst this;simp only[Instr.sameNow,if_true,mF,hl,AA];rfl
 ·cases y<;>simp only[me,oS]at hl
  rename_i s';simp only[Instr.sameNow,mF];congr 1;exact yFp s s'
def z8b (k:ao):xm k k=ar:=by cases k<;>rfl
def zYp {kd:TypeDesc} {x:aa} (hk:J0 kd x):me x x=ar:=by
 rcases hk with⟨ik,k,n,rfl,rfl⟩|⟨s,rfl,rfl⟩
 ·exact z8b k
 ·rfl
def zXl {kd:TypeDesc} {x:aa} (hk:J0 kd x):mF x x=ar:=by
 rcases hk with⟨ik,k,n,rfl,rfl⟩|⟨s,rfl,rfl⟩
 ·simp only[mF,z8b,AA,decide_true]
 ·simp only[mF,decide_true]
def zZp {l:List aj} {ck:Nat} (h:uO l ck) {e:aj} (he:e.born=ck):uO (l++[e]) (ck+1):=by
 refine⟨?_,λx hx=> ?_⟩
 ·rw[jh,AB];refine⟨h.1,by simp,λa ha b hb=> ?_⟩;obtain⟨x,hx,rfl⟩:=nn.1 ha;have:=h.2 x hx;simp only[jg,Bz,tq]at hb;omega
 ·rcases oH.1 hx with hx|hx
  ·have:=h.2 x hx;omega
  ·rw[tq.1 hx,he];omega
def ZT {l:List aj} {ck q:Nat} (h:uO l ck) {m e:aj} (hm:l[q]? =ap m) (he:e.born=m.born):uO (l.set q e) ck:=by
 have hq:(l.set q e).map (·.born)=l.map (·.born):=by
  apply Du;intro i;rw[ra,ra,Ci];split
  ·rename_i hi;subst hi;split
   ·rw[hm];simp[he]
   ·rename_i gr;rw[uv X_];first|rfl|done
  ·rfl
 refine⟨by rw[hq];exact h.1,λx hx=> ?_⟩;rcases List.mem_or_eq_of_mem_set hx with hx|rfl
 ·exact h.2 x hx
 ·rw[he];exact h.2 m (kx hm)
def yDh {l:List aj} {ck q:Nat} (h:uO l ck):uO (l.eraseIdx q) ck:=
 ⟨((List.eraseIdx_sublist l q).map _).nodup h.1,λx hx=>h.2 x ((List.eraseIdx_sublist l q).mem hx)⟩
def ySz:uO [] 0:=⟨by simp,by simp⟩
def Oc {F:PH} {kd:TypeDesc} {x:aa} (hk:J0 kd x):∀{es:List (aa×List D)} {fy:List aj} (i:Nat),MR F es fy->lF x es->
 (bu kd x fy i=ap aq/\jL x es=aq/\(∀ds,gU x ds es=es++[(x,ds)])/\CI x es=es/\∀e:aj,e.key=x->bu kd x (fy++[e]) i=ap (ap (i+fy.length,e.val)))\/
 (∃q m ds ys,bu kd x fy i=ap (ap (i+q,m.val))/\fy[q]? =ap m/\m.key=x/\jL x es=ap ds/\iC F ds ys/\m.val=tT ys/\
   (∀DH Ee (e:aj),iC F DH Ee->e.key=x->e.val=tT Ee->MR F (gU x DH es) (fy.set q e))/\MR F (CI x es) (fy.eraseIdx q)/\∀e:aj,e.key=x->bu kd x (fy.set q e) i=ap (ap (i+q,e.val)))
 |[],fy,i,h,_=>by
  simp only[MR]at h;subst h;exact .inl ⟨rfl,rfl,λds=>rfl,rfl,λe he=>by
   have hx:me x x=ar:=zYp hk;simp only[wy,bu,he,zAo hk hx,zXl hk];rfl⟩
 |(y,e)::es,fy,i,h,hl=>by
  simp only[MR]at h;obtain⟨m,ms,rfl,h1,⟨ys,h2,h3⟩,h4⟩:=h;have hy:me x y=ar:=hl (y,e) iY;have hs:=zAo hk hy;cases hb:mF x y with
  |true=>
   have X':=yZs hb;refine .inr ⟨0,m,e,ys,?_,rfl,by rw[h1,X'],?_,h2,h3,?_,?_,?_⟩
   ·simp only[bu,h1,hs,hb];rfl
   ·simp only[jL,hb,cond_true]
   ·intro DH Ee e' q1 q2 q3;simp only[gU,hb,cond_true,OC,MR];exact⟨e',ms,rfl,by rw[q2,X'],⟨Ee,q1,q3⟩,h4⟩
   ·simp only[CI,hb,cond_true,List.eraseIdx_cons_zero];exact h4
   ·intro e' rp;simp only[OC,bu,rp,zAo hk (zYp hk),zXl hk];rfl
  |false=>
   have hl':lF x es:=λp hp=>hl p (jj _ hp)
   rcases Oc hk (i+1) h4 hl' with⟨q1,q2,q3,q4,q5⟩|⟨q,m',ds,Ee,q1,q2,q3,q4,q5,q6,q7,q8,q9⟩
   ·refine .inl ⟨?_,?_,λds=> ?_,?_,λe' rp=> ?_⟩
    ·simp only[bu,h1,hs,hb];exact q1
    ·simp only[jL,hb,cond_false];exact q2
    ·simp only[gU,hb,cond_false,q3 ds,uu]
    ·simp only[CI,hb,cond_false,q4]
    ·simp only[uu,bu,h1,hs,hb];rw[q5 e' rp,iG,show i+1+ms.length=i+(ms.length+1)by omega]
   ·refine .inr ⟨q+1,m',ds,Ee,?_,i9 q2,q3,?_,q5,q6,?_,?_,λe' rp=> ?_⟩
    ·simp only[bu,h1,hs,hb];rw[q1,show i+1+q=i+(q+1)by omega]
    ·simp only[jL,hb,cond_false];exact q4
    ·intro DH ys2 e' r1 r2 r3;simp only[gU,hb,cond_false,OB,MR];exact⟨m,_,rfl,h1,⟨ys,h2,h3⟩,q7 DH ys2 e' r1 r2 r3⟩
    ·simp only[CI,hb,cond_false,List.eraseIdx_cons_succ,MR];exact⟨m,_,rfl,h1,⟨ys,h2,h3⟩,q8⟩
    ·simp only[OB,bu,h1,hs,hb];rw[q9 e' rp,show i+1+q=i+(q+1)by omega]
def wR {P:ab} {kt:ac} {kd:TypeDesc} (hu:P.underlying kt=ap kd) {x:aa} (hk:J0 kd x) (b:Bool) (w:af):(Instr.checkKey b 10000 kt x).run P w= .ok () w:=by
 rcases hk with⟨ik,k,n,rfl,rfl⟩|⟨s,rfl,rfl⟩<;>
  (unfold Instr.checkKey;simp only[bind,run_bind,Cv.run_underlying hu];rfl)
def vV {P:ab} {kt:ac} {kd:TypeDesc} (hu:P.underlying kt=ap kd) {x:aa} {fy:List aj} {r:Option (Nat×aa)} (h:bu kd x fy 0=ap r) (w:af):(Instr.findKey kt x fy).run P w= .ok r w:=by
 simp only[Instr.findKey,bind,run_bind,Cv.run_underlying hu,h];rfl
def gE {P:ab} {t:ac} {ke:ac×ac} (h:Hx P t=ap ke):P.underlying t=ap (.map ke.1 ke.2):=by
 unfold Hx at h;split at h
 ·rename_i k e hu;cases h;exact hu
 ·cases h
def z0p {P:ab} {E:Ev} {t:ac} {ds:List D} {v:V} (h:HT P t ds=ap v) {ys:List aa} (hd:iC E.F ds ys):VR E v (tT ys):=by
 unfold HT at h;split at h
 ·obtain⟨hb,h⟩:=yZ h;cases h;simp only[lu,Dv]at hb;have h1:=ji hb.1;have hl:ys.length=ds.length:=hd.length;have:tT ys= .agg ys.toArray:=by
   unfold tT;split
   ·rename_i y;rw[h1]at hl;simp only[iG,uj]at hl;rw[<- hl]at hb;exact absurd hb.2 (by decide)
   ·rfl
  rw[this];simp only[VR];exact⟨ys,rfl,hd.OJ⟩
 ·obtain⟨hb,h⟩:=yZ h;split at h<;>first|(cases h;done)|skip
  cases h;simp only[iC]at hd;obtain⟨x,xs,rfl,h1,rfl⟩:=hd;simpa only[VR,tT]using h1
def NO (P:ab) (t:ac):Option (List D):=
 match rB P t with
 |some (.agg cs)=>(match ES P t with
  |some _=>bif okc (.agg cs)then ap (cs.toList.map .v)else aq
  |none=>aq)
 |some z=>(match ES P t with
  |some _=>aq
  |none=>bif z.ou then ap [.v z]else aq)
 |none=>aq
def yUi {P:ab} {E:Ev} {t:ac} {ds:List D} {v:V} (h:NO P t=ap ds) (hm:HT P t ds=ap v):∃z,rB P t=ap z/\VR E v z:=by
 unfold NO at h;split at h
 ·rename_i cs hz;split at h<;>first|(cases h;done)|skip
  rename_i n hn;obtain⟨hb,h⟩:=yZ h;cases h;refine⟨_,hz,?_⟩;simp only[HT,hn]at hm;obtain⟨_,hm⟩:=yZ hm;cases hm;simp only[VR];refine⟨cs.toList,by simp,?_⟩;rw[wx];exact yTh hb
 ·rename_i z jy hz;split at h<;>first|(cases h;done)|skip
  rename_i hn;obtain⟨hb,h⟩:=yZ h;cases h;refine⟨_,hz,?_⟩;simp only[HT,hn]at hm;obtain⟨_,hm⟩:=yZ hm;cases hm;simp only[VR,DR];exact⟨Y_,hb⟩
 ·cases h
def LA (s:St) (n:Nat):Option Nat:=
 match s.get n with
 |some (.km _ _ _ _ l _)=>ap l.length
 |_=>aq
def ZW {k:Ko} {L:List HP} {E:Ev} {s:St} {w:af} (R:Rel k L E s w) {n len:Nat} (h:LA s n=ap len):
 ∃a c sub,E.gl[n]? =ap (.slice a len c,sub)/\sub.length=len/\(∀p∈sub,∃b oo,p= .pointer (ap ⟨b,oo,aq⟩))/\Sat w (FQ 1 a len c sub):=by
 unfold LA at h;split at h<;>first|(cases h;done)|skip
 rename_i t T m iA l hole hg;cases h;obtain⟨⟨v,sub⟩,x,h1,h2,h3⟩:=R.row hg (by simp);simp only[fw]at h2;obtain⟨a,c,e1,e2,e3,e4⟩:=h2;obtain⟨g,g',q1,q2,q3,rfl⟩:=e4;subst e1;exact⟨a,c,sub,h1,e2,e3,g,nK q1,λb o e=>h3 b o (by simp[un,e])⟩
structure qg where
 q:Bool
 T:Nat
 sz:Nat
 fa:Q_ D
 i:Nat
 f:Nat
 b:Bool
 m:Option Nat
def nZ (s:St) (n:Nat):Option qg:=
 match s.get n with
 |some (.uq q t sz fa i f b m)=>ap ⟨q,t,sz,fa,i,f,b,m⟩
 |_=>aq
def WK {s:St} {n:Nat} {x:qg} (h:nZ s n=ap x):s.get n=ap (.uq x.q x.T x.sz x.fa x.i x.f x.b x.m):=by
 unfold nZ at h;split at h<;>first|(cases h;done)|skip
 rename_i hg;cases h;exact hg
def qg.clear (x:qg) (i f k:Nat):Prop:=x.f<x.sz/\(x.b=ar->i=x.i->f+k<=x.f\/x.f<f)
def Rel.uq {k:Ko} {L:List HP} {E:Ev} {s:St} {w:af} (R:Rel k L E s w) {n:Nat} {x:qg} (h:nZ s n=ap x):
 ∃a c sub ys xs,E.gl[n]? =ap (.slice a x.fa.length c,sub)/\iC E.F x.fa.flatten ys/\(∀el∈x.fa,el.length=x.sz)/\zz E.gl (x.i*x.sz+x.f) x.b ys xs x.m/\Sat w (FQ x.sz a x.fa.length c xs):=by
 obtain⟨⟨hv,sub⟩,z,h1,h2,h3⟩:=R.row (WK h) (by simp);simp only[fw]at h2;obtain⟨a,c,ys,xs,rfl,q2,q3,q4,q5⟩:=h2;exact⟨a,c,sub,ys,xs,h1,q2,q3,q4,z,nK q5,h3⟩
def Zs {gl:List Hd} {p:Nat} {b:Bool} {ys xs:List aa}:∀{m:Option Nat},zz gl p b ys xs m->xs.length=ys.length
 |some m,⟨y,l,h1,h2,h3⟩=>by cases b<;>simp[h3]
 |none,⟨y,h1,h3⟩=>by cases b<;>simp[h3]
def yRi {gl:List Hd} {p:Nat} {b:Bool} {ys xs:List aa}:∀{m:Option Nat},zz gl p b ys xs m->∀o n,(b=ar->o+n<=p\/p<o)->(xs.drop o).take n=(ys.drop o).take n:=by
 have key:∀{y:aa},xs=(bif b then ys.set p y else ys)->∀o n,(b=ar->o+n<=p\/p<o)->(xs.drop o).take n=(ys.drop o).take n:=by
  intro y h o n hc;cases b with
  |false=>rw[h];rfl
  |true=>
   rw[h,cond_true];apply Du;intro j;rw[IH,IH];split
   ·rw[BA,BA,Ci,eg (by have:=hc rfl;omega)]
   ·rfl
 intro m;cases m with
 |none=>rintro⟨y,_,h⟩;exact key h
 |some m=>rintro⟨y,l,_,_,h⟩;exact key h
def yHz {sz i f i0 f0 k:Nat} (h1:f+k<=sz) (h2:f0<sz) (jy:i=i0->f+k<=f0\/f0<f):i*sz+f+k<=i0*sz+f0\/i0*sz+f0<i*sz+f:=by
 rcases Nat.lt_trichotomy i i0 with h|h|h
 ·have:=xv sz (show i+1<=i0 by omega);rw[Ad]at this;left;omega
 ·subst h;rcases jy rfl with h|h
  ·left;omega
  ·right;omega
 ·have:=xv sz (show i0+1<=i by omega);rw[Ad]at this;right;omega
def zWd {P:ab} {E:Ev} {w:af} {t sz i f:Nat} {fa:Q_ D} {b oo:Nat} {c:Nat} {xs:List aa} {ds:List D} {v:V} (hlen:xs.length=fa.length*sz) (hu:∀el∈fa,el.length=sz)
 (hs:Sat w (FQ sz (ap ⟨b,oo,aq⟩) fa.length c xs)) (hp:zC fa i f ds.length=ap ds) (nk:iC E.F ds ((xs.drop (i*sz+f)).take ds.length)) (hm:Dz P t ds=ap v):∃y,VR E v y/\pX P t ⟨b,oo+i*sz+f,aq⟩ w y:=by
 unfold zC at hp;split at hp<;>first|(cases hp;done)|skip
 rename_i el oT;obtain⟨hb,hp⟩:=yZ hp;have hb:=Cj hb;have ug:=kx oT;have hi:i<fa.length:=(jk.1 oT).1;rw[hu el ug]at hb;obtain⟨b',o',l,T,fr,e1,e2,e3⟩:=LC hs X_;cases e1;have xd:i*sz+sz<=fa.length*sz:=by
  have:=xv sz (show i+1<=fa.length by omega);rwa [Ad]at this
 have om:(l.drop (oo+i*sz+f)).take ds.length=(xs.drop (i*sz+f)).take ds.length:=by
  rw[<- e3,ay,ax,Ds,Dq oo];congr 1;rw[FL];omega
 unfold Dz at hm;split at hm
 ·rename_i n hn;obtain⟨hq,hm⟩:=yZ hm;have:=ji hq;cases hm;refine⟨.agg ((xs.drop (i*sz+f)).take ds.length).toArray,by simp only[VR];exact⟨_,rfl,nk.OJ⟩,?_⟩;refine Wq hn e2 (by rw[<- this];exact om) ?_;rw[nk.length,this]
 ·obtain⟨hq,hm⟩:=yZ hm;split at hm<;>first|(cases hm;done)|skip
  rename_i d;cases hm;simp only[iG,uj,iC]at nk om;obtain⟨y,ys,e4,h4,h5⟩:=nk;subst h5;refine⟨y,by simpa only[VR]using h4,uA hq e2 ?_⟩;have:((l.drop (oo+i*sz+f)).take 1)[0]? =ap y:=by rw[om,e4];rfl
  rw[IH,fh X_,BA]at this;simpa using this
def z1b (P:ab) (t:ac) (x:qg) (sz i f:Nat) (K:V->Prop):Prop:=
 bif bc sz x.sz then(match x.q,x.m,g8 P t with
  |true,ap c,ap _=>bif CA P t then(i=x.i/\f=x.f/\x.b=ar/\i<x.fa.length/\f<sz)/\K (.own c)else False
  |_,_,_=>FR P t λds=>zC x.fa i f ds.length=ap ds/\x.clear i f ds.length/\iF (Dz P t ds) K)else False
def z9e {P:ab} {k:Ko} {L:List HP} {E:Ev} {s:St} {w:af} (R:Rel k L E s w) {t n sz i f:Nat} {x:qg} {K:V->Prop} (hx:nZ s n=ap x) (h:z1b P t x sz i f K)
 {b oo m c:Nat} {l:List aa} (e1:E.gl[n]? =ap (.slice (ap ⟨b,oo,aq⟩) m c,l)):∃v y,K v/\VR E v y/\pX P t ⟨b,oo+i*sz+f,aq⟩ w y:=by
 unfold z1b at h;obtain⟨hb,h⟩:=zM h;have e:=ji hb;subst e;obtain⟨a,c',sub,ys,xs,q1,q2,q3,q4,q5⟩:=R.uq hx;rw[e1]at q1;cases q1;have DB:ys.length=x.fa.length*x.sz:=by rw[q2.length,wJ q3]
 have CQ:xs.length=x.fa.length*x.sz:=by rw[Zs q4,DB]
 split at h
 ·rename_i cc tt hq hm hs;obtain⟨Sl,⟨rfl,rfl,hbt,hi,hf⟩,hk⟩:=zM h;rw[hm]at q4;obtain⟨y,ly,r1,⟨ya,yn,yc,r2⟩,r3⟩:=q4;rw[hbt,cond_true]at r3;have xd:x.i*x.sz+x.sz<=x.fa.length*x.sz:=by
   have:=xv x.sz (show x.i+1<=x.fa.length by omega);rwa [Ad]at this
  obtain⟨b',o',l',T,fr,e2,e3,e4⟩:=LC q5 X_;cases e2;refine⟨_,y,hk,by simp only[VR];exact⟨ly,r1,ya,yn,yc,r2⟩,uA Sl e3 ?_⟩;have:xs[x.i*x.sz+x.f]? =ap y:=by rw[r3,Ci,fh rfl,fh X_]
  rw[<- e4,IH,fh X_,BA]at this;rw[show oo+x.i*x.sz+x.f=oo+(x.i*x.sz+x.f)by omega];exact this
 ·obtain⟨ds,hp,⟨yg,xe⟩,h⟩:=pT h;obtain⟨v,hm,hk⟩:=zN h;have O4:=hp;unfold zC at O4;split at O4<;>first|(cases O4;done)|skip
  rename_i el oT;obtain⟨IZ,O4⟩:=yZ O4;have IZ:=Cj IZ;rw[q3 el (kx oT)]at IZ;have nk:=(q2.drop (i*x.sz+f)).take ds.length;rw[zNa q3 oT IZ,ba O4]at nk;rw[<- yRi q4 (i*x.sz+f) ds.length (λhb=>yHz IZ yg (xe hb))]at nk;obtain⟨y,hy,hh⟩:=zWd CQ q3 q5 hp nk hm;exact⟨v,y,hk,hy,hh⟩
def yBh (P:ab) (t:ac) (fa:Q_ D) (i f:Nat) (K:V->Prop):Prop:=
 bif J4 P t then(zC fa i f 1=ap [.v (.slice aq 0 0)]/\iF (Dz P t [.v (.slice aq 0 0)]) K)\/(FR P t λds=>zC fa i f ds.length=ap ds/\iF (Dz P t ds) K)
 else FR P t λds=>zC fa i f ds.length=ap ds/\iF (Dz P t ds) K
def zTh {P:ab} {t:ac} {fa:Q_ D} {i f:Nat} {K:V->Prop} (h:yBh P t fa i f K):∃ds v,zC fa i f ds.length=ap ds/\Dz P t ds=ap v/\K v:=by
 have h2:(FR P t λds=>zC fa i f ds.length=ap ds/\iF (Dz P t ds) K)->∃ds v,zC fa i f ds.length=ap ds/\Dz P t ds=ap v/\K v:=λh=>by
  obtain⟨ds,hp,h⟩:=pT h;obtain⟨v,hm,hk⟩:=zN h;exact⟨ds,v,hp,hm,hk⟩
 unfold yBh at h;cases hu:J4 P t<;>rw[hu]at h<;>simp only[cond_true,cond_false]at h
 ·exact h2 h
 ·rcases h with⟨hp,h⟩|h
  ·obtain⟨v,hm,hk⟩:=zN h;exact⟨[.v (.slice aq 0 0)],v,hp,hm,hk⟩
  ·exact h2 h
def sr (P:ab) (o:ak) (ρ:xG) (s:St) (K:V->Prop):Prop:=
 match o.op with
 | .load t x=>match lz ρ x with
   | .nm n off=>match s.get n with
     |some (.cells vs _)=>iF (XE P t vs off) K
     |_=>False
   | .el n sz i f=>match LA s n with
     |some len=>bif bc sz 1 && bc f 0 && CA P t then i<len/\K (.sub n i)else False
     |none=>match nZ s n with
     |some x=>z1b P t x sz i f K
     |none=>iF (eU s (.own n)) λse=>bif bc sz se.1 then yBh P t se.2 i f K else False
   | .re sz fa i f=>FR P t λds=>zC fa i f ds.length=ap ds/\iF (Dz P t ds) K
   | .na n off i=>match s.get n with
     |some (.cells vs _)=>bif CA P t then FR P t λds=>match ds with
      |[d]=>(vs.drop off)[i]?=ap (.d d)/\K (.d d)
      |_=>False else False
     |some (.vec es _)=>bif CA P t then FR P t λds=>match ds with
      |[d]=>(es.drop off)[i]?=ap d/\K (.d d)
      |_=>False else False
     |_=>False
   |_=>False
 | .indexAddr t x i=>match lz ρ x with
   | .own n=>match lz ρ i with
     | .d (.v (.int _ i))=>iF (g8 P t) λsz=>match LA s n with
       |some len=>bif bc sz 1 then(0<=i/\i<len)/\K (.el n 1 i.toNat 0)else False
       |none=>match nZ s n with
       |some x=>bif bc sz x.sz then(0<=i/\i<x.fa.length)/\K (.el n sz i.toNat 0)else False
       |none=>iF (eU s (.own n)) λse=>bif bc sz se.1 then(0<=i/\i<se.2.length)/\K (.el n sz i.toNat 0)else False
     |_=>False
   |_=>False
 | .binOp op t x y _=>match lz ρ x with
   | .own n=>bif WT y && Ir P t then iF (eU s (.own n)) λse=>yDk op se.2 K else False
   |_=>False
 | .convert st d x=>bif J4 P st && LF P d then iF (eU s (lz ρ x)) λse=>∃b:ByteArray,se.1=1/\se.2=j6 b/\K (.d (.v (.string b)))else False
 | .call c=>match c.callee with
   | .builtin .len=>match DF ρ c.args.toList with
     |[.own n]=>iF c.argTypes[0]? λt=>bif Ir P t then(match LA s n with
      |some len=>K (.d (.v (.int .i64 len)))
      |none=>iF (eU s (.own n)) λse=>K (.d (.v (.int .i64 se.2.length))))else False
     |[.mp n]=>iF c.argTypes[0]? λt=>bif yAf P t then(match s.get n with
      |some (.map es)=>K (.d (.v (.int .i64 es.length)))
      |_=>False)else False
     |_=>False
   |_=>False
 | .lookup t x i ok=>match lz ρ x with
   | .mp n=>match s.get n with
     |some (.map es)=>iF (Hx P t) λke=>iF (Hw (lz ρ i)) λkv=>bif Oh P ke.1 kv then iF (NO P ke.2) λz=>lF kv es/\∃b,FR P ke.2 λds=>LK es kv z ds b/\iF (HT P ke.2 ds) λv=>K (bif ok then .je [v,.d (.v (.bool b))]else v)else False
     |_=>False
   |_=>False
 |_=>False
def xJk (P:ab) (E:Ev) (o:ak) (ρ:Env) (w:af) (K:V->Prop):Prop:=∃v y,K v/\VR E v y/\(ae (ev ρ) o).run P w=.ok (.value y) w
def yDd {P:ab} {F:PH} {b:ByteArray} {xs:List aa} (h:iC F (j6 b).flatten xs):xs=(b.data.toList.map UInt8.toNat).map λ(n:Nat)=>Value.int .u8 (n:Int):=by
 unfold j6 at h;revert h;generalize b.data.toList=l
 induction l generalizing xs with
 |nil=>intro h;simpa[iC]using h
 |cons a l ih=>
  intro h;simp only[jg,Bg,uu,wy,iC,DR]at h;obtain⟨x,ys,rfl,⟨rfl,_⟩,h⟩:=h;simp only[jg];rw[ih h]
def Zx {P:ab} {k:Ko} {L:List HP} {E:Ev} {s:St} {w:af} (R:Rel k L E s w) {ρS:xG} {ρ:Env} (he:lp E ρS ρ) {o:ak} {K:V->Prop} (h:sr P o ρS s K):xJk P E o ρ w K:=by
 cases ho:o.op
 case load t x=>
  simp only[sr,ho]at h;have hv:=he.ev x;split at h<;>first|exact h.elim|skip
  ·rename_i n off hx;rw[hx]at hv;simp only[VR]at hv;obtain⟨b,oo,l,e1,e2⟩:=hv;split at h<;>first|exact h.elim|skip
   rename_i vs T hg;obtain⟨v,hp,hk⟩:=zN h;obtain⟨b',l',sub,q1,q2,q3⟩:=R.cells hg;rw[e1]at q1;cases q1;obtain⟨y,hy,hh⟩:=zOm q2 q3 hp;refine⟨v,y,hk,hy,?_⟩;simp only[ae,ho,e2,nt];exact yK hh
  ·rename_i n sz i f hx;rw[hx]at hv;simp only[VR]at hv;obtain⟨b,oo,m,c,l,e1,e2⟩:=hv;split at h
   ·rename_i len Kp;obtain⟨hb,hi,hk⟩:=zM h;simp only[lu]at hb;have b1:=ji hb.1.1;have b2:=ji hb.1.2;subst b1 b2;obtain⟨a,c',sub,q1,q2,q3,q4⟩:=ZW R Kp;rw[e1]at q1;cases q1;obtain⟨bb,o',ll,T,fr,r1,r2,r3⟩:=LC q4 X_;cases r1;obtain⟨p,hp⟩:∃p,l[i]? =ap p:=⟨_,vl X_⟩
    obtain⟨pb,po,rfl⟩:=q3 p (kx hp);refine⟨.sub n i,.pointer (ap ⟨pb,po,aq⟩),hk,by simp only[VR];exact⟨_,l,pb,po,e1,hp,rfl⟩,?_⟩;simp only[ae,ho,e2];refine yK (uA hb.2 r2 ?_);rw[<- r3,IH,fh X_,BA]at hp;rw[show oo+i*1+0=oo+i by omega];exact hp
   split at h
   ·rename_i x hx;obtain⟨v,y,hk,hy,hh⟩:=z9e R hx h e1;refine⟨v,y,hk,hy,?_⟩;simp only[ae,ho,e2];exact yK hh
   obtain⟨⟨oD,fa⟩,hd,h⟩:=zN h;obtain⟨hb,h⟩:=zM h;have:=ji hb;simp only at this;subst this;obtain⟨ds,v,hp,hm,hk⟩:=zTh h;obtain⟨a,c',xs,q1,q2,q3,q4,q5⟩:=mP R (v:= .own n) (y:= .slice (ap ⟨b,oo,aq⟩) m c) (by simp only[VR];exact⟨l,e1,_,_,_,rfl⟩) hd;cases q1;obtain⟨y,hy,hh⟩:=zPe q3 q4 q5 hp hm;refine⟨v,y,hk,hy,?_⟩;simp only[ae,ho,e2];exact yK hh
  ·rename_i sz fa i f hx;rw[hx]at hv;simp only[VR]at hv;obtain⟨e0,e1,b,oo,l,T,fr,e2,e3,e4⟩:=hv;obtain⟨ds,hp,h⟩:=pT h;obtain⟨v,hm,hk⟩:=zN h;obtain⟨a,c',xs,q1,q2,q3,q4,q5⟩:=zMf R (sz:=sz) (fa:=fa) (y:= .slice (ap ⟨b,oo,aq⟩) fa.length fa.length) (by
    simp only[DR];exact⟨_,_,rfl,jx _,e1,.inr ⟨b,oo,l,T,fr,rfl,e3,e4⟩⟩)
   cases q1;obtain⟨y,hy,hh⟩:=zPe q3 q4 q5 hp hm;refine⟨v,y,hk,hy,?_⟩;simp only[ae,ho,e2];exact yK hh
  ·rename_i n off i hx;rw[hx]at hv;simp only[VR]at hv;obtain⟨b,oo,l,e1,e2⟩:=hv;split at h<;>first|exact h.elim|skip
   rename_i vs T hg;obtain⟨Sl,h⟩:=zM h;obtain⟨ds,h⟩:=pT h;split at h<;>first|exact h.elim|skip
   rename_i d;obtain⟨hd,hk⟩:=h;obtain⟨b',l',sub,q1,q2,q3⟩:=R.cells hg;rw[e1]at q1;cases q1;obtain⟨y,hy,hh⟩:=(q2.drop off).get hd;rw[BA]at hy;refine⟨.d d,y,hk,hh,?_⟩;simp only[ae,ho,e2,nt];exact yK (uA Sl q3 hy);rename_i vs T hg;obtain⟨Sl,h⟩:=zM h;obtain⟨ds,h⟩:=pT h;split at h<;>first|exact h.elim|skip
   rename_i d;obtain⟨hd,hk⟩:=h;obtain⟨b',l',sub,q1,q2,q3⟩:=R.vec hg;rw[e1]at q1;cases q1;obtain⟨y,hy,hh⟩:=(q2.drop off).get hd;rw[BA]at hy;refine⟨.d d,y,hk,by simpa only[VR]using hh,?_⟩;simp only[ae,ho,e2,nt];exact yK (uA Sl q3 hy)
 case indexAddr t x i=>
  simp only[sr,ho]at h;have hv:=he.ev x;split at h<;>first|exact h.elim|skip
  rename_i n hx;split at h<;>first|exact h.elim|skip
  rename_i kk i' hi;have Bm:=he.ev i;rw[hi]at Bm;have Bm:=Bm.EB;obtain⟨sz,hs,h⟩:=zN h;split at h
  ·rename_i len Kp;obtain⟨hb,⟨h0,h1⟩,hk⟩:=zM h;have b1:=ji hb;subst b1;obtain⟨a,c',sub,q1,q2,q3,q4⟩:=ZW R Kp;rw[hx]at hv;simp only[VR]at hv;obtain⟨l,e1,_⟩:=hv;rw[q1]at e1;obtain⟨b,oo,ll,T,fr,rfl,r2,r3⟩:=LC q4 X_;have e1:=ba e1;have e2:ev ρ x= .slice (ap ⟨b,oo,aq⟩) len c':=(congrArg Prod.fst e1).symm;refine⟨_,.pointer (ap ⟨b,oo+i'.toNat*1+0,aq⟩),hk,by simp only[VR];exact⟨_,_,_,_,_,q1,rfl⟩,?_⟩;simp only[ae,ho,e2,Bm];refine yK ?_;rw[wP hs ⟨h0,X_⟩,uV];rfl
  split at h
  ·rename_i xh hxh;obtain⟨hb,⟨h0,h1⟩,hk⟩:=zM h;have b1:=ji hb;subst b1;obtain⟨a,c',sub,ys,xs,q1,q2,q3,q4,q5⟩:=R.uq hxh;rw[hx]at hv;simp only[VR]at hv;obtain⟨l,e1,_⟩:=hv;rw[q1]at e1;obtain⟨b,oo,ll,T,fr,rfl,r2,r3⟩:=LC q5 X_;have e1:=ba e1;have e2:ev ρ x= .slice (ap ⟨b,oo,aq⟩) xh.fa.length c':=(congrArg Prod.fst e1).symm;refine⟨_,.pointer (ap ⟨b,oo+i'.toNat*xh.sz+0,aq⟩),hk,by simp only[VR];exact⟨_,_,_,_,_,q1,rfl⟩,?_⟩;simp only[ae,ho,e2,Bm];refine yK ?_;rw[wP hs ⟨h0,X_⟩,uV];rfl
  obtain⟨⟨oD,fa⟩,hd,h⟩:=zN h;obtain⟨hb,⟨h0,h1⟩,hk⟩:=zM h;have:=ji hb;simp only at this;subst this;simp only at h1;rw[hx]at hv;have Kk:=hv;simp only[VR]at Kk;obtain⟨sub,e1,_⟩:=Kk;obtain⟨a,c',xs,q1,q2,q3,q4,q5⟩:=mP R hv hd;obtain⟨b,oo,l,T,fr,rfl,e2,e3⟩:=LC q5 X_;rw[q1]at e1;refine⟨_,.pointer (ap ⟨b,oo+i'.toNat*sz+0,aq⟩),hk,by simp only[VR];exact⟨_,_,_,_,_,e1,rfl⟩,?_⟩;simp only[ae,ho,q1,Bm];refine yK ?_;rw[wP hs ⟨h0,X_⟩,uV];rfl
 case binOp op t x y u=>
  simp only[sr,ho]at h;split at h<;>first|exact h.elim|skip
  rename_i n hx;obtain⟨hb,h⟩:=zM h;simp only[lu]at hb;obtain⟨⟨oD,fa⟩,hd,hk⟩:=zN h;have hv:=he.ev x;rw[hx]at hv;obtain⟨a,c',xs,q1,q2,q3,q4,q5⟩:=mP R hv hd;obtain⟨v,y',h1,h2,h3⟩:=zRn (E:=E) ho hb.1 hb.2 q1 (λha=>by
   obtain⟨z,hz,_⟩:=q5;rcases hz with⟨h1,_⟩|⟨_,_,_,_,_,h1,_⟩
   ·exact ye h1
   ·rw[ha]at h1;cases h1) hk
  exact⟨v,y',h1,h2,h3 w⟩
 case convert st d x=>
  simp only[sr,ho]at h;obtain⟨hb,h⟩:=zM h;simp only[lu]at hb;obtain⟨⟨oD,fa⟩,hd,h⟩:=zN h;obtain⟨b,rfl,rfl,hk⟩:=h;obtain⟨a,c',xs,q1,q2,q3,q4,q5⟩:=mP R (he.ev x) hd;refine⟨_,.string b,hk,wI rfl,?_⟩;obtain⟨e,hes,hu⟩:=yKi hb.1;simp only[ae,ho,q1];refine yK ?_;have xa:=yDd (P:=P) q3;obtain⟨r1,hfc,r3⟩:=P2 (P:=P) (.inl ⟨a,c',rfl,q5⟩);rcases a with _|ad
  ·obtain⟨x,hx,hs⟩:=q5;have hz:(j6 b).length=0:=by
    rcases hx with⟨h1,_⟩|⟨_,_,_,_,_,h1,_⟩
    ·exact h1
    ·cases h1
   have Pb:b= .empty:=by
    unfold j6 at hz;simp at hz;simpa using hz
   subst Pb;simp only[convert,bind,run_bind,Cv.run_underlying hes,Cv.run_underlying (pU hb.2),Cv.run_underlying hu];rfl
  ·simp only[cw,Nat.mul_one]at hfc;rw[xa]at hfc;simp only[convert,bind,run_bind,Cv.run_underlying hes,Cv.run_underlying (pU hb.2),Cv.run_underlying hu,Conv.bytesToString,hfc];rw[<- Array.forIn_toList];simp only[bind,pure];rw[zJv (P:=P) w (λ_ _=>rfl) _ .empty];simp only[cd];congr 2;rw[Cv.Hu];apply ByteArray.ext;simp
 case call c=>
  simp only[sr,ho]at h;split at h<;>first|exact h.elim|skip
  rename_i hc;obtain⟨ys,e1,e2⟩:=mD he c.args;split at h<;>first|exact h.elim|skip
  ·rename_i n oc;obtain⟨t,ht,h⟩:=zN h;obtain⟨hs,h⟩:=zM h;split at h
   ·rename_i len Kp;rw[oc]at e2;simp only[ic,VR]at e2;obtain⟨y,_,rfl,⟨l,hv,_⟩,rfl⟩:=e2;obtain⟨a,c',sub,q1,q2,q3,q4⟩:=ZW R Kp;rw[hv]at q1;have e3:y= .slice a len c':=congrArg Prod.fst (ba q1);subst e3;refine⟨_,.int .i64 len,h,wI rfl,?_⟩;rw[wF ho hc,e1];obtain⟨e,Mo⟩:=eF hs;refine yK ?_;simp only[cu,ht,Bj,CM,bind,run_bind,Cv.run_underlying Mo];rfl
   obtain⟨⟨oD,fa⟩,hd,hk⟩:=zN h;rw[oc]at e2;simp only[ic]at e2;obtain⟨y,_,rfl,hv,rfl⟩:=e2;obtain⟨a,c',xs,rfl,q2,q3,q4,q5⟩:=mP R hv hd;refine⟨_,.int .i64 fa.length,hk,wI rfl,?_⟩;rw[wF ho hc,e1];obtain⟨e,Mo⟩:=eF hs;refine yK ?_;simp only[cu,ht,Bj,CM,bind,run_bind,Cv.run_underlying Mo];rfl
  ·rename_i n oc;obtain⟨t,ht,h⟩:=zN h;obtain⟨hs,h⟩:=zM h;split at h<;>first|exact h.elim|skip
   rename_i es hg;rw[oc]at e2;simp only[ic,VR]at e2;obtain⟨y,_,rfl,⟨bm,sub,e3,rfl⟩,rfl⟩:=e2;obtain⟨hd,x,q1,q2,q3⟩:=R.row hg (by simp);rw[e3]at q1;cases q1;simp only[fw]at q2;obtain⟨b,fy,ck,e4,e5,e6,rfl⟩:=q2;cases e4;have hm:=q3 bm _ (by simp[one];rfl);have hl:fy.length=es.length:=by
    clear q3 hm hg h e6
    induction es generalizing fy with
    |nil=>simp only[MR]at e5;rw[e5];rfl
    |cons p es ih=>obtain⟨m,ms,rfl,_,_,e5⟩:=e5;simp[ih _ e5]
   refine⟨_,.int .i64 es.length,h,wI rfl,?_⟩;rw[wF ho hc,e1];obtain⟨kt,e,Mo⟩:=z6o hs;refine yK ?_;simp only[cu,ht,Bj,CM,bind,run_bind,Cv.run_underlying Mo,kA hm trivial];simp[pure,cd,goInt,hl]
 case lookup t x i ok=>
  simp only[sr,ho]at h;split at h<;>first|exact h.elim|skip
  rename_i n hx;split at h<;>first|exact h.elim|skip
  rename_i es hg;obtain⟨ke,Co,h⟩:=zN h;obtain⟨kv,IX,h⟩:=zN h;obtain⟨Sz,h⟩:=zM h;obtain⟨z,hz,Cq,b,h⟩:=zN h;obtain⟨ds,Sw,h⟩:=pT h;obtain⟨v,hm,hk⟩:=zN h;have hv:=he.ev x;rw[hx]at hv;simp only[VR]at hv;obtain⟨bm,sub,e1,e2⟩:=hv;obtain⟨hd,x',q1,q2,q3⟩:=R.row hg (by simp);rw[e1]at q1;cases q1;simp only[fw]at q2;obtain⟨b',fy,ck,e4,e5,e6,rfl⟩:=q2;rw[e2]at e4;cases e4;have Su:=q3 bm _ (by simp[one];rfl);have hi:ev ρ i=kv:=LH IX (he.ev i);obtain⟨kd,hu,zn⟩:=V7 Sz;have Fa:∀v,HT P ke.2 z=ap v->∃zv,rB P ke.2=ap zv/\VR E v zv:=λv hv=>yUi hz hv
  refine⟨bif ok then .je [v,.d (.v (.bool b))]else v,?_⟩;have run:∃y,VR E v y/\(bz t (.map (ap bm)) kv ok).run P w= .ok (if ok then .tuple #[y,.bool b]else y) w:=by
   rcases Oc zn 0 e5 Cq with⟨r1,r2,r3,r4,_⟩|⟨q,m,DH,ys,r1,r2,r3,r4,r5,r6,r7,r8,_⟩
   ·rcases Sw with⟨l1,l2⟩|⟨l1,l2,l3⟩
    ·rw[r2]at l1;cases l1
    ·subst l2 l3;obtain⟨zv,z1,z2⟩:=Fa v hm;refine⟨zv,z2,?_⟩;simp only[bz,bind,run_bind,Cv.run_underlying (gE Co),kA Su Y_,pure,cd,wR hu zn,vV hu r1,mg (c8 z1)]
   ·rcases Sw with⟨l1,l2⟩|⟨l1,l2,l3⟩
    ·rw[r4]at l1;cases l1;subst l2;refine⟨tT ys,z0p hm r5,?_⟩;simp only[bz,bind,run_bind,Cv.run_underlying (gE Co),kA Su Y_,pure,cd,wR hu zn,vV hu r1,r6]
    ·rw[r4]at l1;cases l1
  obtain⟨y,hy,jq⟩:=run;refine⟨if ok then .tuple #[y,.bool b]else y,hk,?_,?_⟩
  ·cases ok
   ·exact hy
   ·simp only[cond_true,if_true,VR,ic,DR];exact⟨[y,.bool b],rfl,y,_,rfl,hy,_,_,rfl,⟨rfl,rfl⟩,rfl⟩
  ·simp only[ae,ho,e2,hi];exact yK jq
 all_goals(simp only[sr,ho]at h)
variable {P:ab} {k:Ko} {L:List HP} {E:Ev} {s:St} {w:af}
def yQf {α:Type _} {w:af} {f g:α->HP} (h:∀a x,f a x->g a x):∀{l:List α} {M:List HP} {hs:List PH},Hs w (l.map f++M) hs->Hs w (l.map g++M) hs
 |[],M,hs,H=>H
 |a::l,M,hs,H=>by
  simp only[jg,uu]at H ⊢;cases H with
  |cons ha jb hd hr=>exact .cons (h _ _ ha) jb hd (yQf h hr)
def vD {α:Type _} {f g:α->HP} (h:∀a x,f a x->g a x) {l:List α} {M:List HP} (H:Hp k w (l.map f++M)):Hp k w (l.map g++M):=
 ⟨H.1,let⟨hs,hh⟩:=H.2;⟨hs,yQf h hh⟩⟩
def z2f {A:HP} {F:PH} {M:List HP} (H:Hp k w (A::fz F::M)):∃x,A x/\Dj x F/\Sub x w/\Hp k w (fz (un x F)::M):=by
 obtain⟨hk,hs,hh⟩:=H;cases hh with
 |cons ha jb hd hr=>
  cases hr with
  |cons hf yg SG hr=>
   simp only[fz]at hf;obtain⟨rfl,hgt⟩:=hf;refine⟨_,ha,hd _ iY,jb,hk,_,.cons ⟨rfl,hgt.mono (λb o e=>by
    rcases hd _ iY b with h|h
    ·simp[un,h,e]
    ·rw[e]at h;cases h)⟩ (yOg jb yg) (λg hg=>yHi (hd g (jj _ hg)) (SG g hg)) hr⟩
def yCu {x F:PH} (d:Dj x F):yd F (un x F):=λb o e=>by
 rcases d b with h|h
 ·simp[un,h,e]
 ·rw[e]at h;cases h
def Rel.new (R:Rel k L E s w) {o:fq} {O:Obj} {hd:Hd} (h:fw E.F o (E.gl++[hd]) hd (one w.heap.size O)):E.le ⟨E.F,E.gl++[hd]⟩/\Rel k L ⟨E.F,E.gl++[hd]⟩ (s.new o) (w.alloc O)/\(E.gl++[hd])[s.nx]? =ap hd:=by
 have hle:E.le ⟨E.F,E.gl++[hd]⟩:=⟨yd.refl _,Kd _ _⟩
 have kq:(E.gl++[hd])[s.nx]? =ap hd:=by rw[<- R.nx];simp
 refine⟨hle,⟨by simp[St.new,R.nx],?_⟩,kq⟩;have H:=R.hp.new O;have H1:Hp k (w.alloc O) (s.rows.map (ie E)++(pt w.heap.size O::fz E.F::L)):=H.perm (mu (l₁:=s.rows.map (ie E))).symm;have H2:=vD (λr x=>ie.mono hle r) H1;have H3:Hp k (w.alloc O) (pt w.heap.size O::(s.rows.map (ie ⟨E.F,E.gl++[hd]⟩)++fz E.F::L)):=H2.perm mu;exact H3.imp λx hx=> .inr ⟨hd,kq,by rw[show x=one w.heap.size O from hx];exact h⟩
def Rel.freeze (R:Rel k L E s w) {n t sz:Nat} {fa:Q_ D} (h:s.get n=ap (.own t sz fa)):∃E',E.le E'/\E'.gl=E.gl/\Rel k L E' (s.set n (.kr sz fa)) w:=by
 have H:Hp k w (ie E (n,.own t sz fa)::fz E.F::((uG n s.rows).map (ie E)++L)):=(R.focus h).cons mu;obtain⟨x,hx,hd,jb,H⟩:=z2f H;rcases hx with⟨e,_⟩|⟨hv,h1,h2⟩
 ·cases e
 simp only[fw]at h2;obtain⟨a,c,xs,h3,h4,h5,h6⟩:=h2;have hle:E.le ⟨un x E.F,E.gl⟩:=⟨yCu hd,Ka _⟩
 refine⟨⟨un x E.F,E.gl⟩,hle,rfl,?_⟩;have H1:Hp k w ((uG n s.rows).map (ie E)++fz (un x E.F)::L):=H.perm mu.symm;have H2:=vD (λr x=>ie.mono hle r) H1;have H3:Hp k w (ie ⟨un x E.F,E.gl⟩ (n,.kr sz fa)::((uG n s.rows).map (ie ⟨un x E.F,E.gl⟩)++fz (un x E.F)::L)):=by
  have:=(@gD k w True _).2 ⟨Y_,H2⟩;refine this.imp λy hy=> .inr ⟨hv,h1,?_⟩
  simp only[fw];refine⟨hy.2,?_⟩;simp only[DR];refine⟨a,c,h3,(Vk h6).2,h5,?_⟩;rcases h6 with⟨rfl,q2,rfl,rfl,rfl⟩|⟨b,r,rfl,rfl,q3,q4,q5⟩
  ·exact .inl (ye q2)
  ·refine .inr ⟨b,0,xs++r,t,(0,0),rfl,?_,oX.2 ⟨xs,r,rfl,h4.mono hle.1⟩⟩;simp[un,one]
 refine⟨by simpa[St.set]using R.nx,H3.perm ?_⟩;have:=(((uH h).2 (.kr sz fa)).map (ie ⟨un x E.F,E.gl⟩)).append_right (fz (un x E.F)::L);simpa[St.set]using this.symm
def L0 (s:St):V->Option (D×St)
 | .d d=>ap (d,s)
 | .own n=>match s.get n with
   |some (.own _ sz fa)=>ap (.ro sz fa,s.set n (.kr sz fa))
   |some (.kr sz fa)=>ap (.ro sz fa,s)
   |_=>aq
 |_=>aq
def Rw (s:St):List V->Option (List D×St)
 |[]=>ap ([],s)
 |v::l=>match L0 s v with
  |some (d,s')=>match Rw s' l with
   |some (ds,s2)=>ap (d::ds,s2)
   |none=>aq
  |none=>aq
def PX (R:Rel k L E s w) {v:V} {d:D} {s':St} (h:L0 s v=ap (d,s')) {y:aa} (hv:VR E v y):∃E',E.le E'/\E'.gl=E.gl/\Rel k L E' s' w/\s'.nx=s.nx/\DR E'.F d y:=by
 unfold L0 at h;split at h<;>first|(cases h;done)|skip
 ·cases h;exact⟨E,Ev.le.refl _,rfl,R,rfl,by simpa only[VR]using hv⟩
 ·rename_i n;simp only[VR]at hv;obtain⟨sub,h1,_⟩:=hv;split at h<;>first|(cases h;done)|skip
  ·rename_i t sz fa hg;cases h;obtain⟨E',q1,q2,q3⟩:=R.freeze hg;refine⟨E',q1,q2,q3,rfl,?_⟩;have qo:(s.set n (.kr sz fa)).get n=ap (.kr sz fa):=by
    simp only[St.get,St.set];have:∀l:List (Nat×fq),sN n l≠aq->sN n (rR n (.kr sz fa) l)=ap (.kr sz fa):=by
     intro l
     induction l with
     |nil=>intro h;exact absurd rfl h
     |cons p l ih=>
      obtain⟨m,o⟩:=p;intro h;simp only[sN,rR]at h ⊢;cases hb:bc m n
      ·rw[hb]at h;simp only[sN,hb,cond_false]at h ⊢;exact ih h
      ·simp only[sN,hb,cond_true]
    exact this _ (by simp only[St.get]at hg;rw[hg];simp)
   obtain⟨hd,x,e1,e2,e3⟩:=q3.row qo (by simp);rw[q2,h1]at e1;cases e1;simp only[fw]at e2;exact e2.2
  ·rename_i sz fa hg;cases h;obtain⟨hd,x,e1,e2,e3⟩:=R.row hg (by simp);rw[h1]at e1;cases e1;simp only[fw]at e2;exact⟨E,Ev.le.refl _,rfl,R,rfl,e2.2⟩
def yGu:∀{vs:List V} {s:St} {E:Ev} (R:Rel k L E s w) {ds:List D} {s':St} (h:Rw s vs=ap (ds,s')) {ys:List aa} (hv:ic E vs ys),
 ∃E',E.le E'/\E'.gl=E.gl/\Rel k L E' s' w/\s'.nx=s.nx/\iC E'.F ds ys
 |[],s,E,R,ds,s',h,ys,hv=>by
  simp only[Rw,az,ct]at h;obtain⟨rfl,rfl⟩:=h;simp only[ic]at hv;exact⟨E,Ev.le.refl _,rfl,R,rfl,by simpa only[iC]using hv⟩
 |v::vs,s,E,R,ds,s',h,ys,hv=>by
  simp only[Rw]at h;simp only[ic]at hv;obtain⟨y,ys,rfl,h1,h2⟩:=hv;split at h<;>first|(cases h;done)|skip
  rename_i d s1 hd;split at h<;>first|(cases h;done)|skip
  rename_i ds s2 hds;cases h;obtain⟨E1,q1,q2,q3,q4,q5⟩:=PX R hd h1;obtain⟨E2,r1,r2,r3,r4,r5⟩:=yGu q3 hds (h2.mono q1);exact⟨E2,q1.trans r1,r2.trans q2,r3,r4.trans q4,by simp only[iC];exact⟨_,_,rfl,q5.mono r1.1,r5⟩⟩
def z9l:D->Bool
 | .v (.slice aq 0 0)=>ar
 |_=>au
def FF (P:ab):List ac->List D->List D
 |t::ts,d::ds=>(match g8 P t with
  |some sz=>bif z9l d then .ro sz []else d
  |none=>d)::FF P ts ds
 |_,ds=>ds
def Zv {F:PH}:∀{ts:List ac} {ds:List D} {ys:List aa},iC F ds ys->iC F (FF P ts ds) ys
 |[],ds,ys,h=>by unfold FF;exact h
 |t::ts,[],ys,h=>by unfold FF;exact h
 |t::ts,d::ds,ys,h=>by
  unfold FF;simp only[iC]at h ⊢;obtain⟨x,xs,rfl,h1,h2⟩:=h;refine⟨x,xs,rfl,?_,Zv h2⟩;split
  ·cases hb:z9l d
   ·exact h1
   ·unfold z9l at hb;split at hb
    ·simp only[DR]at h1;obtain⟨rfl,_⟩:=h1;simp only[cond_true,DR];exact⟨aq,0,rfl,jx _,by simp,.inl Y_⟩
    ·cases hb
  ·exact h1
def zZc:∀(ts:List ac) (ds:List D),(FF P ts ds).length=ds.length
 |[],ds=>by unfold FF;rfl
 |t::ts,[]=>by unfold FF;rfl
 |t::ts,d::ds=>by unfold FF;simp[zZc ts ds]
def I1 (P:ab) (s:St) (t:ac) (v:V):Option (List D×St):=
 bif JO v then(match Rw s v.cl with
  |some (ds,s')=>ap (FF P (bif J4 P t then[]else P3 P 6 t) ds,s')
  |none=>aq)else aq
def pH {α:Type _} {b:Bool} {x:Option α} {v:α} (h:(bif b then x else aq)=ap v):b=ar/\x=ap v:=by
 cases b
 ·cases h
 ·exact⟨rfl,h⟩
def NT (R:Rel k L E s w) {t:ac} {v:V} {ds:List D} {s':St} (h:I1 P s t v=ap (ds,s')) {y:aa} (hv:VR E v y):
 ∃E' ys,E.le E'/\E'.gl=E.gl/\Rel k L E' s' w/\s'.nx=s.nx/\y.cells=ys.toArray/\iC E'.F ds ys:=by
 unfold I1 at h;obtain⟨hb,h⟩:=pH h;split at h<;>first|(cases h;done)|skip
 rename_i ds0 s0 hf;cases h;obtain⟨l,hl,OV⟩:=VR.cells hb hv;obtain⟨E',q1,q2,q3,q4,q5⟩:=yGu R hf OV;exact⟨E',l,q1,q2,q3,q4,hl,Zv q5⟩
variable {P:ab} {k:Ko} {L:List HP} {E:Ev} {s:St} {w:af}
def FC (F:PH) (T:Type) (m:Nat) (iA:T->Nat->fq) (x:T) (p:aa) (l0:List aa):HP:=λh=>
 ∃kh:List Hd,kh[0]? =ap (p,l0)/\kh.length=m/\hS ((av m).map λj=>λh=>∃oU,kh[j]? =ap oU/\fw F (iA x j) kh oU h) h
def qA (F:PH) (T:Type) (m:Nat) (iA:T->Nat->fq) (l:List T) (sub:List aa) (hole:Option Nat) (i:Nat):HP:=λh=>
 if hole=ap i then h=pe else ∃x p l0,l[i]? =ap x/\sub[i]? =ap p/\FC F T m iA x p l0 h
def XR (sub:List aa):Prop:=∀p∈sub,∃b oo,p=.pointer (ap ⟨b,oo,aq⟩)
def ri {F:PH} {t:Nat} {T:Type} {m:Nat} {iA:T->Nat->fq} {l:List T} {hole:Option Nat} {gl:List Hd} {hd:Hd} {h:PH}:
 fw F (.km t T m iA l hole) gl hd h↔∃a c,hd.1= .slice a l.length c/\hd.2.length=l.length/\XR hd.2/\SM (ow t 1 a l.length c hd.2) (hS ((av l.length).map (qA F T m iA l hd.2 hole))) h:=by
 simp only[fw];constructor
 ·rintro⟨a,c,h1,h2,h3,g,g',h4,h5,h6,h7⟩;refine⟨a,c,h1,h2,h3,g,g',h4,LB (λi x hx=> ?_) h5,h6,h7⟩;unfold qA;split
  ·rename_i hi;rwa [fh hi]at hx
  ·rename_i hi;rw[eg hi]at hx;obtain⟨x,p,l0,kh,r1,r2,r3,r4,r5⟩:=hx;exact⟨x,p,l0,r1,r2,kh,r3,r4,r5⟩
 ·rintro⟨a,c,h1,h2,h3,g,g',h4,h5,h6,h7⟩;refine⟨a,c,h1,h2,h3,g,g',h4,LB (λi x hx=> ?_) h5,h6,h7⟩;unfold qA at hx;split
  ·rename_i hi;rwa [fh hi]at hx
  ·rename_i hi;rw[eg hi]at hx;obtain⟨x,p,l0,r1,r2,kh,r3,r4,r5⟩:=hx;exact⟨x,p,l0,kh,r1,r2,r3,r4,r5⟩
def VJ (R:Rel k L E s w) {n t:Nat} {T:Type} {m:Nat} {iA:T->Nat->fq} {l:List T} {hole:Option Nat} (h:s.get n=ap (.km t T m iA l hole)):
 ∃a c sub,E.gl[n]? =ap (.slice a l.length c,sub)/\sub.length=l.length/\XR sub/\
  Hp k w (ow t 1 a l.length c sub::((av l.length).map (qA E.F T m iA l sub hole)++((uG n s.rows).map (ie E)++fz E.F::L))):=by
 obtain⟨hk,hs,hh⟩:=R.focus h;cases hh with
 |cons ha jb hd hr=>
  rcases ha with⟨e,_⟩|⟨⟨hv,sub⟩,h1,h2⟩
  ·cases e
  ·obtain⟨a,c,rfl,q2,q3,q4⟩:=ri.1 h2;refine⟨a,c,sub,h1,q2,q3,?_⟩;have H:Hp k w (SM (ow t 1 a l.length c sub) (hS ((av l.length).map (qA E.F T m iA l sub hole)))::((uG n s.rows).map (ie E)++fz E.F::L)):=⟨hk,_,.cons q4 jb hd hr⟩
   have H1:=vf.1 H;have H2:=rh.1 H1.swap;exact H2.perm mu
def ZG {n t:Nat} {T:Type} {m:Nat} {iA:T->Nat->fq} {l:List T} {hole:Option Nat} {a:Option am} {c:Nat} {sub:List aa} {M:List HP}
 (ht:E.gl[n]? =ap (.slice a l.length c,sub)) (hl:sub.length=l.length) (hp:XR sub)
 (H:Hp k w (ow t 1 a l.length c sub::((av l.length).map (qA E.F T m iA l sub hole)++M))):Hp k w (ie E (n,.km t T m iA l hole)::M):=by
 have H1:Hp k w ((av l.length).map (qA E.F T m iA l sub hole)++ow t 1 a l.length c sub::M):=H.perm mu.symm;have H2:=(rh.2 H1).swap;exact(vf.2 H2).imp λx hx=> .inr ⟨_,ht,ri.2 ⟨a,c,rfl,hl,hp,hx⟩⟩
def zOz {n i:Nat} (h:i<n):∃B,av n=av i++i::B/\∀j∈B,j≠i:=by
 refine⟨(av (n-i-1)).map (λj=>i+1+j),?_,λj hj=> ?_⟩
 ·have:n=i+(1+(n-i-1)):=X_
  conv=>lhs;rw[this]
  rw[List.range_add,List.range_add,jh];simp[Function.comp_def,Dq]
 ·obtain⟨q,_,rfl⟩:=nn.1 hj;omega
def yPv (H:Hp k w L):Hp k w ((λh=>h=pe)::L):=((@gD k w True L).2 ⟨Y_,H⟩).imp λx hx=>hx.2
def y5p (H:Hp k w ((λh=>h=pe)::L)):Hp k w L:=((@gD k w True L).1 (H.imp λx hx=>⟨Y_,hx⟩)).2
def ySs {F:PH} {T:Type} {m:Nat} {iA:T->Nat->fq} {l:List T} {sub:List aa} {M:List HP} {i:Nat} {x:T} {p:aa} (hx:l[i]? =ap x) (hp:sub[i]? =ap p)
 (H:Hp k w ((av l.length).map (qA F T m iA l sub aq)++M)):∃l0,Hp k w (FC F T m iA x p l0::((av l.length).map (qA F T m iA l sub (ap i))++M)):=by
 have hi:i<l.length:=(jk.1 hx).1;obtain⟨B,hB,jy⟩:=zOz hi;have e1:∀j,j≠i->qA F T m iA l sub aq j=qA F T m iA l sub (ap i) j:=λj hj=>by
  funext h;unfold qA;rw[eg (by simp),eg (by simp only[az];omega)]
 have e2:qA F T m iA l sub (ap i) i=λh=>h=pe:=by funext h;unfold qA;rw[fh rfl]
 have ea:(av i).map (qA F T m iA l sub (ap i))=(av i).map (qA F T m iA l sub aq):=uk λj hj=>(e1 j (by have:=CJ.1 hj;omega)).symm
 have eb:B.map (qA F T m iA l sub (ap i))=B.map (qA F T m iA l sub aq):=uk λj hj=>(e1 j (jy j hj)).symm
 rw[hB,jh,jg]at H ⊢;rw[ea,eb,e2];have H1:Hp k w (qA F T m iA l sub aq i::((av i).map (qA F T m iA l sub aq)++(B.map (qA F T m iA l sub aq)++M))):=by
  rw[jd]at H;exact H.perm mu
 obtain⟨l0,H2⟩:∃l0,Hp k w (FC F T m iA x p l0::((av i).map (qA F T m iA l sub aq)++(B.map (qA F T m iA l sub aq)++M))):=by
  obtain⟨hk,hs,hh⟩:=H1;cases hh with
  |cons ha jb hd hr=>
   unfold qA at ha;rw[eg (by simp)]at ha;obtain⟨x',p',l0,r1,r2,r3⟩:=ha;rw[hx]at r1;rw[hp]at r2;cases r1;cases r2;exact⟨l0,hk,_,.cons r3 jb hd hr⟩
 have H3:=yPv H2;rw[jd];refine⟨l0,H3.swap.cons ?_⟩;exact mu.symm
def yZq {F:PH} {T:Type} {m:Nat} {iA:T->Nat->fq} {l:List T} {sub:List aa} {M:List HP} {i:Nat} {x:T} {p:aa} {l0:List aa} (hi:i<l.length) (hp:sub[i]? =ap p)
 (H:Hp k w (FC F T m iA x p l0::((av l.length).map (qA F T m iA l sub (ap i))++M))):Hp k w ((av l.length).map (qA F T m iA (l.set i x) sub aq)++M):=by
 obtain⟨B,hB,jy⟩:=zOz hi;have e1:∀j,j≠i->qA F T m iA (l.set i x) sub aq j=qA F T m iA l sub (ap i) j:=λj hj=>by
  funext h;unfold qA;rw[eg (by simp),eg (by simp only[az];omega),List.getElem?_set_ne X_]
 have e2:qA F T m iA l sub (ap i) i=λh=>h=pe:=by funext h;unfold qA;rw[fh rfl]
 have ea:(av i).map (qA F T m iA (l.set i x) sub aq)=(av i).map (qA F T m iA l sub (ap i)):=uk λj hj=>e1 j (by have:=CJ.1 hj;omega)
 have eb:B.map (qA F T m iA (l.set i x) sub aq)=B.map (qA F T m iA l sub (ap i)):=uk λj hj=>e1 j (jy j hj)
 rw[hB,jh,jg,jd]at H ⊢;rw[e2]at H;rw[ea,eb];have H1:Hp k w ((λh=>h=pe)::FC F T m iA x p l0::((av i).map (qA F T m iA l sub (ap i))++(B.map (qA F T m iA l sub (ap i))++M))):=
  H.perm ((co _ mu).trans (.swap _ _ _))
 have H2:=y5p H1;have H3:Hp k w (qA F T m iA (l.set i x) sub aq i::((av i).map (qA F T m iA l sub (ap i))++(B.map (qA F T m iA l sub (ap i))++M))):=H2.imp λh hh=>by
  unfold qA;rw[eg (by simp)];exact⟨x,p,l0,by rw[List.getElem?_set_self hi],hp,hh⟩
 exact H3.perm mu.symm
def yOy {F:PH} {T:Type} {m:Nat} {iA:T->Nat->fq} {l l2:List T} {sub tj:List aa} (hl:sub.length=l.length) {M:List HP}
 (H:Hp k w ((av l.length).map (qA F T m iA l sub aq)++((av l2.length).map (qA F T m iA l2 tj aq)++M))):
 Hp k w ((av (l++l2).length).map (qA F T m iA (l++l2) (sub++tj) aq)++M):=by
 rw[ix,List.range_add,jh,wx,jd];have ea:(av l.length).map (qA F T m iA (l++l2) (sub++tj) aq)=(av l.length).map (qA F T m iA l sub aq):=uk λj hj=>by
  have hj:=CJ.1 hj;funext h;unfold qA;rw[eg (by simp),eg (by simp),Ek hj,Ek X_]
 have eb:(av l2.length).map ((qA F T m iA (l++l2) (sub++tj) aq)∘(l.length+·))=(av l2.length).map (qA F T m iA l2 tj aq):=uk λj hj=>by
  funext h;simp only[Function.comp];unfold qA;rw[eg (by simp),eg (by simp),Ck X_,Ck X_];rw[show l.length+j-l.length=j by omega,show l.length+j-sub.length=j by omega]
 rw[ea,eb];exact H
def zOy {n:Nat} {T:Type} {m:Nat} {iA:T->Nat->fq} {x:T} {p:aa} {l0:List aa} (ht:E.gl[n]? =ap (p,l0)) {h:PH} (H:ie E (n,.rk T m iA x) h):FC E.F T m iA x p l0 h:=by
 rcases H with⟨e,_⟩|⟨hd,h1,h2⟩
 ·cases e
 ·rw[ht]at h1;cases h1;simp only[fw]at h2;exact h2
def z8k {n:Nat} {T:Type} {m:Nat} {iA:T->Nat->fq} {x:T} {p:aa} {l0:List aa} (ht:E.gl[n]? =ap (p,l0)) {h:PH} (H:FC E.F T m iA x p l0 h):ie E (n,.rk T m iA x) h:=
 .inr ⟨_,ht,by simp only[fw];exact H⟩
def Rel.out {A:HP} {E:Ev} {s:St} (R:Rel k (A::L) E s w):Hp k w (A::(s.rows.map (ie E)++fz E.F::L)):=by
 refine R.hp.perm ?_;have:(fz E.F::A::L).Perm (A::fz E.F::L):= .swap _ _ _;exact(this.append_left _).trans mu
def Rel.Kj {A:HP} {E:Ev} {s:St} (hn:E.gl.length=s.nx) (H:Hp k w (A::(s.rows.map (ie E)++fz E.F::L))):Rel k (A::L) E s w:=by
 refine⟨hn,H.perm ?_⟩;have:(fz E.F::A::L).Perm (A::fz E.F::L):= .swap _ _ _;exact((this.append_left _).trans mu).symm
def Rel.qt {A B:HP} {E:Ev} {s:St} (R:Rel k (A::L) E s w) (h:∀x,A x->B x):Rel k (B::L) E s w:=Rel.Kj R.nx (R.out.imp h)
def Rel.take {E:Ev} {s:St} (R:Rel k L E s w) {n:Nat} {o:fq} (h:s.get n=ap o):Rel k (ie E (n,o)::L) E (s.del n) w:=Rel.Kj R.nx (R.focus h)
def Rel.gw {E:Ev} {s:St} (R:Rel k L E s w) {n:Nat} {o:fq} (h:s.get n=ap o):Rel k (ie E (n,o)::L) E (s.Jk n o) w:=by
 cases o with
 |kr sz fa=>
  obtain⟨hd,x,h1,h2,h3⟩:=R.row h (by simp);refine⟨R.nx,?_⟩;have H:Hp k w ((λh=>h=pe)::(s.rows.map (ie E)++fz E.F::L)):=yPv R.hp;simp only[fw]at h2;have H1:Hp k w (ie E (n,.kr sz fa)::(s.rows.map (ie E)++fz E.F::L)):=H.imp λy hy=> .inr ⟨hd,h1,by simp only[fw];exact⟨hy,h2.2⟩⟩
  refine H1.perm ?_;have:(ie E (n,.kr sz fa)::fz E.F::L).Perm (fz E.F::ie E (n,.kr sz fa)::L):= .swap _ _ _;exact mu.symm.trans (this.append_left _)
 |_=>exact R.take h
def Rel.Jm (R:Rel k L E s w) {n t i:Nat} {T:Type} {m:Nat} {iA:T->Nat->fq} {l:List T} (h:s.get n=ap (.km t T m iA l aq)) {x:T} (hx:l[i]? =ap x) {y:aa} (hv:VR E (.sub n i) y):
 ∃E1,E.le E1/\Rel k L E1 ((s.set n (.km t T m iA l (ap i))).new (.rk T m iA x)) w/\VR E1 (.nm s.nx 0) y/\∃l0,E1.gl[s.nx]? =ap (y,l0):=by
 obtain⟨a,c,sub,h1,h2,h3,H⟩:=VJ R h;simp only[VR]at hv;obtain⟨hd,l',b,oo,e1,e2,e3⟩:=hv;rw[h1]at e1;cases e1;obtain⟨l0,H1⟩:=ySs hx e2 (H.perm mu.symm);have H2:Hp k w (ow t 1 a l.length c sub::((av l.length).map (qA E.F T m iA l sub (ap i))++(FC E.F T m iA x y l0::((uG n s.rows).map (ie E)++fz E.F::L)))):=
  H1.perm ((mu.symm.trans (cp _ (.swap _ _ _))).trans mu)
 have H3:=(ZG h1 h2 h3 H2).swap;have H4:Hp k w (FC E.F T m iA x y l0::((rR n (.km t T m iA l (ap i)) s.rows).map (ie E)++fz E.F::L)):=by
  refine H3.cons ?_;have:=(((uH h).2 (.km t T m iA l (ap i))).map (ie E)).append_right (fz E.F::L);simpa using this.symm
 have H5:Hp k w ((rR n (.km t T m iA l (ap i)) s.rows).map (ie E)++(FC E.F T m iA x y l0::fz E.F::L)):=H4.perm mu.symm;have hle:E.le ⟨E.F,E.gl++[(y,l0)]⟩:=⟨yd.refl _,Kd _ _⟩
 have kq:(E.gl++[((y,l0):Hd)])[s.nx]? =ap (y,l0):=by rw[<- R.nx];simp
 have H6:=vD (λr x=>ie.mono hle r) H5;have H7:Hp k w (FC E.F T m iA x y l0::((rR n (.km t T m iA l (ap i)) s.rows).map (ie ⟨E.F,E.gl++[(y,l0)]⟩)++fz E.F::L)):=H6.perm mu;refine⟨⟨E.F,E.gl++[(y,l0)]⟩,hle,⟨by simp[St.new,St.set,R.nx],?_⟩,by simp only[VR];exact⟨b,oo,l0,by rw[kq,e3],e3⟩,l0,kq⟩;exact H7.imp λz hz=>z8k (E:=⟨E.F,E.gl++[(y,l0)]⟩) kq hz
def Rel.Js (R:Rel k L E s w) {n t i z:Nat} {T:Type} {m:Nat} {iA:T->Nat->fq} {l:List T} {x:T} (ha:s.get z=ap (.rk T m iA x)) (h:(s.del z).get n=ap (.km t T m iA l (ap i))) (hi:i<l.length)
 {y:aa} {l0:List aa} (hz:E.gl[z]? =ap (y,l0)) (hs:∀v sub,E.gl[n]? =ap (v,sub)->sub[i]? =ap y):Rel k L E ((s.del z).set n (.km t T m iA (l.set i x) aq)) w:=by
 have R1:=R.take ha;obtain⟨a,c,sub,h1,h2,h3,H⟩:=VJ R1 h;have hp:=hs _ _ h1;have H1:Hp k w (ie E (z,.rk T m iA x)::((av l.length).map (qA E.F T m iA l sub (ap i))++(ow t 1 a l.length c sub::((uG n (s.del z).rows).map (ie E)++fz E.F::L)))):=by
  refine H.perm ?_;have p1:((uG n (s.del z).rows).map (ie E)++fz E.F::ie E (z,.rk T m iA x)::L).Perm (ie E (z,.rk T m iA x)::((uG n (s.del z).rows).map (ie E)++fz E.F::L)):=
   (cp _ (.swap _ _ _)).trans mu
  refine(co _ ((cp _ p1).trans mu)).trans ((cr _ _ _).trans (co _ mu.symm))
 have H2:=yZq hi hp (H1.imp λq hq=>zOy hz hq);have H3:Hp k w (ie E (n,.km t T m iA (l.set i x) aq)::((uG n (s.del z).rows).map (ie E)++fz E.F::L)):=by
  refine ZG (a:=a) (c:=c) (sub:=sub) (by rw[qj];exact h1) (by rw[qj];exact h2) h3 ?_;rw[qj];exact H2.perm mu
 refine⟨by simpa[St.set,St.del]using R1.nx,H3.perm ?_⟩;have:=(((uH h).2 (.km t T m iA (l.set i x) aq)).map (ie E)).append_right (fz E.F::L);simpa[St.set]using this.symm
def zMh {rows:List (Nat×fq)} {nx t:Nat} {T:Type} {m:Nat} {iA:T->Nat->fq} {l:List T} {a:Option am} {c:Nat} {sub:List aa} (hn:E.gl.length=nx) (hl:sub.length=l.length) (hp:XR sub)
 (H:Hp k w (ow t 1 a l.length c sub::((av l.length).map (qA E.F T m iA l sub aq)++(rows.map (ie E)++fz E.F::L)))):
 ∃E',E.le E'/\Rel k L E' ⟨(nx,.km t T m iA l aq)::rows,nx+1⟩ w/\VR E' (.own nx) (.slice a l.length c):=by
 have hle:E.le ⟨E.F,E.gl++[(.slice a l.length c,sub)]⟩:=⟨yd.refl _,Kd _ _⟩
 have kq:(E.gl++[((.slice a l.length c,sub):Hd)])[nx]? =ap (.slice a l.length c,sub):=by rw[<- hn];simp
 refine⟨⟨E.F,E.gl++[(.slice a l.length c,sub)]⟩,hle,⟨by simp[hn],?_⟩,by simp only[VR];exact⟨sub,kq,_,_,_,rfl⟩⟩;have H0:Hp k w (rows.map (ie E)++(ow t 1 a l.length c sub::((av l.length).map (qA E.F T m iA l sub aq)++fz E.F::L))):=by
  refine H.perm ?_;refine(co _ ?_).trans mu.symm;rw[<- jd,<- jd];exact cq _ BC
 have H1:=vD (λr x=>ie.mono hle r) H0;have H2:Hp k w (ow t 1 a l.length c sub::((av l.length).map (qA E.F T m iA l sub aq)++(rows.map (ie ⟨E.F,E.gl++[(.slice a l.length c,sub)]⟩)++fz E.F::L))):=by
  refine H1.perm (mu.trans (co _ ?_));rw[<- jd,<- jd];exact cq _ BC
 exact ZG (E:=⟨E.F,E.gl++[(.slice a l.length c,sub)]⟩) kq hl hp H2
def py (k:Ko) (L:List HP) (E:Ev) (K:V->St->Prop) (y:aa) (w':af):Prop:=∃E' v s',E.le E'/\Rel k L E' s' w'/\VR E' v y/\K v s'
@[reducible] def BN:=FuncId->List V->St->(V->St->Prop)->Prop
def I7 (P:ab) (H:BN):Prop:=∀f args s K,H f args s K->∀(k:Ko) (L:List HP) (E:Ev) (w:af) (ys:List aa),Rel k L E s w->ic E args ys->nq P (callFunc f ys.toArray) w (py k L E K)
structure SlI where
 e:ac
 sz:Nat
 oF:Nat
 z:List D
def pS (P:ab) (t:ac):Option SlI:=
 match vY P t with
 |some (e,sz,oF,z)=>bif bc z.size sz && z.toList.all (·.ou)then ap ⟨e,sz,oF,FF P (P3 P 6 e) (z.toList.map .v)⟩else aq
 |none=>aq
def ySh {F:PH}:∀{l:List aa},(l.all (·.ou))=ar->iC F (l.map .v) l
 |[],_=>by simp[iC]
 |y::l,h=>by
  simp only[List.all_cons,lu]at h;simp only[jg,iC,DR];exact⟨y,l,rfl,⟨rfl,h.1⟩,ySh h.2⟩
def dZ {P:ab} {t:ac} {i:SlI} (h:pS P t=ap i):∃z,vY P t=ap (i.e,i.sz,i.oF,z)/\z.size=i.sz/\i.z.length=i.sz/\∀F,iC F i.z z.toList:=by
 unfold pS at h;split at h<;>first|(cases h;done)|skip
 rename_i e sz oF z hz;obtain⟨hb,h⟩:=pH h;cases h;simp only[lu]at hb;have h1:=ji hb.1;exact⟨z,hz,h1,by rw[zZc,ib,Kf,h1],λF=>Zv (ySh hb.2)⟩
def Oi {α:Type} (l:List α) (o:Nat) (vs:List α):List α:=l.take o++(vs++l.drop (o+vs.length))
def z7j {α:Type} {sz:Nat}:∀{fa:Q_ α} (i:Nat) (ds:List α),(∀el∈fa,el.length=sz)->i<fa.length->ds.length=sz->
 (fa.set i ds).flatten=Oi fa.flatten (i*sz) ds
 |[],i,ds,_,h,_=>by simp at h
 |el::fa,0,ds,hu,h,hd=>by
  simp only[OC,Bg,Oi,bg,EX,wy,nt];rw[hd,<- hu el iY,Ow]
 |el::fa,i+1,ds,hu,h,hd=>by
  have ih:=z7j (fa:=fa) i ds (λe he=>hu e (jj _ he)) (i9 h) hd;simp only[OB,Bg,Oi]at ih ⊢;rw[ih];have e1:=hu el iY;rw[Ad,FI (i*sz) sz,List.take_append,Me,e1];rw[ng (show el.length<=sz+i*sz by omega),show sz+i*sz-sz=i*sz by omega,IK (show el.length<=sz+i*sz+ds.length by omega),show sz+i*sz+ds.length-sz=i*sz+ds.length by omega];simp
def PK {F:PH} {ds es:List D} {l m:List aa} (h1:iC F ds l) (h2:iC F es m) (o:Nat):iC F (ds.take o++(es++ds.drop (o+es.length))) (lg l o m):=by
 unfold lg;rw[jd];have:=h2.length;rw[this];exact(h1.take o).append (h2.append (h1.drop _))
def Rp (P:ab) (e sz:Nat):St->List (Nat×V)->Q_ D->Option (Q_ D×St)
 |s,[],fa=>ap (fa,s)
 |s,(i,v)::ps,fa=>match I1 P s e v with
  |some (ds,s')=>bif bc ds.length sz && bo i fa.length then Rp P e sz s' ps (fa.set i ds)else aq
  |none=>aq
def yWt {α:Type} {sz:Nat} {fa:Q_ α} {i:Nat} {ds:List α} (hu:∀el∈fa,el.length=sz) (hd:ds.length=sz):∀el∈fa.set i ds,el.length=sz:=by
 intro el oT;rcases List.mem_or_eq_of_mem_set oT with h|rfl
 ·exact hu el h
 ·exact hd
def z7k {P:ab} {k:Ko} {L:List HP} {w:af} {e sz:Nat}:∀{ps:List (Nat×V)} {E:Ev} {s:St} (R:Rel k L E s w) {fa lq:Q_ D} {s':St} {qs:List (Nat×aa)} {cs:List aa},
 Rp P e sz s ps fa=ap (lq,s')->Ct E ps qs->(∀el∈fa,el.length=sz)->iC E.F fa.flatten cs->
 ∃E' CV,E.le E'/\E'.gl=E.gl/\Rel k L E' s' w/\s'.nx=s.nx/\(∀el∈lq,el.length=sz)/\lq.length=fa.length/\iC E'.F lq.flatten CV/\Instr.fill (λi=>ap (i*sz,sz)) cs.toArray qs=ap CV.toArray
 |[],E,s,R,fa,lq,s',qs,cs,h,hp,hu,hc=>by
  simp only[Rp,az,ct]at h;obtain⟨rfl,rfl⟩:=h;simp only[Ct]at hp;subst hp;exact⟨E,cs,Ev.le.refl _,rfl,R,rfl,hu,rfl,hc,rfl⟩
 |(i,v)::ps,E,s,R,fa,lq,s',qs,cs,h,hp,hu,hc=>by
  simp only[Rp]at h;simp only[Ct]at hp;obtain⟨y,qs,rfl,hv,hp⟩:=hp;split at h<;>first|(cases h;done)|skip
  rename_i ds s1 hd;obtain⟨hb,h⟩:=pH h;simp only[lu]at hb;have hlen:=ji hb.1;have hi:i<fa.length:=by simpa[yx]using hb.2
  obtain⟨E1,ys,q1,q2,q3,q4,q5,q6⟩:=NT R hd hv;have Yj:Ct E1 ps qs:=by
   have:∀{ps:List (Nat×V)} {qs:List (Nat×aa)},Ct E ps qs->Ct E1 ps qs:=by
    intro ps
    induction ps with
    |nil=>intro qs h;exact h
    |cons p ps ih=>obtain⟨i,v⟩:=p;intro qs h;obtain⟨y,ys,h1,h2,h3⟩:=h;exact⟨y,ys,h1,h2.mono q1,ih h3⟩
   exact this hp
  have CT:iC E1.F (fa.set i ds).flatten (lg cs (i*sz) ys):=by
   rw[z7j i ds hu hi hlen];exact PK (hc.mono q1.1) q6 (i*sz)
  obtain⟨E2,CV,r1,r2,r3,r4,r5,r6,r7,r8⟩:=z7k q3 h Yj (yWt hu hlen) CT;refine⟨E2,CV,q1.trans r1,r2.trans q2,r3,r4.trans q4,r5,by rw[r6,qj],r7,?_⟩;have DB:ys.length=sz:=by rw[q6.length,hlen]
  have xe:cs.length=fa.length*sz:=by rw[hc.length,wJ hu]
  have xd:i*sz+sz<=fa.length*sz:=by
   have:=xv sz (show i+1<=fa.length by omega);rwa [Ad]at this
  have aay:y.cells.size=sz:=by rw[q5,Kb,DB]
  have IZ:(decide (y.cells.size≠sz)||decide (i*sz+y.cells.size>cs.toArray.size))=au:=by
   rw[aay,Kb];simp;omega
  have Gq:y.cells.zipIdx.foldl (λ(cs:Array aa) (p:aa×Nat)=>cs.setIfInBounds (i*sz+p.2) p.1) cs.toArray=(lg cs (i*sz) ys).toArray:=by
   have hz:ys.toArray.zipIdx=(ys.zipIdx).toArray:=by
    apply cx;simp
   rw[q5,hz,List.foldl_toArray];rw[Zf (off:=i*sz) ys 0 cs X_];rfl
  simp only[Instr.fill];rw[eg (by rw[IZ];simp),Gq];exact r8
def WR {z:List aa}:∀n,(HE z.toArray (n*z.length)).toList=(aw n z).flatten
 |0=>by simp[HE]
 |n+1=>by
  have ih:=WR (z:=z) n;simp only[HE,Kb]at ih ⊢;rw[Ke,Bg,<- ih,Ad,FI,List.range_add,jh];congr 1
  ·apply Du;intro i;rw[ra];by_cases hi:i<z.length
   ·rw[Mh hi];simp only[wz,Nat.mod_eq_of_lt hi];rw[mz];rw[vl hi];rfl
   ·rw[uv (by simpa using Nat.not_lt.1 hi),uv (Nat.not_lt.1 hi)];rfl
  ·rw[wx];refine uk λj _=> ?_
   simp only[Function.comp,Nat.add_mod_left]
def z0r {F:PH} {ds:List D} {l:List aa} (h:iC F ds l):∀n,iC F (aw n ds).flatten (aw n l).flatten
 |0=>by simp[iC]
 |n+1=>by simp only[Ke,Bg];exact h.append (z0r h n)
def PU {α:Type} {ds:List α} {n sz:Nat} (h:ds.length=sz):∀el∈aw n ds,el.length=sz:=by
 intro el oT;rw[(List.mem_replicate.1 oT).2];exact h
def zJ (fa:Q_ D) (i f:Nat) (ds:List D):Q_ D:=fa.modify i λel=>el.take f++(ds++el.drop (f+ds.length))
def Xu:V->Bool
 | .top=>au
 | .agg _=>au
 | .je _=>au
 |_=>ar
def Ro:List V->Bool
 |[]=>ar
 |v::l=>bif Xu v then Ro l else au
def z8c {E:Ev}:∀{vs:List V} {l:List aa},Ro vs=ar->ic E vs l->∀y∈l,y.ou=ar
 |[],l,_,h=>by simp only[ic]at h;subst h;simp
 |v::vs,l,hb,h=>by
  simp only[ic]at h;obtain⟨x,xs,rfl,h1,h2⟩:=h;simp only[Ro]at hb;obtain⟨qk,np⟩:Xu v=ar/\Ro vs=ar:=by
   revert hb;generalize Xu v=b;cases b<;>simp
  intro y hy;rcases j'.1 hy with rfl|hy
  ·cases v<;>simp only[Xu,oS]at qk<;>simp only[VR]at h1
   ·rename_i d;exact iC.one (F:=E.F) (vs:=[d]) (l:=[y]) (by simp only[iC];exact⟨_,_,rfl,h1,rfl⟩) y (by simp)
   ·obtain⟨_,_,_,_,rfl⟩:=h1;rfl
   ·obtain⟨_,_,_,_,_,_,rfl⟩:=h1;rfl
   ·obtain⟨_,_,_,_,_,_,_,rfl,_⟩:=h1;rfl
   ·obtain⟨_,_,_,_,rfl⟩:=h1;rfl
   ·obtain⟨_,_,_,_,_,rfl⟩:=h1;rfl
   ·obtain⟨_,_,_,rfl⟩:=h1;rfl
   ·obtain⟨_,_,_,_,_,_,rfl⟩:=h1;rfl
   ·obtain⟨_,_,rfl,_⟩:=h1;rfl
   ·obtain⟨_,rfl,_⟩:=h1;rfl
  ·exact z8c np h2 y hy
def z1x (s:St) (sz:Nat):V->Option (Q_ D)
 | .d (.v (.slice aq 0 0))=>ap []
 | .d (.v (.string b))=>bif bc sz 1 then ap (j6 b)else aq
 |v=>match eU s v with
  |some (oD,fa)=>bif bc sz oD then ap fa else aq
  |none=>aq
def z3g (P:ab) (t1 t2:ac) (s:St) (x y:V) (K:V->St->Prop):Prop:=
 iF (pS P t1) λi=>bif LY P t2 && bo 0 i.oF then iF (z1x s i.sz y) λys=>
  match x with
  | .d (.v (.slice aq 0 0))=>ys.length*i.oF<=140737488355328/\K (.own s.nx) (s.new (.own i.e i.sz ys))
  | .own n=>match s.get n with
    |some (.own T sz fa)=>bif bc T i.e && bc sz i.sz then(fa.length+ys.length)*i.oF<=140737488355328/\K (.own s.nx) ((s.del n).new (.own i.e i.sz (fa++ys)))else False
    |_=>False
  |_=>False else False
def Xp:V->Bool
 | .agg l=> !(bc l.length 1)
 | .d _=>ar
 |_=>au
def NQ:List V->St->(List V->St->Prop)->Prop
 |[],s,K=>K [] s
 |v::l,s,K=>match v with
  | .d (.ro sz fa)=>NQ l (s.new (.kr sz fa)) λl' s'=>K (.own s.nx::l') s'
  |v=>NQ l s λl' s'=>K (v::l') s'
def Y6 (P:ab) (t1 t2:ac) (s:St) (x y:V) (K:V->St->Prop):Prop:=
 match y with
 | .own n2=>(match s.get n2 with
   |some (.km _ T2 m2 wk l2 aq)=>iF (pS P t1) λi=>bif LY P t2 && bo 0 i.oF && bc i.sz 1 then(match x with
    | .d (.v (.slice aq 0 0))=>l2.length*i.oF<=140737488355328/\K (.own s.nx) ((s.del n2).new (.km i.e T2 m2 wk l2 aq))
    | .own n=>(match(s.del n2).get n with
      |some (.km t1' T1 m1 S6 l1 aq)=>∃zk:List T2,fq.km t1' T1 m1 S6 l1 aq=fq.km i.e T2 m2 wk zk aq/\(zk.length+l2.length)*i.oF<=140737488355328/\K (.own s.nx) (((s.del n2).del n).new (.km i.e T2 m2 wk (zk++l2) aq))
      |_=>False)
    |_=>False)else False
   |_=>False)
 |_=>False
def yUt (s:St):V->Bool
 | .own n=>match LA s n with
   |some _=>ar
   |none=>au
 |_=>au
def y5g (n i a:Nat) (v:V) (s:St) (K:V->St->Prop):Prop:=
 match s.get a with
 |some o=>(match(s.del a).get n with
  |some (.km t T m iA l (ap j))=>∃x:T,o=.rk T m iA x/\j=i/\i<l.length/\K v ((s.del a).set n (.km t T m iA (l.set i x) aq))
  |_=>False)
 |none=>False
def yRu (H:BN) (f:FuncId) (args:List V) (s:St) (K:V->St->Prop):Prop:=
 match args with
 | .sub n i::rest=>(match s.get n with
   |some (.km t T m iA l aq)=>∃x:T,l[i]?=ap x/\H f (.nm s.nx 0::rest) ((s.set n (.km t T m iA l (ap i))).new (.rk T m iA x)) λv s'=>y5g n i s.nx v s' K
   |_=>False)
 |args=>H f args s K
def Xh (P:ab) (t:ac):Option ac:=
 match P.underlying t with
 |some (.slice e)=>(match P.underlying e with
  |some (.int .u8)=>ap e
  |_=>aq)
 |_=>aq
def zZm {P:ab} {t e:ac} (h:Xh P t=ap e):P.underlying t=ap (.slice e)/\P.underlying e=ap (.int .u8):=by
 unfold Xh at h;split at h<;>first|(cases h;done)|skip
 rename_i e' he;split at h<;>first|(cases h;done)|skip
 rename_i hu;cases h;exact⟨he,hu⟩
def z2k:List (Nat×V)->Option Nat
 |[(0,.nm m 0)]=>ap m
 |_=>aq
def ZD (P:ab) (t:ac) (x:qg) (n sz i f:Nat) (v:V) (s:St) (K:V->St->Prop):Prop:=
 bif bc sz x.sz then(match v,g8 P t with
  | .own c,ap _=>(match s.get c with
    |some (.own _ _ _)=>iF (rA P t) λm=>bif bc m 1 && !(bc n c)then(i<x.fa.length/\f<sz)/\(match x.q with
     |true=>(i=x.i/\f=x.f)/\K (.je []) (s.set n (.uq ar x.T sz x.fa x.i x.f ar (ap c)))
     |false=>(i=x.i->f=x.f->K (.je []) (s.set n (.uq au x.T sz x.fa x.i x.f ar (ap c))))/\(x.f<sz/\(¬(i=x.i/\f=x.f)->match I1 P s t (.own c)with
      |some (ds,s')=>(match nZ s' n with
       |some y=>bif bc ds.length 1 then y=x/\K (.je []) (s'.set n (.uq x.q x.T sz (zJ x.fa i f ds) x.i x.f x.b x.m))else False
       |none=>False)
      |none=>False)))else False
    |_=>False)
  |v,_=>(match I1 P s t v with
   |some (ds,s')=>(match nZ s' n with
    |some y=>iF (rA P t) λm=>bif bc ds.length m then(y=x/\i<x.fa.length/\f+m<=sz/\x.clear i f m)/\K (.je []) (s'.set n (.uq x.q x.T sz (zJ x.fa i f ds) x.i x.f x.b x.m))else False
    |none=>False)
   |none=>False))else False
def se (P:ab) (H:BN) (o:ak) (ρ:xG) (s:St) (K:V->St->Prop):Prop:=
 match o.op with
 | .alloc e=>iF (rB P e) λz=>bif JO (Dw z)then K (.nm s.nx 0) (s.new (.cells (Dw z).cl e))else False
 | .box e x=>bif JO (lz ρ x)then NQ (lz ρ x).cl s λvs s=>K (.nm s.nx 0) (s.new (.cells vs e))else False
 | .buildSlice t len ps=>match z2k (LD ρ ps.toList)with
   |some m=>(match s.get m with
    |some (.rk T mm iA x)=>iF (pS P t) λi=>bif bc i.sz 1 && bc len 1 then K (.own s.nx) ((s.del m).new (.km i.e T mm iA [x] aq))else False
    |_=>False)
   |none=>iF (pS P t) λi=>bif be (len*i.sz) 16777216 then match Rp P i.e i.sz s (LD ρ ps.toList) (aw len i.z)with
   |some (fa,s')=>K (.own s'.nx) (s'.new (.own i.e i.sz fa))
   |none=>False else False
 | .makeMap _ aq=>K (.mp s.nx) (s.new (.map []))
 | .makeSlice t l c=>match lz ρ l,lz ρ c with
   | .d (.v (.int _ l)),.d (.v (.int _ c))=>iF (pS P t) λi=>(0<=l/\l<=c/\c<=9223372036854775807/\(i.oF:Int)*c<=2 ^ 48)/\K (.own s.nx) (s.new (.own i.e i.sz (aw l.toNat i.z)))
   |_,_=>False
 | .store t x v=>match lz ρ x with
   | .nm n off=>bif JO (lz ρ v)then NQ (lz ρ v).cl s λus s=>match s.get n with
     |some (.cells vs T)=>iF (rA P t) λm=>bif bc us.length m && be (off+m) vs.length && Ro us then
       K (.je []) (s.set n (.cells (vs.take off++(us++vs.drop (off+m))) T))else False
     |_=>False
     else False
   | .el n sz i f=>match nZ s n with
     |some x=>ZD P t x n sz i f (lz ρ v) s K
     |none=>match I1 P s t (lz ρ v)with
     |some (ds,s')=>match s'.get n with
      |some (.own T oD fa)=>iF (rA P t) λm=>bif bc sz oD && bc ds.length m && be (f+m) sz then i<fa.length/\K (.je []) (s'.set n (.own T sz (zJ fa i f ds)))else False
      |some (.HS T fa)=>iF (rA P t) λm=>bif bc sz 1 && bc ds.length 1 && bc m 1 && bc f 0 then i<fa.length/\K (.je []) (s'.set n (.HS T (zJ fa i 0 ds)))else False
      |_=>False
     |none=>False
   | .na n off i=>match lz ρ v with
     | .d (.v u)=>(match s.get n with
       |some (.cells vs T)=>iF (rA P t) λm=>bif bc m 1 then i<(vs.drop off).length/\K (.je []) (s.set n (.cells (vs.take off++(vs.drop off).set i (.d (.v u))) T))else False
       |some (.vec ds T)=>iF (rA P t) λm=>bif bc m 1 then i<(ds.drop off).length/\K (.je []) (s.set n (.vec (ds.take off++(ds.drop off).set i (.v u)) T))else False
       |_=>False)
     |_=>False
   |_=>False
 | .slice t x lo hi aq=>match lz ρ x with
   | .own n=>match s.get n with
     |some (.own T sz fa)=>iF (g8 P t) λoD=>bif bc sz oD then EO (HA ρ lo) (HA ρ hi) λl h=>match l,h with
      |none,aq=>K (.own n) s
      |none,ap h=>(0<=h/\h<=fa.length)/\K (.own s.nx) ((s.del n).new (.own T sz (fa.take h.toNat)))
      |some l,h=>Oe sz fa (ap l) h λv=>K v (s.set n (.kr sz fa))else False
     |some (.kr sz fa)=>iF (g8 P t) λoD=>bif bc sz oD then EO (HA ρ lo) (HA ρ hi) λl h=>Oe sz fa l h λv=>K v s else False
     |_=>False
   |_=>False
 | .mapUpdate t x i v=>match lz ρ x with
   | .mp n=>iF (Hx P t) λke=>iF (Hw (lz ρ i)) λkv=>bif Oh P ke.1 kv && Xp (lz ρ v)then(match I1 P s ke.2 (lz ρ v)with
     |some (ds,s')=>(match s'.get n with
      |some (.map es)=>lF kv es/\K (.je []) (s'.set n (.map (gU kv ds es)))
      |_=>False)
     |none=>False)else False
   |_=>False
 | .mapEntry t x i=>match lz ρ x with
   | .mp n=>iF (Hx P t) λke=>iF (Hw (lz ρ i)) λkv=>bif Oh P ke.1 kv then iF (NO P ke.2) λz=>(match s.get n with
     |some (.map es)=>lF kv es/\∃b,FR P ke.2 λds=>LK es kv z ds b/\iF (HT P ke.2 ds) λv=>∀x:Int,K (.je [v,.d (.v (.int .i64 x))]) (s.set n (.C0 (gU kv ds es) kv x))
     |_=>False)else False
   |_=>False
 | .entryStore t x st v=>match lz ρ x with
   | .mp n=>(match lz ρ st with
     | .d (.v (.int _ b))=>iF (Hx P t) λke=>bif Xp (lz ρ v)then(match I1 P s ke.2 (lz ρ v)with
       |some (ds,s')=>(match s'.get n with
        |some (.C0 es kv b')=>b=b'/\lF kv es/\K (.je []) (s'.set n (.map (gU kv ds es)))
        |_=>False)
       |none=>False)else False
     |_=>False)
   |_=>False
 | .convert st d x=>match lz ρ x with
   | .d (.v (.string b))=>bif LF P st then iF (Xh P d) λe=>K (.own s.nx) (s.new (.HS e (j6 b)))else False
   | .own n=>match s.get n with
     |some (.own T sz fa)=>bif bc st d && bc sz 1 then iF (Xh P d) λe=>bif bc T e then 1<=fa.length/\K (.own n) (s.set n (.kr sz fa))else False else False
     |_=>False
   |_=>False
 | .range t x=>match lz ρ x with
   | .d (.v (.string b))=>bif LF P t then K (.nm s.nx 0) (s.new (.iter b 0))else False
   |_=>False
 | .next x ar=>match lz ρ x with
   | .nm n 0=>match s.get n with
     |some (.iter b pos)=>dp (bo pos b.size)
       (K (.je [.d (.v (.bool ar)),.d (.v (.int .i64 (pos:Nat))),.d (.v (.int .i32 (Utf8.decode b pos).1))]) (s.set n (.iter b (pos+(Utf8.decode b pos).2))))
       (K (.je [.d (.v (.bool au))]) s)
     |_=>False
   |_=>False
 | .call c=>match c.callee with
   | .value x=>match lz ρ x with
     | .fn f a b=>yRu H f (a++(DF ρ c.args.toList++b)) s K
     |_=>False
   | .builtin .append=>match c.argTypes.toList with
     |[t1,t2]=>match DF ρ c.args.toList with
      |[x,y]=>bif yUt s y then Y6 P t1 t2 s x y K else z3g P t1 t2 s x y K
      |_=>False
     |_=>False
   | .builtin .delete=>match DF ρ c.args.toList with
     |[.mp n,y]=>iF c.argTypes[0]? λt=>iF (Hx P t) λke=>iF (Hw y) λkv=>bif Oh P ke.1 kv then(match s.get n with
      |some (.map es)=>lF kv es/\K (.je []) (s.set n (.map (CI kv es)))
      |_=>False)else False
     |_=>False
   |_=>False
 |_=>False
def uX {P:ab} {w:af} {r:Nat} {O O':Obj} (h:w.heap[r]? =ap O') (hO:match O' with| .cells _ _ _=>False|_=>True):(setObj r O).run P w= .ok () (World.ja w r O):=by
 simp only[setObj,cd,h];cases O'<;>first|exact hO.elim|rfl
def mY {sz:Nat}:∀{fa:Q_ D} (i f:Nat) (ds:List D),(∀el∈fa,el.length=sz)->i<fa.length->f+ds.length<=sz->
 (zJ fa i f ds).flatten=Oi fa.flatten (i*sz+f) ds/\∀el∈zJ fa i f ds,el.length=sz
 |[],i,f,ds,_,h,_=>by simp at h
 |el::fa,0,f,ds,hu,h,hd=>by
  have e1:=hu el iY;constructor
  ·simp only[zJ,List.modify_zero_cons,Bg,Oi,bg,nt];rw[zi X_,HN X_];simp
  ·intro e he;simp only[zJ,List.modify_zero_cons,j']at he;rcases he with rfl|he
   ·simp only[ix,nr,pj];omega
   ·exact hu e (jj _ he)
 |el::fa,i+1,f,ds,hu,h,hd=>by
  have e1:=hu el iY;obtain⟨X8,X7⟩:=mY (fa:=fa) i f ds (λe he=>hu e (jj _ he)) (i9 h) hd;constructor
  ·simp only[zJ,RO,Bg,Oi]at X8 ⊢;rw[X8,Ad,List.take_append,Me,e1];rw[ng (show el.length<=i*sz+sz+f by omega),show i*sz+sz+f-sz=i*sz+f by omega,IK (show el.length<=i*sz+sz+f+ds.length by omega),show i*sz+sz+f+ds.length-sz=i*sz+f+ds.length by omega];simp
  ·intro e he;simp only[zJ,RO,j']at he X7;rcases he with rfl|he
   ·exact e1
   ·exact X7 e he
def zWh {P:ab} {w:af} {t b o:Nat} {v y:aa} {l:List aa} {T:ac} (hz:rA P t=ap 1) (hc:v.cells= #[y]) (ho:o<l.length) (h1:y.ou=ar)
 (hb:w.heap[b]? =ap (.cells l.toArray T (l.length,l.length+1))):HG P (storeVar t ⟨b,o,aq⟩ v) w (World.ja w b (.cells (l.set o y).toArray T (l.length,l.length+1))):=by
 have Uy:w.cell? ⟨b,o,aq⟩=ap l[o]:=by rw[Wa hb];exact vl ho
 have hf:w.frozen? ⟨b,o,aq⟩=au:=by
  simp only[World.frozen?,hb];simp;omega
 have qu:w.setCell ⟨b,o,aq⟩ y=World.ja w b (.cells (l.set o y).toArray T (l.length,l.length+1)):=by
  unfold World.setCell World.ja;congr 1;apply RK;intro i;rw[Array.getElem?_modify,RW];have gr:b<w.heap.size:=by
   rcases vh b w.heap.size with h|h
   ·exact h
   ·rw[HM h]at hb;cases hb
  by_cases hi:b=i
  ·subst hi;have np:w.heap[b]= .cells l.toArray T (l.length,l.length+1):=by rw[RU gr]at hb;exact ba hb
   simp[gr,np]
  ·simp[hi]
 have h0:(store ⟨b,o,aq⟩ y).run P w= .ok () (World.ja w b (.cells (l.set o y).toArray T (l.length,l.length+1))):=by
  unfold store;cases y<;>first|(cases h1;done)|(simp only[cd,Uy,hf,oS,if_false,qu])
 unfold rA at hz;split at hz<;>first|(cases hz;done)|skip
 rename_i i hi;have hz:i.size=1:=ba hz;unfold HG storeVar;simp only[bind,run_bind,run_sizeOf hi,hc,hz];simp only[Kb,iG,uj];have e:(storeCells ⟨b,o,aq⟩ [y] 0).run P w= .ok () (World.ja w b (.cells (l.set o y).toArray T (l.length,l.length+1))):=by
  unfold storeCells;simp only[bind,run_bind,uV,FJ,h0];unfold storeCells;rfl
 simpa using e
def gP {P:ab} {w:af} {t b o n:Nat} {v:aa} {l vs:List aa} {T:ac} (hz:rA P t=ap n) (hc:v.cells=vs.toArray) (hn:vs.length=n) (ho:o+n<=l.length) (h1:∀y∈vs,y.ou=ar)
 (hb:w.heap[b]? =ap (.cells l.toArray T)):HG P (storeVar t ⟨b,o,aq⟩ v) w (World.ja w b (.cells (lg l o vs).toArray T)):=by
 unfold rA at hz;split at hz<;>first|(cases hz;done)|skip
 rename_i i hi;cases hz;unfold HG storeVar;have:=vM (P:=P) vs 0 o l w hb X_ h1;simp only[FJ]at this;simp only[bind,run_bind,run_sizeOf hi,hc,Kb,hn];simpa using this
end Sx
