/- Texts of ours. No condition. -/
import Derived.Laws.Cover1
import Derived.Laws.StructEq
import Derived.MapKept
import Derived.Test.YtfmobncdogfbmaaGreatQ1
set_option linter.all false
open Go renaming Value->ab,Program->ac,TypeId->ae,execOp->af,World->ag,Operand->aj,MapEntry->ak,Oper->am,Addr->ao,IntKind->ap
open Option renaming some->aq,none->ar
open Bool renaming true->au,false->av
open List renaming range->aw,replicate->ax,take_take->ay,drop_take->az
open Option.some renaming injEq->ba,inj->bc
open Nat renaming beq->be,ble->bg,zero_mul->bo,blt->bu
open Go.Instr renaming findNow->bv,typeAssert->bz,lookup->cd
open Go.Sem renaming run->ce,bind->cf,pure->cg
open Go.Op renaming operands->cm,equalIn->co
open List.Perm renaming cons->cp,append_left->cq,append_right->cr,swap->ct
open Prod.mk renaming injEq->cu
open Go.Builtin renaming len_->cw,firstCells->cx
open Array renaming ext'->cy
namespace Sx
open Go Go.RowKit Cv
def ib.length {E:Ev}:∀{vs:List V} {l:List ab},ib E vs l->l.length=vs.length
 |[],l,h=>by simp only[ib]at h;subst h;rfl
 |v::vs,l,h=>by simp only[ib]at h;obtain⟨x,xs,rfl,h1,h2⟩:=h;simp[h2.length]
def ib.get {E:Ev}:∀{vs:List V} {l:List ab},ib E vs l->∀{i:Nat} {v:V},vs[i]? =aq v->∃y,l[i]? =aq y/\VR E v y
 |[],l,h,i,v,e=>by simp at e
 |v::vs,l,h,i,u,e=>by
  simp only[ib]at h;obtain⟨x,xs,rfl,h1,h2⟩:=h;cases i with
  |zero=>simp at e;subst e;exact⟨x,rfl,h1⟩
  |succ i=>simp at e ⊢;exact h2.get e
def ib.take {E:Ev}:∀{vs:List V} {l:List ab},ib E vs l->∀(n:Nat),ib E (vs.take n) (l.take n)
 |[],l,h,n=>by simp only[ib]at h;subst h;simp[ib]
 |v::vs,l,h,n=>by
  simp only[ib]at h;obtain⟨x,xs,rfl,h1,h2⟩:=h;cases n with
  |zero=>simp[ib]
  |succ n=>simp only[u',ib];exact⟨_,_,rfl,h1,h2.take n⟩
def ib.drop {E:Ev}:∀{vs:List V} {l:List ab},ib E vs l->∀(n:Nat),ib E (vs.drop n) (l.drop n)
 |[],l,h,n=>by simp only[ib]at h;subst h;simp[ib]
 |v::vs,l,h,n=>by
  have h0:=h;simp only[ib]at h;obtain⟨x,xs,rfl,h1,h2⟩:=h;cases n with
  |zero=>exact h0
  |succ n=>simp only[List.drop_succ_cons];exact h2.drop n
def ib.append {E:Ev}:∀{vs:List V} {l:List ab},ib E vs l->∀{us:List V} {m:List ab},ib E us m->ib E (vs++us) (l++m)
 |[],l,h,us,m,h'=>by simp only[ib]at h;subst h;exact h'
 |v::vs,l,h,us,m,h'=>by
  simp only[ib]at h;obtain⟨x,xs,rfl,h1,h2⟩:=h;simp only[uh,ib];exact⟨_,_,rfl,h1,h2.append h'⟩
def ib.one {E:Ev} {v:V} {y:ab} (h:VR E v y):ib E [v] [y]:=by simp only[ib];exact⟨_,_,rfl,h,rfl⟩
def ib.nil {E:Ev}:ib E [] []:=by simp only[ib]
def iB.length {F:PH}:∀{vs:List D} {l:List ab},iB F vs l->l.length=vs.length
 |[],l,h=>by simp only[iB]at h;subst h;rfl
 |v::vs,l,h=>by simp only[iB]at h;obtain⟨x,xs,rfl,h1,h2⟩:=h;simp[h2.length]
def iB.append {F:PH}:∀{vs:List D} {l:List ab},iB F vs l->∀{us:List D} {m:List ab},iB F us m->iB F (vs++us) (l++m)
 |[],l,h,us,m,h'=>by simp only[iB]at h;subst h;exact h'
 |v::vs,l,h,us,m,h'=>by
  simp only[iB]at h;obtain⟨x,xs,rfl,h1,h2⟩:=h;simp only[uh,iB];exact⟨_,_,rfl,h1,h2.append h'⟩
def iB.split {F:PH}:∀{vs us:List D} {l:List ab},iB F (vs++us) l->∃l1 l2,l=l1++l2/\iB F vs l1/\iB F us l2
 |[],us,l,h=>⟨[],l,rfl,by simp only[iB],h⟩
 |v::vs,us,l,h=>by
  simp only[uh,iB]at h;obtain⟨x,xs,rfl,h1,h2⟩:=h;obtain⟨l1,l2,rfl,h3,h4⟩:=h2.split;exact⟨x::l1,l2,rfl,by simp only[iB];exact⟨_,_,rfl,h1,h3⟩,h4⟩
def iB.take {F:PH}:∀{vs:List D} {l:List ab},iB F vs l->∀(n:Nat),iB F (vs.take n) (l.take n)
 |[],l,h,n=>by simp only[iB]at h;subst h;simp[iB]
 |v::vs,l,h,n=>by
  simp only[iB]at h;obtain⟨x,xs,rfl,h1,h2⟩:=h;cases n with
  |zero=>simp[iB]
  |succ n=>simp only[u',iB];exact⟨_,_,rfl,h1,h2.take n⟩
def iB.drop {F:PH}:∀{vs:List D} {l:List ab},iB F vs l->∀(n:Nat),iB F (vs.drop n) (l.drop n)
 |[],l,h,n=>by simp only[iB]at h;subst h;simp[iB]
 |v::vs,l,h,n=>by
  have h0:=h;simp only[iB]at h;obtain⟨x,xs,rfl,h1,h2⟩:=h;cases n with
  |zero=>exact h0
  |succ n=>simp only[List.drop_succ_cons];exact h2.drop n
def iB.one {F:PH}:∀{vs:List D} {l:List ab},iB F vs l->∀v∈l,v.oq=au
 |[],l,h=>by simp only[iB]at h;subst h;simp
 |v::vs,l,h=>by
  simp only[iB]at h;obtain⟨x,xs,rfl,h1,h2⟩:=h;intro u hu;rcases jx.1 hu with rfl|hu
  ·cases v with
   |v y=>simp only[DR]at h1;rw[h1.1];exact h1.2
   |ro sz fa=>simp only[DR]at h1;obtain⟨a,c,rfl,_⟩:=h1;rfl
  ·exact h2.one u hu
def iB.get {F:PH}:∀{vs:List D} {l:List ab},iB F vs l->∀{i:Nat} {v:D},vs[i]? =aq v->∃y,l[i]? =aq y/\DR F v y
 |[],l,h,i,v,e=>by simp at e
 |v::vs,l,h,i,u,e=>by
  simp only[iB]at h;obtain⟨x,xs,rfl,h1,h2⟩:=h;cases i with
  |zero=>simp at e;subst e;exact⟨x,rfl,h1⟩
  |succ i=>simp at e ⊢;exact h2.get e
def iB.Ow {E:Ev}:∀{vs:List D} {l:List ab},iB E.F vs l->ib E (vs.map .d) l
 |[],l,h=>by simp only[iB]at h;subst h;simp[ib]
 |v::vs,l,h=>by
  simp only[iB]at h;obtain⟨x,xs,rfl,h1,h2⟩:=h;simp only[jf,ib,VR];exact⟨_,_,rfl,h1,h2.Ow⟩
def oW {F:PH}:∀{fa:Q_ D} {l:List ab},BJ F fa l↔∃xs r,l=xs++r/\iB F fa.flatten xs
 |[],l=>by simp only[BJ,List.flatten_nil,true_iff,iB];exact⟨[],l,rfl,rfl⟩
 |el::fa,l=>by
  simp only[BJ,A9];constructor
  ·rintro⟨l1,l2,rfl,h1,h2⟩;obtain⟨xs,r,rfl,h3⟩:=oW.1 h2;exact⟨l1++xs,r,by simp,h1.append h3⟩
  ·rintro⟨xs,r,rfl,h⟩;obtain⟨l1,l2,rfl,h1,h2⟩:=h.split;exact⟨l1,l2++r,by simp,h1,oW.2 ⟨l2,r,rfl,h2⟩⟩
def wE {α:Type} {sz:Nat}:∀{fa:Q_ α},(∀el∈fa,el.length=sz)->fa.flatten.length=fa.length*sz
 |[],_=>by simp
 |el::fa,h=>by
  rw[A9,iv,h el iX,wE (λe he=>h e (ji _ he)),iF,zr];omega
def sG {α:Type} {sz:Nat}:∀{fa:Q_ α} (i:Nat),(∀el∈fa,el.length=sz)->fa.flatten.drop (i*sz)=(fa.drop i).flatten
 |[],i,_=>by simp
 |el::fa,0,h=>by simp
 |el::fa,i+1,h=>by
  rw[A9,List.drop_succ_cons,<- sG i (λe he=>h e (ji _ he)),zr,HA,<- Dl];rw[show(el++fa.flatten).drop sz=fa.flatten by rw[<- h el iX,Oe]]
def rY {α:Type} {sz:Nat}:∀{fa:Q_ α} (i:Nat),(∀el∈fa,el.length=sz)->fa.flatten.take (i*sz)=(fa.take i).flatten
 |[],i,_=>by simp
 |el::fa,0,h=>by simp
 |el::fa,i+1,h=>by
  rw[A9,u',A9,<- rY i (λe he=>h e (ji _ he)),zr,HA,List.take_append,h el iX];simp[h el iX];rw[mz (by rw[h el iX];omega)]
def ZN {α:Type} {sz:Nat} {fa:Q_ α} {i f n:Nat} {el:List α} (h:∀el∈fa,el.length=sz) (hi:fa[i]? =aq el) (hf:f+n<=sz):(fa.flatten.drop (i*sz+f)).take n=(el.drop f).take n:=by
 have hm:=lh hi;have gu:i<fa.length:=(jm.1 hi).1;rw[<- Dl,sG i h];have:fa.drop i=el::fa.drop (i+1):=by
  rw[CH gu];congr 1;exact(jm.1 hi).2
 rw[this,A9,HI (by rw[h el hm];omega),yp (by rw[pd,h el hm];omega)]
def okc:ab->Bool
 | .agg cs=>cs.toList.all (·.oq)
 | .tuple cs=>cs.toList.all (·.oq)
 |_=>au
def Dq (x:ab):V:=
 bif okc x then(match x with
 | .agg cs=> .agg (cs.toList.map λy=> .d (.v y))
 | .tuple cs=> .je (cs.toList.map λy=> .d (.v y))
 |x=> .d (.v x))else .top
def yMs {E:Ev}:∀{l:List ab},(l.all (·.oq))=au->ib E (l.map λy=> .d (.v y)) l
 |[],_=>by simp[ib]
 |y::l,h=>by
  simp only[List.all_cons,lr]at h;simp only[jf,ib,VR,DR];exact⟨y,l,rfl,⟨rfl,h.1⟩,yMs h.2⟩
def Pl (E:Ev) (x:ab):VR E (Dq x) x:=by
 unfold Dq;cases h:okc x
 ·simp[VR]
 ·cases x<;>simp only[cond_true,VR,DR]<;>first|exact⟨rfl,rfl⟩|exact⟨trivial,rfl⟩|(rename_i cs;exact⟨cs.toList,by simp,yMs h⟩)
@[reducible] def xF:=Nat->V
def ma (ρ:xF):aj->V
 | .tmp t=>ρ t
 | .const x=>Dq x
 | .func f=> .fn f [] []
 | .global _=> .top
def Bp (ρ:xF):Option Nat->V->xF
 |none,_=>ρ
 |some d,v=>λi=>bif be i d then v else ρ i
def lj (E:Ev) (ρS:xF) (ρ:Env):Prop:=∀t,VR E (ρS t) (ρ t)
def lj.ev {E:Ev} {ρS:xF} {ρ:Env} (h:lj E ρS ρ) (x:aj):VR E (ma ρS x) (ev ρ x):=by
 cases x with
 |tmp t=>exact h t
 |const v=>exact Pl E v
 |func f=>simp only[ma,Cv.ev,VR];exact⟨[],[],rfl,ib.nil,ib.nil⟩
 |global g=>simp only[ma,VR]
def lj.put {E:Ev} {ρS:xF} {ρ:Env} (h:lj E ρS ρ) (d:Option Nat) {v:V} {y:ab} (hv:VR E v y):lj E (Bp ρS d v) (Cv.put ρ d y):=by
 cases d with
 |none=>exact h
 |some d=>
  intro t;simp only[Bp,Cv.put];cases be t d
  ·exact h t
  ·exact hv
def lj.mono {E E':Ev} (h:E.le E') {ρS:xF} {ρ:Env} (e:lj E ρS ρ):lj E' ρS ρ:=λt=>(e t).mono h
def DA (ρ:xF):List aj->List V
 |[]=>[]
 |x::l=>ma ρ x::DA ρ l
def yMw {E:Ev} {ρS:xF} {ρ:Env} (h:lj E ρS ρ):∀(l:List aj),ib E (DA ρS l) (l.map (ev ρ))
 |[]=>by simp[DA,ib]
 |x::l=>by simp only[DA,jf,ib];exact⟨_,_,rfl,h.ev x,yMw h l⟩
def mD {E:Ev} {ρS:xF} {ρ:Env} (h:lj E ρS ρ) (l:Array aj):∃ys:List ab,l.map (ev ρ)=ys.toArray/\ib E (DA ρS l.toList) ys:=
 ⟨l.toList.map (ev ρ),by apply cy;simp,yMw h _⟩
def P6:List V->Option (List ab)
 |[]=>aq []
 | .d (.v x)::l=>match P6 l with
   |some r=>aq (x::r)
   |none=>ar
 |_::_=>ar
def Hr:V->Option ab
 | .d (.v x)=>aq x
 | .agg l=>match P6 l with
   |some r=>aq (.agg r.toArray)
   |none=>ar
 | .fn f [] []=>aq (.func (.func f) #[] #[])
 |_=>ar
def z6e {E:Ev}:∀{l:List V} {r ys:List ab},P6 l=aq r->ib E l ys->ys=r
 |[],r,ys,h,e=>by simp only[P6,ba]at h;subst h;simpa only[ib]using e
 |v::l,r,ys,h,e=>by
  simp only[ib]at e;obtain⟨x,xs,rfl,h1,h2⟩:=e;unfold P6 at h;split at h
  ·rename_i heq;cases heq
  ·rename_i x' l' heq;cases heq;simp only[VR,DR]at h1;split at h<;>first|(cases h;done)|skip
   rename_i r' hr;cases h;rw[h1.1,z6e hr h2]
  ·cases h
def lX {E:Ev} {v:V} {x y:ab} (h:Hr v=aq x) (e:VR E v y):y=x:=by
 unfold Hr at h;split at h
 ·cases h;simp only[VR,DR]at e;exact e.1
 ·rename_i l;split at h<;>first|(cases h;done)|skip
  rename_i r hr;cases h;simp only[VR]at e;obtain⟨ys,rfl,h2⟩:=e;rw[z6e hr h2]
 ·cases h;simp only[VR]at e;obtain⟨as,bs,rfl,h2,h3⟩:=e;simp only[ib]at h2 h3;subst h2 h3;rfl
 ·cases h
def XR (ρ:xF):aj->Bool
 | .tmp t=>match Hr (ρ t)with
   |some _=>au
   |none=>av
 |_=>au
def Xa (ρ:xF):List aj->Bool
 |[]=>au
 |x::l=>bif XR ρ x then Xa ρ l else av
def W2 (ρ:xF):Env:=λt=>match Hr (ρ t)with
 |some x=>x
 |none=>undef
def y8o {E:Ev} {ρS:xF} {ρ:Env} (h:lj E ρS ρ) {x:aj} (hl:XR ρS x=au):ev (W2 ρS) x=ev ρ x:=by
 cases x with
 |tmp t=>
  simp only[XR]at hl;split at hl<;>first|(cases hl;done)|skip
  rename_i y hy;simp only[Cv.ev,W2,hy];exact(lX hy (h t)).symm
 |_=>rfl
def yHk {E:Ev} {ρS:xF} {ρ:Env} (h:lj E ρS ρ):∀{l:List aj},Xa ρS l=au->∀x∈l,ev (W2 ρS) x=ev ρ x
 |[],_,x,hx=>by cases hx
 |y::l,hl,x,hx=>by
  simp only[Xa]at hl;cases hy:XR ρS y with
  |false=>rw[hy]at hl;cases hl
  |true=>
   rw[hy]at hl;rcases jx.1 hx with rfl|hx
   ·exact y8o h hy
   ·exact yHk h hl x hx
def PG:Op->Bool
 | .binOp _ _ _ _ _=>au
 | .unOp _ _ _=>au
 | .convert _ _ _=>au
 | .index _ _ _=>au
 | .nilCheck _=>au
 | .slice _ _ _ _ ar=>au
 | .call {callee:= .builtin _,..}=>au
 |_=>av
def yKd {ρ ρ':Env} {o:am} (hp:PG o.op=au) (h:∀x∈o.op.operands.toList,ev ρ x=ev ρ' x):af (ev ρ) o=af (ev ρ') o:=by
 obtain⟨dst,op,ty,pos,after,gd⟩:=o;cases op<;>simp only[PG,oR]at hp
 case binOp a b x y c=>simp only[cm,jx,FH,or_false,forall_eq_or_imp,forall_eq]at h;simp only[af,h]
 case unOp a b x=>simp only[cm,jx,FH,or_false,forall_eq]at h;simp only[af,h]
 case convert a b x=>simp only[cm,jx,FH,or_false,forall_eq]at h;simp only[af,h]
 case index a x y=>simp only[cm,jx,FH,or_false,forall_eq_or_imp,forall_eq]at h;simp only[af,h]
 case nilCheck x=>simp only[cm,jx,FH,or_false,forall_eq]at h;simp only[af,h]
 case slice a x lo hi mx=>
  cases mx with
  |some m=>simp[PG]at hp
  |none=>
   have hl:lo.map (ev ρ)=lo.map (ev ρ'):=by
    cases lo with
    |none=>rfl
    |some z=>simp only[wg];rw[h z (by simp[cm])]
   have hh:hi.map (ev ρ)=hi.map (ev ρ'):=by
    cases hi with
    |none=>rfl
    |some z=>simp only[wg];rw[h z (by simp[cm])]
   simp only[af,hl,hh,h x (by simp[cm])];rfl
 case call c=>
  obtain⟨callee,args,ats⟩:=c;cases callee<;>simp only[PG,oR]at hp
  have ha:args.map (ev ρ)=args.map (ev ρ'):=by
   apply Array.map_congr_left;intro x hx;exact h x (by simp[cm,Call.operands,hx])
  simp only[af,resolve,ha]
def LP (P:ac) (t:ae) (x y:ab):Option Bool:=
 match P.underlying t with
 |some (.int _)=>match x with
  | .int k a=>match y with
    | .int k' b=>bif xd k k' then aq (a==b)else ar
    |_=>ar
  |_=>ar
 |some .string=>match x with
  | .string a=>match y with
    | .string b=>aq (a==b)
    |_=>ar
  |_=>ar
 |some .bool=>match x with
  | .bool a=>match y with
    | .bool b=>aq (a==b)
    |_=>ar
  |_=>ar
 |_=>ar
def Lx (P:ac) (xs ys:List ab):List Field->Option Bool
 |[]=>aq au
 | f :: fs => bif f.name == "_" then none else match xs[f.offset]?, ys[f.offset]? with
   |some x,aq y=>match LP P f.type x y with
    |some a=>match Lx P xs ys fs with
     |some b=>aq (a && b)
     |none=>ar
    |none=>ar
   |_,_=>ar
def XA (P:ac) (f:Field) (xs ys:List ab):Option Bool:=
 match P.underlying f.type with
 |some (.struct gs)=>match EO P f.type with
  |some n=>bif P.stoodInHeld f.type then ar else Lx P ((xs.drop f.offset).take n) ((ys.drop f.offset).take n) gs.toList
  |none=>ar
 |_=>match xs[f.offset]?,ys[f.offset]? with
  |some x,aq y=>LP P f.type x y
  |_,_=>ar
def Ny (P:ac) (xs ys:List ab):List Field->Option Bool
 |[]=>aq au
 | f :: fs => bif f.name == "_" then none else match XA P f xs ys with
   |some a=>match Ny P xs ys fs with
    |some b=>aq (a && b)
    |none=>ar
   |none=>ar
def yNa (P:ac) (t:ae) (xs ys:List ab):Option Bool:=
 match P.underlying t with
 |some (.struct fs)=>bif P.stoodInHeld t then ar else Ny P xs ys fs.toList
 |_=>ar
def VU {P:ac} {t:ae} {x y:ab} {b:Bool} (h:LP P t x y=aq b):Cz P t=au:=by
 unfold LP at h;unfold Cz;split at h<;>first|(cases h;done)|skip
 all_goals(rename_i he;rw[he])
def z3r {P:ac} {t:ae} {x y:ab} {b:Bool} {d:Nat} (h:LP P t x y=aq b) (w:ag):(co (d+1) t x y).run P w= .ok b w:=by
 unfold LP at h;split at h<;>first|(cases h;done)|skip
 all_goals
  rename_i he;split at h<;>first|(cases h;done)|skip
  split at h<;>first|(cases h;done)|skip
  unfold co;simp only[bind,pure,run_bind,Cv.run_underlying he]
 ·obtain⟨hk,hb⟩:=y4 h;clear h;have:=zWl hk;subst this;cases hb;simp only[if_true,ce]
 ·cases h;rfl
 ·cases h;rfl
def VK {P:ac} {t off:Nat} {cs:List ab} {v:ab} (hs:Cz P t=au) (h:cs[off]? =aq v) (w:ag):(part t cs.toArray off).run P w= .ok v w:=by
 unfold part;have:cs.toArray[off]? =aq v:=by simp[h]
 simp only[bind,run_bind,nB hs w,oR,if_false,this];rfl
def zYl {P:ac} (w:ag) {xs ys:List ab} {σ:Type} {s0:σ} {fin:σ} {F:Field->σ->Sem (ForInStep σ)}
 (hF : ∀ f x y b, (f.name == "_") = false -> xs[f.offset]? = some x -> ys[f.offset]? = some y -> LP P f.type x y = some b -> (F f s0).run P w = .ok (if b then .yield s0 else .done fin) w) :
 ∀{fs:List Field} {b:Bool},Lx P xs ys fs=aq b->((forIn fs s0 F):Sem σ).run P w= .ok (if b then s0 else fin) w
 |[],b,h=>by
  simp only[Lx,ba]at h;subst h;rfl
 |f::fs,b,h=>by
  simp only[Lx]at h;have hn : (f.name == "_") = false := by
   cases hb : (f.name == "_")
   ·rfl
   ·rw[hb]at h;cases h
  rw[hn]at h;simp only[cond_false]at h;split at h<;>first|(cases h;done)|skip
  rename_i x y hx hy;split at h<;>first|(cases h;done)|skip
  rename_i a ha;split at h<;>first|(cases h;done)|skip
  rename_i b' hb;cases h;have h1:=hF f x y a hn hx hy ha;have ih:=zYl (P:=P) w hF hb;simp only[List.forIn_cons,bind,run_bind,h1];cases a
  ·rfl
  ·simpa using ih
def zZz {P:ac} {t:ae} {fs:Array Field} {xs ys:List ab} {b:Bool} {d:Nat} (xv:P.underlying t=aq (.struct fs)) (lp:P.stoodInHeld t=av) (h:Lx P xs ys fs.toList=aq b) (w:ag):
 (co (d+2) t (.agg xs.toArray) (.agg ys.toArray)).run P w= .ok b w:=by
 unfold co;simp only[bind,pure,run_bind,Cv.run_underlying xv,program,ce,cf,lp,oR,if_false];rw[<- Array.forIn_toList];have := zYl (P := P) (xs := xs) (ys := ys) w (σ := Option Bool × Unit) (s0 := (none, ())) (fin := (some false, ())) (F := λf __s => if f.name ≠ "_" then
  (part f.type xs.toArray f.offset).bind λx=>(part f.type ys.toArray f.offset).bind λy=>(co (d+1) f.type x y).bind λc=>
    if(!c)=au then cg (ForInStep.done (aq av,()))else cg (ForInStep.yield (ar,()))
  else cg (ForInStep.yield (ar,()))) (by
  intro f x y c hn hx hy hc;have jy : f.name ≠ "_" := by simpa using hn
  simp only[jy,ne_eq,not_false_eq_true,if_true,run_bind,VK (VU hc) hx,VK (VU hc) hy,z3r (d:=d) hc];cases c<;>rfl) h
 rw[this];cases b<;>rfl
def zIy {P:ac} {t off n:Nat} {cs:List ab} (hs:EO P t=aq n) (w:ag):(part t cs.toArray off).run P w= .ok (.agg ((cs.drop off).take n).toArray) w:=by
 obtain⟨h1,h2⟩:=aC hs w;unfold part;have e:cs.toArray.extract off (off+n)=((cs.drop off).take n).toArray:=by
  rw[List.extract_toArray,List.extract_eq_take_drop];simp
 simp only[bind,pure,run_bind,h1,if_true,h2,ce,e]
def zQu {P:ac} (w:ag) {xs ys:List ab} {σ:Type} {s0:σ} {fin:σ} {F:Field->σ->Sem (ForInStep σ)}
 (hF : ∀ f b, (f.name == "_") = false -> XA P f xs ys = some b -> (F f s0).run P w = .ok (if b then .yield s0 else .done fin) w) :
 ∀{fs:List Field} {b:Bool},Ny P xs ys fs=aq b->((forIn fs s0 F):Sem σ).run P w= .ok (if b then s0 else fin) w
 |[],b,h=>by
  simp only[Ny,ba]at h;subst h;rfl
 |f::fs,b,h=>by
  simp only[Ny]at h;have hn : (f.name == "_") = false := by
   cases hb : (f.name == "_")
   ·rfl
   ·rw[hb]at h;cases h
  rw[hn]at h;simp only[cond_false]at h;split at h<;>first|(cases h;done)|skip
  rename_i a ha;split at h<;>first|(cases h;done)|skip
  rename_i b' hb;cases h;have h1:=hF f a hn ha;have ih:=zQu (P:=P) w hF hb;simp only[List.forIn_cons,bind,run_bind,h1];cases a
  ·rfl
  ·simpa using ih
def ySt {P:ac} {f:Field} {xs ys:List ab} {b:Bool} (h:XA P f xs ys=aq b) (w:ag):
 ∃x y,(part f.type xs.toArray f.offset).run P w= .ok x w/\(part f.type ys.toArray f.offset).run P w= .ok y w/\(co 9999 f.type x y).run P w= .ok b w:=by
 unfold XA at h;split at h
 ·rename_i gs hgs;split at h<;>first|(cases h;done)|skip
  rename_i n hn;have lp:P.stoodInHeld f.type=av/\Lx P ((xs.drop f.offset).take n) ((ys.drop f.offset).take n) gs.toList=aq b:=by
   revert h;cases P.stoodInHeld f.type<;>intro h
   ·exact⟨rfl,h⟩
   ·cases h
  exact⟨_,_,zIy hn w,zIy hn w,zZz (d:=9997) hgs lp.1 lp.2 w⟩
 ·split at h<;>first|(cases h;done)|skip
  rename_i x y hx hy;exact⟨x,y,VK (VU h) hx w,VK (VU h) hy w,z3r (d:=9998) h w⟩
def yLo {P:ac} {t:ae} {xs ys:List ab} {b:Bool} (h:yNa P t xs ys=aq b) (w:ag):(Op.equal t (.agg xs.toArray) (.agg ys.toArray)).run P w= .ok b w:=by
 unfold yNa at h;split at h<;>first|(cases h;done)|skip
 rename_i fs xv;have lp:P.stoodInHeld t=av/\Ny P xs ys fs.toList=aq b:=by
  revert h;cases P.stoodInHeld t<;>intro h
  ·exact⟨rfl,h⟩
  ·cases h
 rw[nG];unfold co;simp only[bind,pure,run_bind,Cv.run_underlying xv,program,ce,cf,lp.1,oR,if_false];rw[<- Array.forIn_toList];have := zQu (P := P) (xs := xs) (ys := ys) w (σ := Option Bool × Unit) (s0 := (none, ())) (fin := (some false, ())) (F := λf __s => if f.name ≠ "_" then
  (part f.type xs.toArray f.offset).bind λx=>(part f.type ys.toArray f.offset).bind λy=>(co 9999 f.type x y).bind λc=>
    if(!c)=au then cg (ForInStep.done (aq av,()))else cg (ForInStep.yield (ar,()))
  else cg (ForInStep.yield (ar,()))) (by
  intro f c hn hc;have jy : f.name ≠ "_" := by simpa using hn
  obtain⟨x,y,r1,r2,r3⟩:=ySt hc w;simp only[jy,ne_eq,not_false_eq_true,if_true,run_bind,r1,r2,r3];cases c<;>rfl) lp.2
 rw[this];cases b<;>rfl
def V.cl:V->List V
 | .agg l=>l
 |v=>[v]
def Xd (P:ac) (t:ae) (cs:List V) (off:Nat):Option V:=
 match EO P t with
 |some sz=>aq (.agg ((cs.drop off).take sz))
 |none=>bif Cz P t then cs[off]? else ar
def iD {α:Type} (x:Option α) (K:α->Prop):Prop:=
 match x with
 |some v=>K v
 |none=>False
def zN {α:Type} {x:Option α} {K:α->Prop} (h:iD x K):∃v,x=aq v/\K v:=by
 cases x with
 |none=>exact h.elim
 |some v=>exact⟨v,rfl,h⟩
def zOq {P:ac} {E:Ev} {t:ae} {cs:List V} {ys:List ab} {off:Nat} {v:V} (hr:ib E cs ys) (h:Xd P t cs off=aq v):∃y,VR E v y/\∀w,(part t ys.toArray off).run P w= .ok y w:=by
 unfold Xd at h;split at h
 ·rename_i sz hs;simp only[ba]at h;subst h;refine⟨.agg ((ys.drop off).take sz).toArray,?_,λw=> ?_⟩
  ·simp only[VR];exact⟨_,rfl,(hr.drop off).take sz⟩
  obtain⟨h1,h2⟩:=aC hs w;unfold part;simp only[bind,run_bind,h1,h2,if_true,pure,ce];congr 3;simp[List.extract_eq_take_drop]
 ·rename_i hs;obtain⟨hb,h⟩:=y4 h;obtain⟨y,h1,h2⟩:=hr.get h;refine⟨y,h2,λw=> ?_⟩;unfold part;have:ys.toArray[off]? =aq y:=by simp[h1]
  simp only[bind,run_bind,nB hb w,oR,if_false,this];rfl
def NC (place:Nat->Option (Nat×Nat)):List (Nat×V)->List V->Option (List V)
 |[],cs=>aq cs
 |(i,v)::rest,cs=>
  match place i with
  |none=>ar
  |some (off,size)=>bif be v.cl.length size && bg (off+size) cs.length then NC place rest (cs.take off++(v.cl++cs.drop (off+size)))else ar
def Cr (E:Ev):List (Nat×V)->List (Nat×ab)->Prop
 |[],l=>l=[]
 |(i,v)::ps,l=>∃y ys,l=(i,y)::ys/\VR E v y/\Cr E ps ys
def JF:V->Bool
 | .top=>av
 |_=>au
def VR.cells {E:Ev} {v:V} {y:ab} (ht:JF v=au) (h:VR E v y):∃l,y.cells=l.toArray/\ib E v.cl l:=by
 cases v
 case agg l=>simp only[VR]at h;obtain⟨ys,rfl,h⟩:=h;exact⟨ys,rfl,h⟩
 case top=>cases ht
 case d x=>
  have h0:=h;simp only[VR]at h;refine⟨[y],?_,ib.one h0⟩;cases x with
  |v x=>simp only[DR]at h;obtain⟨rfl,h⟩:=h;cases y<;>first|rfl|cases h
  |ro sz fa=>simp only[DR]at h;obtain⟨a,c,rfl,_⟩:=h;rfl
 case nm n o=>have h0:=h;simp only[VR]at h;obtain⟨b,oo,l,h1,rfl⟩:=h;exact⟨[_],rfl,ib.one h0⟩
 case el n sz i f=>have h0:=h;simp only[VR]at h;obtain⟨b,oo,m,c,l,h1,rfl⟩:=h;exact⟨[_],rfl,ib.one h0⟩
 case re sz fa i f=>have h0:=h;simp only[VR]at h;obtain⟨_,_,b,o,l,T,fr,rfl,_⟩:=h;exact⟨[_],rfl,ib.one h0⟩
 case na n o i=>have h0:=h;simp only[VR]at h;obtain⟨b,oo,l,h1,rfl⟩:=h;exact⟨[_],rfl,ib.one h0⟩
 case own n=>have h0:=h;simp only[VR]at h;obtain⟨l,h1,a,m,c,rfl⟩:=h;exact⟨[_],rfl,ib.one h0⟩
 case mp n=>have h0:=h;simp only[VR]at h;obtain⟨b,l,h1,rfl⟩:=h;exact⟨[_],rfl,ib.one h0⟩
 case sub n i=>have h0:=h;simp only[VR]at h;obtain⟨hd,l,b,oo,h1,h2,rfl⟩:=h;exact⟨[_],rfl,ib.one h0⟩
 case je l=>have h0:=h;simp only[VR]at h;obtain⟨ys,rfl,h⟩:=h;exact⟨[_],rfl,ib.one h0⟩
 case fn f a b=>have h0:=h;simp only[VR]at h;obtain⟨as,bs,rfl,h⟩:=h;exact⟨[_],rfl,ib.one h0⟩
 case zy t x=>have h0:=h;simp only[VR]at h;obtain⟨z,rfl,h⟩:=h;exact⟨[_],rfl,ib.one h0⟩
def Xr:List (Nat×V)->Bool
 |[]=>au
 |p::l=>bif JF p.2 then Xr l else av
def zBs {E:Ev} {place:Nat->Option (Nat×Nat)}:∀{ps:List (Nat×V)} {cs r:List V} {qs:List (Nat×ab)} {ys:List ab},Xr ps=au->NC place ps cs=aq r->Cr E ps qs->ib E cs ys->
 ∃zs,Instr.fill place ys.toArray qs=aq zs.toArray/\ib E r zs
 |[],cs,r,qs,ys,_,h,hp,hc=>by
  simp only[NC,ba]at h;simp only[Cr]at hp;subst h hp;exact⟨ys,rfl,hc⟩
 |(i,v)::ps,cs,r,qs,ys,ht,h,hp,hc=>by
  simp only[NC]at h;simp only[Cr]at hp;obtain⟨y,qs,rfl,hv,hp⟩:=hp;simp only[Xr]at ht;cases X9:JF v<;>rw[X9]at ht<;>simp only[cond_false,cond_true,oR]at ht
  obtain⟨l,hl,OH⟩:=VR.cells X9 hv;split at h<;>first|(cases h;done)|skip
  rename_i off size zb;obtain⟨hb,h⟩:=y4 h;simp only[lr]at hb;have h1:=jg hb.1;have h2:=Cg hb.2;have e1:=OH.length;have e2:=hc.length;have pg:y.cells.size=size:=by rw[hl,J2,e1,h1]
  have IN:(decide (y.cells.size≠size)||decide (off+y.cells.size>ys.toArray.size))=av:=by
   rw[pg,J2];simp;omega
  have hc':ib E (cs.take off++(v.cl++cs.drop (off+size))) (ys.take off++(l++ys.drop (off+size))):=(hc.take off).append (OH.append (hc.drop _));obtain⟨zs,q1,q2⟩:=zBs ht h hp hc';refine⟨zs,?_,q2⟩;simp only[Instr.fill,zb];have Gi:y.cells.zipIdx.foldl (λ(cs:Array ab) (p:ab×Nat)=>cs.setIfInBounds (off+p.2) p.1) ys.toArray=(ys.take off++(l++ys.drop (off+size))).toArray:=by
   have hz:l.toArray.zipIdx=(l.zipIdx).toArray:=by
    apply cy;simp
   rw[hl,hz,List.foldl_toArray];rw[Zb (off:=off) l 0 ys (by omega)];simp only[kx,FE,e1,h1,jd]
  rw[ez (by rw[IN];simp),Gi];exact q1
def pZ (P:ac) (t:ae):Option ab:=
 match P.info? t with
 |some i=>i.zero
 |none=>ar
def yCs (P:ac) (t:ae) (ps:List (Nat×V)):Option V:=
 match pZ P t with
 |some z=>bif JF (Dq z) && Xr ps then(match yMk P t with
  |some pl=>match Rk pl with
   |some _=>match NC (z3d pl) ps (Dq z).cl with
    |some cs=>aq (.agg cs)
    |none=>ar
   |none=>ar
  |none=>match UP P t with
   |some (_,_,sz)=>match NC (λi=>aq (i*sz,sz)) ps (Dq z).cl with
    |some cs=>aq (.agg cs)
    |none=>ar
   |none=>ar)else ar
 |none=>ar
def bT {P:ac} {t:ae} {z:ab} (h:pZ P t=aq z):zero? P t=aq z:=by
 unfold pZ at h;unfold zero?;split at h
 ·rename_i i hi;rw[hi];exact h
 ·cases h
def z0a {P:ac} {E:Ev} {t:ae} {ps:List (Nat×V)} {qs:List (Nat×ab)} {v:V} (hp:Cr E ps qs) (h:yCs P t ps=aq v):
 ∃y,VR E v y/\∀w,(Instr.build t qs.toArray).run P w= .ok y w:=by
 unfold yCs at h;split at h<;>first|(cases h;done)|skip
 rename_i z hz;have E8:=λw=>me (bT hz) w
 obtain⟨hb,h⟩:=y4 h;simp only[lr]at hb;obtain⟨zl,Du,XW⟩:=VR.cells (E:=E) hb.1 (Pl E z);split at h
 ·rename_i pl zb;split at h<;>first|(cases h;done)|skip
  rename_i L hL;split at h<;>first|(cases h;done)|skip
  rename_i cs HX;simp only[ba]at h;subst h;have aaE:=zXv hL;subst aaE;unfold yMk at zb;split at zb<;>first|(cases zb;done)|skip
  rename_i fs xv;simp only[ba]at zb;have X6:(λi=>L.toArray[i]?)=z3d (L.map aq):=by
   funext i;unfold z3d;simp only[Bc,qt];cases L[i]? <;>rfl
  obtain⟨zs,hf,OG⟩:=zBs hb.2 HX hp XW;refine⟨.agg zs.toArray,by simp only[VR];exact⟨zs,rfl,OG⟩,λw=> ?_⟩;have hm:=zRh w zb;have hmA:((fs.mapM λf=>(do pure (f.offset,<- Go.sizeOf f.type):Sem (Nat×Nat))):Sem (Array (Nat×Nat))).run P w= .ok L.toArray w:=by
   rw[Array.mapM_eq_mapM_toList,map_eq_pure_bind];simp only[bind,pure,run_bind]at hm ⊢;rw[hm];rfl
  unfold Instr.build;simp only[bind]at hmA;simp only[bind,run_bind,E8,Cv.run_underlying xv,hmA,Du,X6,hf];rfl
 ·split at h<;>first|(cases h;done)|skip
  rename_i n e sz Kl;split at h<;>first|(cases h;done)|skip
  rename_i cs HX;simp only[ba]at h;subst h;obtain⟨i,h1,h2,rfl⟩:=zIo Kl;obtain⟨zs,hf,OG⟩:=zBs hb.2 HX hp XW;refine⟨.agg zs.toArray,by simp only[VR];exact⟨zs,rfl,OG⟩,λw=> ?_⟩;unfold Instr.build;simp only[bind,run_bind,E8,Cv.run_underlying h1,run_sizeOf h2,Du,hf];rfl
def Lq (ρ:xF):List (Nat×aj)->List (Nat×V)
 |[]=>[]
 |(i,x)::l=>(i,ma ρ x)::Lq ρ l
def VW {E:Ev} {ρS:xF} {ρ:Env} (h:lj E ρS ρ):∀(l:List (Nat×aj)),Cr E (Lq ρS l) (l.map λp=>(p.1,ev ρ p.2))
 |[]=>by simp[Lq,Cr]
 |(i,x)::l=>by simp only[Lq,jf,Cr];exact⟨_,_,rfl,h.ev x,VW h l⟩
def aW (P:ac) (t:ae):Bool:=
 match P.underlying t with
 |some (.interface _)=>au
 |none=>au
 |_=>av
def Xz:V->Bool
 | .nm _ _=>au
 | .el _ _ _ _=>au
 | .re _ _ _ _=>au
 | .sub _ _=>au
 |_=>av
def yFa {E:Ev} {v:V} {y:ab} (hp:Xz v=au) (h:VR E v y):∃a,y= .pointer (aq a):=by
 cases v<;>simp only[Xz,oR]at hp<;>simp only[VR]at h
 ·obtain⟨b,oo,l,h1,rfl⟩:=h;exact⟨_,rfl⟩
 ·obtain⟨b,oo,m,c,l,h1,rfl⟩:=h;exact⟨_,rfl⟩
 ·obtain⟨_,_,b,o,l,T,fr,rfl,_⟩:=h;exact⟨_,rfl⟩
 ·obtain⟨hd,l,b,oo,h1,h2,rfl⟩:=h;exact⟨_,rfl⟩
def Ht (ρ:xF):Option aj->Option (Option Int)
 |none=>aq ar
 |some x=>match ma ρ x with
  | .d (.v (.int _ n))=>aq (aq n)
  |_=>ar
def Ob (sz:Nat) (fa:Q_ D) (lo hi:Option Int) (K:V->Prop):Prop:=
 match lo,hi with
 |none,ar=>K (.d (.ro sz fa))
 |some l,ar=>(0<=l/\l<=fa.length)/\K (.d (.ro sz (fa.drop l.toNat)))
 |none,aq h=>(0<=h/\h<=fa.length)/\K (.d (.ro sz (fa.take h.toNat)))
 |some l,aq h=>(0<=l/\l<=h/\h<=fa.length)/\K (.d (.ro sz ((fa.take h.toNat).drop l.toNat)))
def WO:aj->Bool
 | .const (.slice ar 0 0)=>au
 |_=>av
def yAw (op:BinOp) (fa:Q_ D) (K:V->Prop):Prop:=
 ∀b:Bool,(b=au->fa=[])->match op with
  | .eql=>K (.d (.v (.bool b)))
  | .neq=>K (.d (.v (.bool !b)))
  |_=>False
def yCh:V->V->Bool
 | .nm n o,.nm m p=>be n m && be o p
 |_,_=>av
def Xm (P:ac) (t:ae):Bool:=
 match P.underlying t with
 |some (.pointer e)=>(pT P e).isSome
 |_=>av
def yAp {P:ac} {t:ae} (h:Xm P t=au):∃e i,P.underlying t=aq (.pointer e)/\P.info? e=aq i:=by
 unfold Xm at h;split at h<;>first|(cases h;done)|skip
 rename_i e he;unfold pT at h;split at h<;>first|(cases h;done)|skip
 rename_i i hi;exact⟨e,i,he,hi⟩
def yIx {E:Ev} {u v:V} {x y:ab} (h:yCh u v=au) (hx:VR E u x) (hy:VR E v y):∃a,x= .pointer (aq a)/\y= .pointer (aq a):=by
 unfold yCh at h;split at h<;>first|(cases h;done)|skip
 simp only[lr]at h;have h1:=jg h.1;have h2:=jg h.2;subst h1 h2;simp only[VR]at hx hy;obtain⟨b,oo,l,e1,rfl⟩:=hx;obtain⟨b',oo',l',e2,rfl⟩:=hy;rw[e1]at e2;cases e2;exact⟨_,rfl,rfl⟩
def zOn {P:ac} {t:ae} (h:Xm P t=au) (a:ao) (w:ag):(Op.equal t (.pointer (aq a)) (.pointer (aq a))).run P w= .ok au w:=by
 obtain⟨e,i,h1,h2⟩:=yAp h;rw[nG];generalize 9999=d;unfold co;simp only[bind,pure,Cv.run_bind,Cv.run_underlying h1,Cv.run_sizeOf h2];split
 ·simp only[sameAddr,bind,pure,beq_self_eq_true,if_true];rfl
 ·simp only[beq_self_eq_true,if_true];rfl
def mpV (P:ac) (t:ae) (v:V) (y:aj):Bool:=
 match v,y with
 | .mp _,.const (.map ar)=>(match P.underlying t with
   |some (.map _ _)=>au
   |_=>av)
 |_,_=>av
def yOw {P:ac} {t:ae} {v:V} {y:aj} (h:mpV P t v y=au):(∃n,v= .mp n)/\y= .const (.map ar)/\∃a b,P.underlying t=aq (.map a b):=by
 unfold mpV at h;split at h<;>first|(cases h;done)|skip
 rename_i n;split at h<;>first|(cases h;done)|skip
 rename_i a b hu;exact⟨⟨n,rfl⟩,rfl,a,b,hu⟩
def EY (P:ac) (o:am) (ρ:xF) (K:V->Prop):Prop:=
 bif PG o.op then(bif Xa ρ o.op.operands.toList then bR P o (W2 ρ) (λx=>K (Dq x))else False)else False
def sq (P:ac) (o:am) (ρ:xF) (K:V->Prop):Prop:=
 match o.op with
 | .move x=>K (ma ρ x)
 | .assign x=>K (ma ρ x)
 | .pick c a b=>match ma ρ c with
   | .d (.v (.bool t))=>dp t (K (ma ρ a)) (K (ma ρ b))
   |_=>False
 | .nilCheck x=>bif Xz (ma ρ x)then K (ma ρ x)else EY P o ρ K
 | .fieldAddr s x f=>iD (YX P s f) λoff=>match ma ρ x with
   | .nm n o=>K (.nm n (o+off))
   | .el n sz i g=>K (.el n sz i (g+off))
   | .re sz fa i g=>K (.re sz fa i (g+off))
   |_=>False
 | .indexAddr t x i=>match ma ρ i with
   | .d (.v (.int _ i))=>match ma ρ x with
     | .d (.ro sz fa)=>iD (g9 P t) λoB=>bif be sz oB then(0<=i/\i<fa.length)/\K (.re sz fa i.toNat 0)else False
     | .nm n o=>iD (mF P t) λns=>bif bg 32 ns.1 && be ns.2 1 then(0<=i/\i<ns.1)/\K (.na n o i.toNat)else iD (Lo i ns.1) λj=>K (.nm n (o+j*ns.2))
     | .el n sz k g=>iD (mF P t) λns=>iD (Lo i ns.1) λj=>K (.el n sz k (g+j*ns.2))
     | .re sz fa k g=>iD (mF P t) λns=>iD (Lo i ns.1) λj=>K (.re sz fa k (g+j*ns.2))
     |_=>False
   |_=>False
 | .index t x i=>match ma ρ x with
   | .agg cs=>match ma ρ i with
     | .d (.v (.int _ i))=>iD (UP P t) λns=>iD (Lo i ns.1) λj=>iD (Xd P ns.2.1 cs (j*ns.2.2)) K
     |_=>False
   |_=>EY P o ρ K
 | .field t x f=>match ma ρ x with
   | .agg cs=>iD (zMi P t f) λfo=>iD (Xd P fo.1 cs fo.2) K
   |_=>False
 | .extract x i=>match ma ρ x with
   | .je l=>iD l[i]? K
   |_=>False
 | .build t ps=>iD (yCs P t (Lq ρ ps.toList)) K
 | .makeFunc (.func f) a b=>K (.fn f (DA ρ a.toList) (DA ρ b.toList))
 | .makeInterface t x=>bif aW P t then False else K (.zy t (ma ρ x))
 | .typeAssert x _ a av=>bif aW P a then False else(match ma ρ x with
   | .zy t v=>bif be t a then K v else False
   |_=>False)
 | .typeAssert x _ a au=>bif aW P a then False else(match ma ρ x with
   | .zy t v=>bif be t a then K (.je [v,.d (.v (.bool au))])else iD (pZ P a) λz=>K (.je [Dq z,.d (.v (.bool av))])
   | .d (.v .nilIface)=>iD (pZ P a) λz=>K (.je [Dq z,.d (.v (.bool av))])
   |_=>False)
 | .binOp op t x y _=>bif yCh (ma ρ x) (ma ρ y) && Xm P t then(match op with
    | .eql=>K (.d (.v (.bool au)))
    | .neq=>K (.d (.v (.bool av)))
    |_=>False)else bif mpV P t (ma ρ x) y then(match op with
    | .eql=>K (.d (.v (.bool av)))
    | .neq=>K (.d (.v (.bool au)))
    |_=>False)else bif Xz (ma ρ x) && WG P t && Pp y then(match op with
    | .eql=>K (.d (.v (.bool av)))
    | .neq=>K (.d (.v (.bool au)))
    |_=>False)else bif WO y && Ih P t then(match ma ρ x with
     | .d (.ro _ fa)=>yAw op fa K
     |_=>EY P o ρ K)else match Hr (ma ρ x)with
    |some (.agg xs)=>match Hr (ma ρ y)with
     |some (.agg ys)=>bif P.eqGuardType P.depth t then False else iD (yNa P t xs.toList ys.toList) λb=>match op with
      | .eql=>K (.d (.v (.bool b)))
      | .neq=>K (.d (.v (.bool !b)))
      |_=>False
     |_=>False
    |_=>EY P o ρ K
 | .call c=>match c.callee with
   | .builtin .len=>match DA ρ c.args.toList with
     |[.d (.ro _ fa)]=>iD c.argTypes[0]? λt=>bif Ih P t then K (.d (.v (.int .i64 fa.length)))else False
     |_=>EY P o ρ K
   | .builtin .min=>match DA ρ c.args.toList with
     |[.d (.v (.int k x)),.d (.v (.int _ y))]=>K (.d (.v (.int k (min x y))))
     |[.d (.v (.int k x)),.d (.v (.int _ y)),.d (.v (.int _ z))]=>K (.d (.v (.int k (min (min x y) z))))
     |_=>EY P o ρ K
   |_=>EY P o ρ K
 | .slice t x lo hi ar=>match ma ρ x with
   | .d (.ro sz fa)=>iD (g9 P t) λoB=>bif be sz oB then EN (Ht ρ lo) (Ht ρ hi) λl h=>Ob sz fa l h K else False
   |_=>EY P o ρ K
 | .unOp _ _ _=>EY P o ρ K
 | .convert _ _ _=>EY P o ρ K
 |_=>False
def cB {b:Bool} {A B:Prop} (h:bif b then A else B):(b=au/\A)\/(b=av/\B):=by
 cases b
 ·exact .inr ⟨rfl,h⟩
 ·exact .inl ⟨rfl,h⟩
def yEf {b:Bool} {A B:Prop} (h:dp b A B):(b=au/\A)\/(b=av/\B):=by
 cases b
 ·exact .inr ⟨rfl,h⟩
 ·exact .inl ⟨rfl,h⟩
def xAb (P:ac) (E:Ev) (o:am) (ρ:Env) (K:V->Prop):Prop:=∃v y,K v/\VR E v y/\Fx P (af (ev ρ) o) y
def uG {P:ac} {E:Ev} {ρS:xF} {ρ:Env} (he:lj E ρS ρ) {o:am} {K:V->Prop} (h:EY P o ρS K):xAb P E o ρ K:=by
 unfold EY at h;obtain⟨hp,h⟩:=zM h;obtain⟨hl,h⟩:=zM h;obtain⟨y,hk,hf⟩:=fX h;exact⟨_,y,hk,Pl E y,by rw[<- yKd hp (yHk he hl)];exact hf⟩
def VR.Ez {E:Ev} {k:ap} {i:Int} {y:ab} (h:VR E (.d (.v (.int k i))) y):y= .int k i:=by
 simp only[VR,DR]at h;exact h.1
def wP {E:Ev} {x:ab} (h:x.oq=au):VR E (.d (.v x)) x:=by
 simp only[VR,DR];exact⟨trivial,h⟩
def dG {E:Ev} {ρS:xF} {ρ:Env} (he:lj E ρS ρ) {x:Option aj} {r:Option Int} (h:Ht ρS x=aq r):DE ρ x=aq r:=by
 cases x with
 |none=>exact h
 |some x=>
  simp only[Ht]at h;split at h<;>first|(cases h;done)|skip
  rename_i k n hx;have:=he.ev x;rw[hx]at this;simp only[DE,this.Ez];exact h
def DR.Ga {F:PH} {sz lo hi:Nat} {fa:Q_ D} {a:Option ao} {c:Nat} (h:DR F (.ro sz fa) (.slice a fa.length c)) (h1:lo<=hi) (h2:hi<=fa.length):
 DR F (.ro sz ((fa.take hi).drop lo)) (.slice (if c=lo then a else a.map (·.add (lo*sz))) (hi-lo) (c-lo)):=by
 simp only[DR]at h ⊢;obtain⟨a',c',e,hc,hs,hm⟩:=h;cases e;have hlen:((fa.take hi).drop lo).length=hi-lo:=by rw[pd,nn];omega
 refine⟨_,c-lo,by rw[hlen],by rw[hlen];omega,λel oS=>hs el (Ot (J9 oS)),?_⟩;by_cases h0:lo=hi
 ·left;exact xq (by omega)
 ·right;rcases hm with hm|⟨b,o,l,T,fr,rfl,h4,h5⟩
  ·subst hm;simp at h2;omega
  ·refine⟨b,o+lo*sz,l,T,fr,?_,h4,?_⟩
   ·rw[ez (by omega)];simp[h9]
   ·obtain⟨xs,r,e,hx⟩:=oW.1 h5;refine oW.2 ⟨(xs.drop (lo*sz)).take ((hi-lo)*sz),(xs.drop (lo*sz)).drop ((hi-lo)*sz)++r,?_,?_⟩
    ·rw[<- jd,Bb,<- Dl,e,HI];rw[hx.length,wE hs];exact xj _ (by omega)
    ·have:=(hx.drop (lo*sz)).take ((hi-lo)*sz);rw[sG lo hs,rY (hi-lo) (λel oS=>hs el (J9 oS)),List.take_drop]at this;rw[show lo+(hi-lo)=hi by omega]at this;exact this
def DR.Gx {F:PH} {sz:Nat} {fa:Q_ D} {y:ab} (h:DR F (.ro sz fa) y) {lo hi:Option Int} {K:V->Prop} (hk:Ob sz fa lo hi K):
 ∃a c v,y= .slice a fa.length c/\K v/\tp a fa.length c lo hi sz λp n c=>∀E:Ev,E.F=F->VR E v (.slice p n c):=by
 have h0:=h;simp only[DR]at h0;obtain⟨a,c,rfl,hc,_⟩:=h0;unfold Ob at hk;split at hk
 ·exact⟨a,c,_,rfl,hk,by simp only[tp];exact⟨hc,λE hE=>by subst hE;simpa only[VR]using h⟩⟩
 ·rename_i l;obtain⟨⟨h1,h2⟩,hk⟩:=hk;refine⟨a,c,_,rfl,hk,?_⟩;simp only[tp];refine⟨⟨h1,h2,hc⟩,λE hE=> ?_⟩;subst hE;have:=h.Ga (lo:=l.toNat) (hi:=fa.length) (by omega) (ju _);rw[mz (ju _)]at this;simpa only[VR]using this
 ·rename_i u;obtain⟨⟨h1,h2⟩,hk⟩:=hk;refine⟨a,c,_,rfl,hk,?_⟩;simp only[tp];refine⟨⟨h1,by omega⟩,λE hE=> ?_⟩;subst hE;have:=h.Ga (lo:=0) (hi:=u.toNat) (by omega) (by omega);simp only[bo,zAk,ite_self,Nat.sub_zero,Ee]at this;simpa only[VR]using this
 ·rename_i l u;obtain⟨⟨h1,h2,h3⟩,hk⟩:=hk;refine⟨a,c,_,rfl,hk,?_⟩;simp only[tp];refine⟨⟨h1,h2,by omega⟩,λE hE=> ?_⟩;subst hE;have:=h.Ga (lo:=l.toNat) (hi:=u.toNat) (by omega) (by omega);simpa only[VR]using this
def z7w {p:Option ao} {n c:Nat} {lo hi:Option Int} {sz:Nat} {K K':Option ao->Nat->Nat->Prop} (h:∀p n c,K p n c->K' p n c) (hk:tp p n c lo hi sz K):tp p n c lo hi sz K':=by
 unfold tp at*;cases lo<;>cases hi<;>exact⟨hk.1,h _ _ _ hk.2⟩
def zUc {P:ac} {t:ae} (h:WG P t=au) (a:ao):cV P t (.pointer (aq a))=aq av:=by
 obtain⟨e,he⟩:=z7h h;unfold cV;rw[he];rfl
def yJx {y:aj} (h:Pp y=au):y= .const (.pointer ar):=by
 unfold Pp at h;split at h
 ·rfl
 ·cases h
def zUm {P:ac} {E:Ev} {ρ:Env} {o:am} {op:BinOp} {t u:ae} {x y:aj} {fa:Q_ D} {K:V->Prop} {a:Option ao} {n c:Nat} (ho:o.op= .binOp op t x y u) (hy:WO y=au) (ht:Ih P t=au)
 (hx:ev ρ x= .slice a n c) (ha:a=ar->fa=[]) (h:yAw op fa K):xAb P E o ρ K:=by
 have pj:y= .const (.slice ar 0 0):=by
  unfold WO at hy;split at hy
  ·rfl
  ·cases hy
 subst pj;obtain⟨e,he⟩:=tR ht;have hn:cV P t (.slice a n c)=aq a.isNone:=by unfold cV;rw[he]
 have hk:=h a.isNone (λhb=>ha (i9 hb));split at hk<;>first|exact hk.elim|skip
 ·refine⟨_,.bool a.isNone,hk,wP rfl,?_⟩;have:=x6 (P:=P) (neg:=av) (r:=a.isNone) (ρ:=ρ) ho (by rw[hx];trivial) trivial (λw=>by rw[hx];exact xE trivial w) (λw=>by rw[hx];exact fP hn w);simpa using this
 ·refine⟨_,.bool (!a.isNone),hk,wP rfl,?_⟩;have:=x6 (P:=P) (neg:=au) (r:=a.isNone) (ρ:=ρ) ho (by rw[hx];trivial) trivial (λw=>by rw[hx];exact xE trivial w) (λw=>by rw[hx];exact fP hn w);simpa using this
def z6k {P:ac} {E:Ev} {ρS:xF} {ρ:Env} (he:lj E ρS ρ) {o:am} {K:V->Prop} (h:sq P o ρS K):xAb P E o ρ K:=by
 cases ho:o.op
 case move x=>simp only[sq,ho]at h;exact⟨_,_,h,he.ev x,λw=>by simp only[af,ho];rfl⟩
 case assign x=>simp only[sq,ho]at h;exact⟨_,_,h,he.ev x,λw=>by simp only[af,ho];rfl⟩
 case pick c a b=>
  simp only[sq,ho]at h;split at h<;>first|exact h.elim|skip
  rename_i t hc;have hv:=he.ev c;rw[hc]at hv;simp only[VR,DR]at hv;rcases yEf h with⟨rfl,h⟩|⟨rfl,h⟩
  ·exact⟨_,_,h,he.ev a,λw=>by simp only[af,ho,hv.1,asBool,bind,pure,cf,ce];rfl⟩
  ·exact⟨_,_,h,he.ev b,λw=>by simp only[af,ho,hv.1,asBool,bind,pure,cf,ce];rfl⟩
 case nilCheck x=>
  simp only[sq,ho]at h;rcases cB h with⟨hp,h⟩|⟨_,h⟩
  ·obtain⟨a,ha⟩:=yFa hp (he.ev x);exact⟨_,_,h,he.ev x,λw=>by simp only[af,ho,ha];rfl⟩
  ·exact uG he h
 case fieldAddr s x f=>
  simp only[sq,ho]at h;obtain⟨off,hf,h⟩:=zN h;obtain⟨fs,fd,i,h1,h2,h3,h4,rfl⟩:=zVz hf;have hv:=he.ev x;have run:∀b oo,ev ρ x= .pointer (aq ⟨b,oo,ar⟩)->Fx P (af (ev ρ) o) (.pointer (aq ⟨b,oo+fd.offset,ar⟩)):=by
   intro b oo hx;simp only[af,ho,hx];refine yF λw=> ?_
   simp only[Instr.fieldAt,Instr.sureAddr,fieldPlace,bind,pure,run_bind,cf,ce,Cv.run_underlying h1,h2,run_sizeOf h3,ez h4,h9]
  split at h<;>first|exact h.elim|skip
  ·rename_i n o' hx;rw[hx]at hv;simp only[VR]at hv;obtain⟨b,oo,l,e1,e2⟩:=hv;exact⟨_,_,h,by simp only[VR];exact⟨b,oo,l,e1,rfl⟩,by have:=run _ _ e2;rw[Dh]at this;exact this⟩
  ·rename_i n sz i g hx;rw[hx]at hv;simp only[VR]at hv;obtain⟨b,oo,m,c,l,e1,e2⟩:=hv;exact⟨_,_,h,by simp only[VR];exact⟨b,oo,m,c,l,e1,rfl⟩,by have:=run _ _ e2;rw[Dh _ g]at this;exact this⟩
  ·rename_i sz fa i g hx;rw[hx]at hv;simp only[VR]at hv;obtain⟨e0,e1,b,oo,l,T,fr,e2,e3,e4⟩:=hv;exact⟨_,_,h,by simp only[VR];exact⟨e0,e1,b,oo,l,T,fr,rfl,e3,e4⟩,by have:=run _ _ e2;rw[Dh _ g]at this;exact this⟩
 case indexAddr t x i=>
  simp only[sq,ho]at h;split at h<;>first|exact h.elim|skip
  rename_i k i' hi;have Bf:=he.ev i;rw[hi]at Bf;have Bf:=Bf.Ez;have hv:=he.ev x;have arr:∀{b oo:Nat} {ns:Nat×Nat} {j:Nat},mF P t=aq ns->Lo i' ns.1=aq j->ev ρ x= .pointer (aq ⟨b,oo,ar⟩)->Fx P (af (ev ρ) o) (.pointer (aq ⟨b,oo+j*ns.2,ar⟩)):=by
   intro b oo ns j pg hj hx;obtain⟨rfl,gu⟩:=zRs hj;simp only[af,ho,hx,Bf];refine yF λw=> ?_
   rw[cN pg ⟨by omega,by omega⟩,h9];simp
  split at h<;>first|exact h.elim|skip
  ·rename_i sz fa hx;obtain⟨oB,hs,h⟩:=zN h;obtain⟨hb,⟨h0,h1⟩,hk⟩:=zM h;have:=jg hb;subst this;rw[hx]at hv;simp only[VR,DR]at hv;obtain⟨a,c,e1,e2,e3,e4⟩:=hv;rcases e4 with e4|⟨b,oo,l,T,fr,rfl,e5,e6⟩
   ·subst e4;simp at h1;omega
   refine⟨_,.pointer (aq ⟨b,oo+i'.toNat*sz,ar⟩),hk,?_,?_⟩
   ·simp only[VR];exact⟨by omega,e3,b,oo,l,T,fr,rfl,e5,e6⟩
   ·simp only[af,ho,e1,Bf];refine yF λw=> ?_
    rw[wQ hs ⟨h0,by omega⟩,h9]
  ·rename_i n o' hx;obtain⟨ns,hs,h⟩:=zN h;rcases cB h with⟨hb,⟨h0,h1⟩,h⟩|⟨_,h⟩
   ·simp only[lr]at hb;have ni:=jg hb.2;rw[hx]at hv;simp only[VR]at hv;obtain⟨b,oo,l,e1,e2⟩:=hv;refine⟨_,.pointer (aq ⟨b,oo+(o'+i'.toNat),ar⟩),h,by simp only[VR];exact⟨b,oo,l,e1,rfl⟩,?_⟩;simp only[af,ho,e2,Bf];refine yF λw=> ?_
    rw[cN hs ⟨h0,h1⟩,h9,ni,Nat.mul_one,Dh]
   obtain⟨j,hj,h⟩:=zN h;rw[hx]at hv;simp only[VR]at hv;obtain⟨b,oo,l,e1,e2⟩:=hv;exact⟨_,_,h,by simp only[VR];exact⟨b,oo,l,e1,rfl⟩,by have:=arr hs hj e2;rw[Dh]at this;exact this⟩
  ·rename_i n sz i g hx;obtain⟨ns,hs,h⟩:=zN h;obtain⟨j,hj,h⟩:=zN h;rw[hx]at hv;simp only[VR]at hv;obtain⟨b,oo,m,c,l,e1,e2⟩:=hv;exact⟨_,_,h,by simp only[VR];exact⟨b,oo,m,c,l,e1,rfl⟩,by have:=arr hs hj e2;rw[Dh _ g]at this;exact this⟩
  ·rename_i sz fa i g hx;obtain⟨ns,hs,h⟩:=zN h;obtain⟨j,hj,h⟩:=zN h;rw[hx]at hv;simp only[VR]at hv;obtain⟨e0,e1,b,oo,l,T,fr,e2,e3,e4⟩:=hv;exact⟨_,_,h,by simp only[VR];exact⟨e0,e1,b,oo,l,T,fr,rfl,e3,e4⟩,by have:=arr hs hj e2;rw[Dh _ g]at this;exact this⟩
 case index t x i=>
  simp only[sq,ho]at h;split at h
  ·rename_i cs hx;split at h<;>first|exact h.elim|skip
   rename_i k i' hi;obtain⟨⟨n,e,sz⟩,hs,h⟩:=zN h;obtain⟨j,hj,h⟩:=zN h;obtain⟨v,hp,hk⟩:=zN h;have Bf:=he.ev i;rw[hi]at Bf;have Bf:=Bf.Ez;have hv:=he.ev x;rw[hx]at hv;simp only[VR]at hv;obtain⟨ys,e1,e2⟩:=hv;obtain⟨y,hy,hr⟩:=zOq e2 hp;obtain⟨rfl,gu⟩:=zRs hj;obtain⟨inf,q1,q2,q3⟩:=zIo hs;refine⟨v,y,hk,hy,?_⟩;simp only[af,ho,e1,Bf];refine yF λw=> ?_
   have hb:(0:Int)<=(j:Int)/\(j:Int)<n:=⟨by omega,by omega⟩
   simp only[Instr.index,asIntOf,bind,pure,run_bind,cf,ce,Cv.run_underlying q1,fh hb,run_sizeOf q2,q3];exact hr w
  ·exact uG he h
 case field t x f=>
  simp only[sq,ho]at h;split at h<;>first|exact h.elim|skip
  rename_i cs hx;obtain⟨⟨ft,off⟩,hf,h⟩:=zN h;obtain⟨v,hp,hk⟩:=zN h;have hv:=he.ev x;rw[hx]at hv;simp only[VR]at hv;obtain⟨ys,e1,e2⟩:=hv;obtain⟨y,hy,hr⟩:=zOq e2 hp;obtain⟨fs,fd,h1,h2,rfl,rfl⟩:=zSa hf;refine⟨v,y,hk,hy,?_⟩;simp only[af,ho,e1];refine yF λw=> ?_
  simp only[Instr.field,asAgg,bind,pure,run_bind,cf,ce,Cv.run_underlying h1,h2];exact hr w
 case extract x i=>
  simp only[sq,ho]at h;split at h<;>first|exact h.elim|skip
  rename_i l hx;obtain⟨v,hl,h⟩:=zN h;have hv:=he.ev x;rw[hx]at hv;simp only[VR]at hv;obtain⟨ys,e1,e2⟩:=hv;obtain⟨y,hy,hr⟩:=e2.get hl;refine⟨v,y,h,hr,?_⟩;simp only[af,ho,e1];refine yF λw=> ?_
  have:ys.toArray[i]? =aq y:=by simp[hy]
  simp only[Instr.extract,this];rfl
 case build t ps=>
  simp only[sq,ho]at h;obtain⟨v,hb,h⟩:=zN h;obtain⟨y,hy,hr⟩:=z0a (VW he ps.toList) hb;refine⟨v,y,h,hy,?_⟩;simp only[af,ho];refine yF λw=> ?_
  have:(ps.map λ(i,x)=>(i,ev ρ x))=(ps.toList.map λp=>(p.1,ev ρ p.2)).toArray:=by
   apply cy;simp
  rw[this];exact hr w
 case makeFunc fn a b=>
  cases fn<;>simp only[sq,ho]at h
  rename_i f;obtain⟨as,e1,e2⟩:=mD he a;obtain⟨bs,e3,e4⟩:=mD he b;refine⟨_,.func (.func f) as.toArray bs.toArray,h,by simp only[VR];exact⟨as,bs,rfl,e2,e4⟩,?_⟩;simp only[af,ho,e1,e3];exact yF λw=>rfl
 case makeInterface t x=>
  simp only[sq,ho]at h;obtain⟨hb,h⟩:aW P t=av/\K (.zy t (ma ρS x)):=by
   revert h;cases aW P t<;>intro h
   ·exact⟨rfl,h⟩
   ·exact h.elim
  refine⟨_,.iface t (ev ρ x),h,by simp only[VR];exact⟨_,rfl,he.ev x⟩,?_⟩;simp only[af,ho];refine yF λw=> ?_
  unfold aW at hb;cases hd:P.underlying t with
  |none=>rw[hd]at hb;cases hb
  |some d=>
   rw[hd]at hb;unfold Instr.makeInterface;simp only[bind,run_bind,Cv.run_underlying hd];cases d<;>first|rfl|cases hb
 case typeAssert x xt a ok=>
  cases ok with
  |true=>
   simp only[sq,ho]at h;obtain⟨hb,h⟩:aW P a=av/\(match ma ρS x with
    | .zy t v=>bif be t a then K (.je [v,.d (.v (.bool au))])else iD (pZ P a) λz=>K (.je [Dq z,.d (.v (.bool av))])
    | .d (.v .nilIface)=>iD (pZ P a) λz=>K (.je [Dq z,.d (.v (.bool av))])
    |_=>False):=by
    revert h;cases aW P a<;>intro h
    ·exact⟨rfl,h⟩
    ·exact h.elim
   have jy:∃d,P.underlying a=aq d/\∀ms,d≠.interface ms:=by
    unfold aW at hb;split at hb<;>first|(cases hb;done)|skip
    rename_i MF EC;cases hu:P.underlying a with
    |none=>exact absurd hu EC
    |some d=>exact⟨d,rfl,λms e=>MF ms (by rw[hu,e])⟩
   obtain⟨d,hu,hd⟩:=jy;have K2:∀z,pZ P a=aq z->VR E (.je [Dq z,.d (.v (.bool av))]) (.tuple #[z,.bool av]):=λz hz=>by
    simp only[VR,ib,DR];exact⟨[z,.bool av],rfl,_,_,rfl,Pl E z,_,_,rfl,⟨rfl,rfl⟩,rfl⟩
   split at h<;>first|exact h.elim|skip
   ·rename_i t v hx;have hv:=he.ev x;rw[hx]at hv;simp only[VR]at hv;obtain⟨z,e1,e2⟩:=hv;rcases cB h with⟨ht,hk⟩|⟨ht,hk⟩
    ·have:=jg ht;subst this;refine⟨_,.tuple #[z,.bool au],hk,?_,?_⟩
     ·simp only[VR,ib,DR];exact⟨[z,.bool au],rfl,_,_,rfl,e2,_,_,rfl,⟨rfl,rfl⟩,rfl⟩
     ·simp only[af,ho,e1];refine yF λw=> ?_
      simp only[bz,bind,run_bind,Cv.run_underlying hu];cases d<;>first|rfl|exact absurd rfl (hd _)|(simp only[if_true];rfl)
    ·obtain⟨z0,hz,hk⟩:=zN hk;have hta:¬t=a:=λe=>by subst e;rw[Nat.beq_refl]at ht;cases ht
     refine⟨_,.tuple #[z0,.bool av],hk,K2 z0 hz,?_⟩;simp only[af,ho,e1];refine yF λw=> ?_
     simp only[bz,bind,run_bind,Cv.run_underlying hu];cases d<;>first|exact absurd rfl (hd _)|(simp only[ez hta,if_true,bind,run_bind,Cv.me (bT hz) w];rfl)
   ·rename_i hx;have hv:=he.ev x;rw[hx]at hv;simp only[VR,DR]at hv;obtain⟨z0,hz,hk⟩:=zN h;refine⟨_,.tuple #[z0,.bool av],hk,K2 z0 hz,?_⟩;simp only[af,ho,hv.1];refine yF λw=> ?_
    simp only[bz,bind,run_bind,Cv.run_underlying hu];cases d<;>first|exact absurd rfl (hd _)|(simp only[if_true,bind,run_bind,Cv.me (bT hz) w];rfl)
  |false=>
   simp only[sq,ho]at h;obtain⟨hb,h⟩:aW P a=av/\(match ma ρS x with
    | .zy t v=>bif be t a then K v else False
    |_=>False):=by
    revert h;cases aW P a<;>intro h
    ·exact⟨rfl,h⟩
    ·exact h.elim
   split at h<;>first|exact h.elim|skip
   rename_i t v hx;obtain⟨ht,hk⟩:=zM h;have:=jg ht;subst this;have hv:=he.ev x;rw[hx]at hv;simp only[VR]at hv;obtain⟨z,e1,e2⟩:=hv;refine⟨v,z,hk,e2,?_⟩;simp only[af,ho,e1];refine yF λw=> ?_
   unfold aW at hb;split at hb<;>first|(cases hb;done)|skip
   rename_i MF EC;cases hu:P.underlying t with
   |none=>exact absurd hu EC
   |some d=>
    simp only[bz,bind,run_bind,Cv.run_underlying hu];cases d<;>first|rfl|exact absurd hu (MF _)|(simp only[if_true];rfl)
 case binOp op t x y u=>
  simp only[sq,ho]at h;rcases cB h with⟨hp,hk⟩|⟨_,h⟩
  ·simp only[lr]at hp;obtain⟨a,hx,hy⟩:=yIx hp.1 (he.ev x) (he.ev y);clear h;split at hk<;>first|exact hk.elim|skip
   ·refine⟨_,.bool au,hk,wP rfl,?_⟩;have:=x6 (P:=P) (neg:=av) (r:=au) (ρ:=ρ) ho (by rw[hx];trivial) (by rw[hy];trivial) (λw=>by rw[hx,hy];exact xE trivial w) (λw=>by rw[hx,hy];exact zOn hp.2 a w);simpa using this
   ·refine⟨_,.bool av,hk,wP rfl,?_⟩;have:=x6 (P:=P) (neg:=au) (r:=au) (ρ:=ρ) ho (by rw[hx];trivial) (by rw[hy];trivial) (λw=>by rw[hx,hy];exact xE trivial w) (λw=>by rw[hx,hy];exact zOn hp.2 a w);simpa using this
  rcases cB h with⟨hp,hk⟩|⟨_,h⟩
  ·obtain⟨⟨n,hx⟩,rfl,ka,kb,hu⟩:=yOw hp;have hv:=he.ev x;rw[hx]at hv;simp only[VR]at hv;obtain⟨b,l,_,ha⟩:=hv;have hr:cV P t (.map (aq b))=aq av:=by simp[cV,hu]
   clear h;split at hk<;>first|exact hk.elim|skip
   ·refine⟨_,.bool av,hk,wP rfl,?_⟩;have:=x6 (P:=P) (neg:=av) (r:=av) (ρ:=ρ) ho (by rw[ha];trivial) trivial (λw=>by rw[ha];exact xE trivial w) (λw=>by rw[ha];exact aD hr w);simpa using this
   ·refine⟨_,.bool au,hk,wP rfl,?_⟩;have:=x6 (P:=P) (neg:=au) (r:=av) (ρ:=ρ) ho (by rw[ha];trivial) trivial (λw=>by rw[ha];exact xE trivial w) (λw=>by rw[ha];exact aD hr w);simpa using this
  rcases cB h with⟨hp,hk⟩|⟨_,h⟩
  ·simp only[lr]at hp;obtain⟨⟨X7,Kf⟩,hp3⟩:=hp;obtain⟨a,ha⟩:=yFa X7 (he.ev x);have hy:=yJx hp3;subst hy;clear h;split at hk<;>first|exact hk.elim|skip
   ·refine⟨_,.bool av,hk,wP rfl,?_⟩;have:=x6 (P:=P) (neg:=av) (r:=av) (ρ:=ρ) ho (by rw[ha];trivial) trivial (λw=>by rw[ha];exact xE trivial w) (λw=>by rw[ha];exact aF (zUc Kf a) w);simpa using this
   ·refine⟨_,.bool au,hk,wP rfl,?_⟩;have:=x6 (P:=P) (neg:=au) (r:=av) (ρ:=ρ) ho (by rw[ha];trivial) trivial (λw=>by rw[ha];exact xE trivial w) (λw=>by rw[ha];exact aF (zUc Kf a) w);simpa using this
  ·rcases cB h with⟨hp,hk⟩|⟨_,h⟩
   ·simp only[lr]at hp;clear h;split at hk
    ·rename_i sz fa hx;have hv:=he.ev x;rw[hx]at hv;simp only[VR,DR]at hv;obtain⟨a,c,e1,_,_,e4⟩:=hv;exact zUm ho hp.1 hp.2 e1 (λha=>by
      rcases e4 with e4|⟨_,_,_,_,_,e5,_⟩
      ·exact e4
      ·rw[ha]at e5;cases e5) hk
    ·exact uG he hk
   ·split at h
    ·rename_i xs wk;split at h<;>first|exact h.elim|skip
     rename_i ys HO;rcases cB h with⟨_,hk⟩|⟨hgt,hk⟩
     ·exact hk.elim
     clear h;obtain⟨b,hb,hk⟩:=zN hk;have ex:=lX wk (he.ev x);have ey:=lX HO (he.ev y);have jr:=λw=>yLo (P:=P) hb w
     simp only[Rz]at jr;have hg:∀(op:BinOp) w,(eqGuard op t x y (.agg xs) (.agg ys)).run P w= .ok () w:=by
      intro op w;unfold eqGuard;cases op<;>first|rfl|(simp[bind,pure,run_bind,program,ce,cf,hgt])
     split at hk<;>first|exact hk.elim|skip
     ·refine⟨_,.bool b,hk,wP rfl,?_⟩;have:=x6 (P:=P) (neg:=av) (r:=b) (ρ:=ρ) ho (by rw[ex];trivial) (by rw[ey];trivial) (λw=>by rw[ex,ey];exact hg _ w) (λw=>by rw[ex,ey];exact jr w);simpa using this
     ·refine⟨_,.bool (!b),hk,wP rfl,?_⟩;have:=x6 (P:=P) (neg:=au) (r:=b) (ρ:=ρ) ho (by rw[ex];trivial) (by rw[ey];trivial) (λw=>by rw[ex,ey];exact hg _ w) (λw=>by rw[ex,ey];exact jr w);simpa using this
    ·exact uG he h
 case call c=>
  simp only[sq,ho]at h;split at h
  ·rename_i hc;split at h
   ·rename_i sz fa oa;obtain⟨t,ht,h⟩:=zN h;obtain⟨hs,h⟩:=zM h;obtain⟨ys,e1,e2⟩:=mD he c.args;rw[oa]at e2;simp only[ib,VR,DR]at e2;obtain⟨y,_,rfl,⟨a,k,rfl,_⟩,rfl⟩:=e2;refine⟨_,.int .i64 fa.length,h,wP rfl,?_⟩;rw[wJ ho hc,e1];obtain⟨e,L9⟩:=tR hs;refine yF λw=> ?_
    simp only[cw,ht,Bc,CG,bind,run_bind,Cv.run_underlying L9];rfl
   ·exact uG he h
  ·rename_i hc;split at h
   ·rename_i kk x k2 y oa;obtain⟨ys,e1,e2⟩:=mD he c.args;rw[oa]at e2;simp only[ib,VR,DR]at e2;obtain⟨_,_,rfl,⟨rfl,_⟩,_,_,rfl,⟨rfl,_⟩,rfl⟩:=e2;refine⟨_,.int kk (min x y),h,wP rfl,?_⟩;rw[wJ ho hc,e1];refine yF λw=> ?_
    rw[show min x y=if y<x then y else x by rw[Int.min_def];split<;>split<;>omega];apply run_min_int2
   ·rename_i kk x k2 y k3 z oa;obtain⟨ys,e1,e2⟩:=mD he c.args;rw[oa]at e2;simp only[ib,VR,DR]at e2;obtain⟨_,_,rfl,⟨rfl,_⟩,_,_,rfl,⟨rfl,_⟩,_,_,rfl,⟨rfl,_⟩,rfl⟩:=e2;refine⟨_,.int kk (min (min x y) z),h,wP rfl,?_⟩;rw[wJ ho hc,e1];refine yF λw=> ?_
    rw[show min (min x y) z=if z<(if y<x then y else x)then z else(if y<x then y else x)by rw[Int.min_def,Int.min_def];repeat' split<;>omega];apply run_min_int3
   ·exact uG he h
  ·exact uG he h
 case slice t x lo hi mx=>
  cases mx with
  |some m=>simp only[sq,ho]at h
  |none=>
   simp only[sq,ho]at h;split at h
   ·rename_i sz fa hx;obtain⟨oB,hs,h⟩:=zN h;obtain⟨hb,hh⟩:=zM h;have:=jg hb;subst this;obtain⟨l,u,h1,h2,hh⟩:=rR hh;have hv:=he.ev x;rw[hx]at hv;simp only[VR]at hv;obtain⟨a,c,v,e1,hk,yt⟩:=hv.Gx hh;have hp:bR P o ρ (λy=>VR E v y):=by
     simp only[bR,ho,e1,hs,dG he h1,dG he h2,EN];exact z7w (λp n c hh=>hh E rfl) yt
    obtain⟨y,hy,hf⟩:=fX hp;exact⟨v,y,hk,hy,hf⟩
   ·exact uG he h
 case unOp op t x=>simp only[sq,ho]at h;exact uG he h
 case convert s d x=>simp only[sq,ho]at h;exact uG he h
 all_goals(simp only[sq,ho]at h)
end Sx
namespace Cv
open Go Go.RowKit
def yLf {φ:IU} {b:Nat} {xs:List V} {t:ae} {Ds:Option Nat} {O:Obj} (h:coT φ b (.cells xs t Ds) O):∃r,O= .cells (HY φ xs++r).toArray t/\(∀sz,Ds=aq sz->xs.length+r.length=(φ b).2*sz)/\(Ds=ar->r=[]):=by
 cases Ds with
 |none=>
  have h':O= .cells (HY φ xs).toArray t:=h;exact⟨[],by rw[h',oJ],by simp,λ_=>rfl⟩
 |some sz=>
  obtain⟨r,h1,h2⟩:=h;exact⟨r,h1,λs hs=>(by cases hs;exact h2),by simp⟩
def Rel.cells {φ:IU} {s:St} {w:ag} (R:Rel φ s w) {b:Nat} {xs:List V} {t:ae} {Ds:Option Nat} (h:s.get b=aq (.cells xs t Ds)):
 ∃r,w.heap[(φ b).1]? =aq (.cells (HY φ xs++r).toArray t)/\(∀sz,Ds=aq sz->xs.length+r.length=(φ b).2*sz)/\(Ds=ar->r=[]):=by
 obtain⟨O,h1,h2⟩:=R.obj b _ h;obtain⟨r,rfl,h3,h4⟩:=yLf h2;exact⟨r,h1,h3,h4⟩
def gG {P:ac} {t k e:ae} (h:Hq P t=aq (k,e)):P.underlying t=aq (.map k e):=by
 unfold Hq at h;split at h
 ·simp only[ba,cu]at h;obtain⟨rfl,rfl⟩:=h;assumption
 ·cases h
def qX {P:ac} {w:ag} {r:Nat} {O:Obj} (h:w.heap[r]? =aq O) (hO:match O with| .cells _ _ _=>False|_=>True):(getObj r).run P w= .ok O w:=by
 simp only[getObj,ce,h];cases O<;>first|exact hO.elim|rfl
def yLs {P:ac} {t:ae} (h:LB P t=au):∃e,P.underlying t=aq (.slice e)/\P.underlying e=aq (.int .u8):=by
 unfold LB at h;split at h<;>first|(cases h;done)|skip
 rename_i e he;split at h<;>first|(cases h;done)|skip
 exact⟨e,he,by assumption⟩
def zJr {P:ac} (w:ag) {F:ab->ByteArray->Sem (ForInStep ByteArray)} (hF:∀(n:Nat) (s:ByteArray),F (.int .u8 (n:Int)) s= .pure (.yield (s.push (UInt8.ofNat n)))):∀(l:List Nat) (acc:ByteArray),
 ((forIn (l.map λ(n:Nat)=>Value.int .u8 (n:Int)) acc F):Sem ByteArray).run P w= .ok (acc++bs l) w
 |[],acc=>by
  have:acc++bs []=acc:=by apply ByteArray.ext;simp[bs]
  rw[this];rfl
 |n::l,acc=>by
  have ih:=zJr (P:=P) w hF l (acc.push (UInt8.ofNat n));simp only[jf,List.forIn_cons,bind,hF,cf];rw[ih];congr 1;apply ByteArray.ext;simp[bs,Nat.toUInt8]
end Cv
namespace Sx
open Go Go.RowKit Cv
def Rel.focus {k:Ko} {L:List HP} {E:Ev} {s:St} {w:ag} (R:Rel k L E s w) {n:Nat} {o:fq} (h:s.get n=aq o):
 Hp k w (ic E (n,o)::((uC n s.rows).map (ic E)++fz E.F::L)):=by
 refine R.hp.perm ?_;have:=((uI h).1.map (ic E)).append_right (fz E.F::L);simpa using this
def Rel.oe {k:Ko} {L:List HP} {E:Ev} {s:St} {w w':ag} (R:Rel k L E s w) {n:Nat} {o:fq} (h:s.get n=aq o) {o':fq}
 (H:Hp k w' (ic E (n,o')::((uC n s.rows).map (ic E)++fz E.F::L))):Rel k L E (s.set n o') w':=by
 refine⟨R.nx,H.perm ?_⟩;have:=(((uI h).2 o').map (ic E)).append_right (fz E.F::L);simpa[St.set]using this.symm
def Rel.frozen {k:Ko} {L:List HP} {E:Ev} {s:St} {w:ag} (R:Rel k L E s w):∀b o,E.F b=aq o->w.heap[b]? =aq o:=by
 have H:Hp k w (fz E.F::(s.rows.map (ic E)++L)):=R.hp.perm mo;obtain⟨h,⟨rfl,_⟩,hs⟩:=H.sat;exact hs
def Rel.row {k:Ko} {L:List HP} {E:Ev} {s:St} {w:ag} (R:Rel k L E s w) {n:Nat} {o:fq} (h:s.get n=aq o) (hg:o≠.gone):
 ∃hd x,E.gj[n]? =aq hd/\fw E.F o E.gj hd x/\Sub x w:=by
 obtain⟨x,hx,hs⟩:=(R.focus h).sat;rcases hx with⟨e,_⟩|⟨hd,h1,h2⟩
 ·exact absurd e hg
 ·exact⟨hd,x,h1,h2,hs⟩
def Rel.cells {k:Ko} {L:List HP} {E:Ev} {s:St} {w:ag} (R:Rel k L E s w) {n:Nat} {vs:List V} {t:ae} (h:s.get n=aq (.cells vs t)):
 ∃b l sub,E.gj[n]? =aq (.pointer (aq ⟨b,0,ar⟩),sub)/\ib E vs l/\w.heap[b]? =aq (.cells l.toArray t):=by
 obtain⟨⟨hv,sub⟩,x,h1,h2,h3⟩:=R.row h (by simp);simp only[fw]at h2;obtain⟨b,l,rfl,h4,rfl⟩:=h2;exact⟨b,l,sub,h1,h4,h3 b _ (by simp[one])⟩
def Rel.vec {k:Ko} {L:List HP} {E:Ev} {s:St} {w:ag} (R:Rel k L E s w) {n:Nat} {ds:List D} {t:ae} (h:s.get n=aq (.vec ds t)):
 ∃b l sub,E.gj[n]? =aq (.pointer (aq ⟨b,0,ar⟩),sub)/\iB E.F ds l/\w.heap[b]? =aq (.cells l.toArray t):=by
 obtain⟨⟨hv,sub⟩,x,h1,h2,h3⟩:=R.row h (by simp);simp only[fw]at h2;obtain⟨b,l,rfl,h4,rfl⟩:=h2;exact⟨b,l,sub,h1,h4,h3 b _ (by simp[one])⟩
def Ik (s:St):V->Option (Nat×Q_ D)
 | .d (.ro sz fa)=>aq (sz,fa)
 | .own n=>match s.get n with
   |some (.own _ sz fa)=>aq (sz,fa)
   |some (.kq sz fa)=>aq (sz,fa)
   |some (.HL _ fa)=>aq (1,fa)
   |_=>ar
 |_=>ar
def zMq {k:Ko} {L:List HP} {E:Ev} {s:St} {w:ag} (R:Rel k L E s w) {sz:Nat} {fa:Q_ D} {y:ab} (h:DR E.F (.ro sz fa) y):
 ∃a c xs,y= .slice a fa.length c/\fa.length<=c/\iB E.F fa.flatten xs/\(∀el∈fa,el.length=sz)/\Sat w (FK sz a fa.length c xs):=by
 simp only[DR]at h;obtain⟨a,c,rfl,h1,h2,h3⟩:=h;rcases h3 with rfl|⟨b,o,l,T,fr,rfl,h4,h5⟩
 ·exact⟨a,c,[],rfl,h1,by simp[iB],h2,pe,.inl ⟨rfl,rfl,rfl⟩,Sub.pe w⟩
 ·obtain⟨xs,r,e,hx⟩:=oW.1 h5;have hl:xs.length=fa.length*sz:=by rw[hx.length,wE h2]
  refine⟨_,c,xs,rfl,h1,hx,h2,one b (.cells l.toArray T fr),.inr ⟨b,o,l,T,fr,rfl,rfl,?_,hl,h1⟩,?_⟩
  ·rw[e,yp (by omega),mz (by omega)]
  ·intro b' o' e';simp only[one]at e';split at e'
   ·rename_i hb;subst hb;cases e';exact R.frozen _ _ h4
   ·cases e'
def mP {k:Ko} {L:List HP} {E:Ev} {s:St} {w:ag} (R:Rel k L E s w) {v:V} {y:ab} (hv:VR E v y) {sz:Nat} {fa:Q_ D} (h:Ik s v=aq (sz,fa)):
 ∃a c xs,y= .slice a fa.length c/\fa.length<=c/\iB E.F fa.flatten xs/\(∀el∈fa,el.length=sz)/\Sat w (FK sz a fa.length c xs):=by
 unfold Ik at h;split at h
 ·simp only[ba,cu]at h;obtain⟨rfl,rfl⟩:=h;simp only[VR]at hv;exact zMq R hv
 ·rename_i n;simp only[VR]at hv;obtain⟨sub,h1,h2⟩:=hv;split at h<;>first|(cases h;done)|skip
  ·rename_i t oB ln hg;simp only[ba,cu]at h;obtain⟨rfl,rfl⟩:=h;obtain⟨hd,x,q1,q2,q3⟩:=R.row hg (by simp);rw[h1]at q1;cases q1;simp only[fw]at q2;obtain⟨a,c,xs,rfl,q4,q5,q6⟩:=q2;exact⟨a,c,xs,rfl,(UT q6).2,q4,q5,x,nA q6,q3⟩
  ·rename_i oB ln hg;simp only[ba,cu]at h;obtain⟨rfl,rfl⟩:=h;obtain⟨hd,x,q1,q2,q3⟩:=R.row hg (by simp);rw[h1]at q1;cases q1;simp only[fw]at q2;exact zMq R q2.2
  ·rename_i t ln hg;simp only[ba,cu]at h;obtain⟨rfl,rfl⟩:=h;obtain⟨hd,x,q1,q2,q3⟩:=R.row hg (by simp);rw[h1]at q1;cases q1;simp only[fw]at q2;obtain⟨b,c,xs,r,rfl,q4,q5,q6,q7⟩:=q2;have hl:xs.length=ln.length*1:=by rw[q4.length,wE q5]
   exact⟨_,c,xs,rfl,q6,q4,q5,x,.inr ⟨b,0,xs++r,t,_,rfl,q7,by rw[Ee,yp (by omega),mz (by omega)],hl,q6⟩,q3⟩
 ·cases h
def zD (fa:Q_ D) (i f n:Nat):Option (List D):=
 match fa[i]? with
 |some el=>bif bg (f+n) el.length then aq ((el.drop f).take n)else ar
 |none=>ar
def XO:ab->(D->Prop)->Prop
 | .int k _,K=>∃n:Int,K (.v (.int k n))
 | .bool _,K=>∃b:Bool,K (.v (.bool b))
 | .string _,K=>∃s:ByteArray,K (.v (.string s))
 | .slice _ _ _,K=>∃(sz:Nat) (fa:Q_ D),K (.ro sz fa)
 |_,K=>∃d:D,K d
def shL:List ab->(List D->Prop)->Prop
 |[],K=>K []
 |z::zs,K=>XO z λd=>shL zs λds=>K (d::ds)
def PF (P:ac):Nat->ae->List ae
 |0,t=>[t]
 |f+1,t=>match P.underlying t with
  |some (.struct fs)=>(fs.toList.map λfd=>PF P f fd.type).flatten
  |some (.array n e)=>(ax n (PF P f e)).flatten
  |_=>[t]
def LI (P:ac):List ae->List ab->(List D->Prop)->Prop
 |t::ts,z::zs,K=>match g9 P t with
  |some sz=>∃fa:Q_ D,LI P ts zs λds=>K (.ro sz fa::ds)
  |none=>XO z λd=>LI P ts zs λds=>K (d::ds)
 |_,zs,K=>shL zs K
def FL (P:ac) (t:ae) (K:List D->Prop):Prop:=
 match pZ P t with
 |some z=>LI P (PF P 6 t) z.cells.toList K
 |none=>False
def yDn {z:ab} {K:D->Prop} (h:XO z K):∃d,K d:=by
 cases z<;>simp only[XO]at h<;>first|(obtain⟨n,h⟩:=h;exact⟨_,h⟩)|(obtain⟨a,n,h⟩:=h;exact⟨_,h⟩)
def z0z:∀{zs:List ab} {K:List D->Prop},shL zs K->∃ds,K ds
 |[],_,h=>⟨_,h⟩
 |_::_,_,h=>let⟨_,h1⟩:=yDn h;let⟨_,h2⟩:=z0z h1;⟨_,h2⟩
def Zk {P:ac}:∀{ts:List ae} {zs:List ab} {K:List D->Prop},LI P ts zs K->∃ds,K ds
 |t::ts,z::zs,K,h=>by
  unfold LI at h;split at h
  ·obtain⟨fa,h⟩:=h;obtain⟨ds,h⟩:=Zk h;exact⟨_,h⟩
  ·obtain⟨d,h⟩:=yDn h;obtain⟨ds,h⟩:=Zk h;exact⟨_,h⟩
 |[],zs,K,h=>by unfold LI at h;exact z0z h
 |t::ts,[],K,h=>by unfold LI at h;exact z0z h
def pM {P:ac} {t:ae} {K:List D->Prop} (h:FL P t K):∃ds,K ds:=by
 unfold FL at h;split at h
 ·exact Zk h
 ·exact h.elim
def Dt (P:ac) (t:ae) (ds:List D):Option V:=
 match EO P t with
 |some n=>bif be ds.length n then aq (.agg (ds.map .d))else ar
 |none=>bif Cz P t then(match ds with
  |[d]=>aq (.d d)
  |_=>ar)else ar
def zOm {P:ac} {E:Ev} {w:ag} {t sz i f:Nat} {fa:Q_ D} {b oo:Nat} {c:Nat} {xs:List ab} {ds:List D} {v:V} (hx:iB E.F fa.flatten xs) (hu:∀el∈fa,el.length=sz)
 (hs:Sat w (FK sz (aq ⟨b,oo,ar⟩) fa.length c xs)) (hp:zD fa i f ds.length=aq ds) (hm:Dt P t ds=aq v):∃y,VR E v y/\pY P t ⟨b,oo+i*sz+f,ar⟩ w y:=by
 unfold zD at hp;split at hp<;>first|(cases hp;done)|skip
 rename_i el oS;obtain⟨hb,hp⟩:=y4 hp;have hb:=Cg hb;have tv:=lh oS;have hi:i<fa.length:=(jm.1 oS).1;rw[hu el tv]at hb;obtain⟨b',o',l,T,fr,e1,e2,e3⟩:=Lr hs (by omega);cases e1;have nh:=(hx.drop (i*sz+f)).take ds.length;have hfp:=ZN hu oS hb;rw[hfp,bc hp]at nh;have hlen:xs.length=fa.length*sz:=by rw[hx.length,wE hu]
 have wu:i*sz+sz<=fa.length*sz:=by
  have:=xj sz (show i+1<=fa.length by omega);rwa [zr]at this
 have og:(l.drop (oo+i*sz+f)).take ds.length=(xs.drop (i*sz+f)).take ds.length:=by
  rw[<- e3,az,ay,Dl,Dh oo];congr 1;rw[FG];omega
 unfold Dt at hm;split at hm
 ·rename_i n hn;obtain⟨hq,hm⟩:=y4 hm;have:=jg hq;cases hm;refine⟨.agg ((xs.drop (i*sz+f)).take ds.length).toArray,by simp only[VR];exact⟨_,rfl,nh.Ow⟩,?_⟩;refine V0 hn e2 (by rw[<- this];exact og) ?_;rw[nh.length,this]
 ·obtain⟨hq,hm⟩:=y4 hm;split at hm<;>first|(cases hm;done)|skip
  rename_i d;cases hm;simp only[iF,tz,iB]at nh og;obtain⟨y,ys,e4,h4,h5⟩:=nh;subst h5;refine⟨y,by simpa only[VR]using h4,vY hq e2 ?_⟩;have:((l.drop (oo+i*sz+f)).take 1)[0]? =aq y:=by rw[og,e4];rfl
  rw[J5,fh (by omega),Bu]at this;simpa using this
def Xn (P:ac) (t:ae) (vs:List V) (off:Nat):Option V:=
 match EO P t with
 |some sz=>bif bg (off+sz) vs.length then aq (.agg ((vs.drop off).take sz))else ar
 |none=>bif Cz P t then vs[off]? else ar
def zOt {P:ac} {E:Ev} {w:ag} {t b off:Nat} {vs:List V} {l:List ab} {T:ae} {fr:Nat×Nat} {v:V} (hv:ib E vs l) (hb:w.heap[b]? =aq (.cells l.toArray T fr)) (h:Xn P t vs off=aq v):
 ∃y,VR E v y/\pY P t ⟨b,off,ar⟩ w y:=by
 unfold Xn at h;split at h
 ·rename_i n hn;obtain⟨hq,h⟩:=y4 h;have hq:=Cg hq;cases h;have hp:=(hv.drop off).take n;refine⟨.agg ((l.drop off).take n).toArray,by simp only[VR];exact⟨_,rfl,hp⟩,V0 hn hb rfl ?_⟩;rw[hp.length,nn,pd];omega
 ·obtain⟨hq,h⟩:=y4 h;obtain⟨y,h1,h2⟩:=hv.get h;exact⟨y,h2,vY hq hb h1⟩
def j6 (s:ByteArray):Q_ D:=s.data.toList.map λb=>[.v (.int .u8 b.toNat)]
def a8:ab->ab->Bool
 | .int k a,.int k' b=>xd k k' && decide (a=b)
 | .string a,.string b=>decide (a=b)
 |_,_=>av
def jK (x:ab):List (ab×List D)->Option (List D)
 |[]=>ar
 |(y,ds)::l=>bif a8 x y then aq ds else jK x l
def LK (es:List (ab×List D)) (x:ab) (z ds:List D) (b:Bool):Prop:=(jK x es=aq ds/\b=au)\/(jK x es=ar/\ds=z/\b=av)
def y6p:ab->Bool
 | .int _ _=>au
 |_=>av
def y8s:ab->Bool
 | .string _=>au
 |_=>av
def Oa (P:ac) (t:ae) (x:ab):Bool:=
 match P.underlying t with
 |some (.int _)=>y6p x
 |some .string=>y8s x
 |_=>av
def mc:ab->ab->Bool
 | .int k _,.int k' _=>xd k k'
 | .string _,.string _=>au
 |_,_=>av
def eZ (x:ab) (es:List (ab×List D)):Prop:=∀p∈es,mc x p.1=au
def gW (x:ab) (ds:List D):List (ab×List D)->List (ab×List D)
 |[]=>[(x,ds)]
 |(y,e)::l=>bif a8 x y then(y,ds)::l else(y,e)::gW x ds l
def CE (x:ab):List (ab×List D)->List (ab×List D)
 |[]=>[]
 |(y,e)::l=>bif a8 x y then l else(y,e)::CE x l
def HM (P:ac) (t:ae) (ds:List D):Option V:=
 match EO P t with
 |some n=>bif be ds.length n && !(be n 1)then aq (.agg (ds.map .d))else ar
 |none=>bif Cz P t then(match ds with
  |[d]=>aq (.d d)
  |_=>ar)else ar
def Hq (P:ac) (t:ae):Option (ae×ae):=
 match P.underlying t with
 |some (.map k e)=>aq (k,e)
 |_=>ar
def yRe {a b:ap} (h:xd a b=au):a=b:=by
 cases a<;>cases b<;>first|rfl|cases h
def y1b {x y:ab} (h:a8 x y=au):x=y:=by
 unfold a8 at h;split at h
 ·simp only[lr,tn]at h;rw[yRe h.1,h.2]
 ·rw[rf h]
 ·cases h
def Wi {P:ac} {t:ae} {x:ab} (h:Oa P t x=au):∃kd,P.underlying t=aq kd/\JM kd x:=by
 unfold Oa at h;split at h
 ·rename_i ik hu;refine⟨_,hu,.inl ?_⟩;cases x<;>first|(cases h;done)|exact⟨_,_,_,rfl,rfl⟩
 ·rename_i hu;refine⟨_,hu,.inr ?_⟩;cases x<;>first|(cases h;done)|exact⟨_,rfl,rfl⟩
 ·cases h
def yGj (s s':ByteArray):(s==s')=decide (s=s'):=by
 by_cases h:s=s'
 ·subst h;rw[jo rfl];show(s.data==s.data)=au;simp
 ·rw[jv h];cases hb:s==s'
  ·rfl
  ·have:(s.data==s'.data)=au:=hb;exact absurd (ByteArray.ext (eq_of_beq this)) h
def eW {kd:TypeDesc} {x y:ab} (hk:JM kd x) (hl:mc x y=au):Instr.sameNow kd x y=aq (a8 x y):=by
 rcases hk with⟨ik,k,n,rfl,rfl⟩|⟨s,rfl,rfl⟩
 ·cases y<;>simp only[mc,oR]at hl
  rename_i k' m;have:=yRe hl;subst this;simp only[Instr.sameNow,if_true,a8,hl,As];rfl
 ·cases y<;>simp only[mc,oR]at hl
  rename_i s';simp only[Instr.sameNow,a8];congr 1;exact yGj s s'
def z5i (k:ap):xd k k=au:=by cases k<;>rfl
def zWf {kd:TypeDesc} {x:ab} (hk:JM kd x):mc x x=au:=by
 rcases hk with⟨ik,k,n,rfl,rfl⟩|⟨s,rfl,rfl⟩
 ·exact z5i k
 ·rfl
def zYc {kd:TypeDesc} {x:ab} (hk:JM kd x):a8 x x=au:=by
 rcases hk with⟨ik,k,n,rfl,rfl⟩|⟨s,rfl,rfl⟩
 ·simp only[a8,z5i,As,decide_true]
 ·simp only[a8,decide_true]
def zYn {l:List ak} {ck:Nat} (h:uO l ck) {e:ak} (he:e.born=ck):uO (l++[e]) (ck+1):=by
 refine⟨?_,λx hx=> ?_⟩
 ·rw[jk,Au];refine⟨h.1,by simp,λa ha b hb=> ?_⟩;obtain⟨x,hx,rfl⟩:=np.1 ha;have:=h.2 x hx;simp only[jf,Bs,ua]at hb;omega
 ·rcases oK.1 hx with hx|hx
  ·have:=h.2 x hx;omega
  ·rw[ua.1 hx,he];omega
def Y2 {l:List ak} {ck q:Nat} (h:uO l ck) {m e:ak} (hm:l[q]? =aq m) (he:e.born=m.born):uO (l.set q e) ck:=by
 have hq:(l.set q e).map (·.born)=l.map (·.born):=by
  apply Dn;intro i;rw[qt,qt,Ce];split
  ·rename_i hi;subst hi;split
   ·rw[hm];simp[he]
   ·rename_i gu;rw[ui (by omega)];first|rfl|done
  ·rfl
 refine⟨by rw[hq];exact h.1,λx hx=> ?_⟩;rcases List.mem_or_eq_of_mem_set hx with hx|rfl
 ·exact h.2 x hx
 ·rw[he];exact h.2 m (lh hm)
def yAi {l:List ak} {ck q:Nat} (h:uO l ck):uO (l.eraseIdx q) ck:=
 ⟨((List.eraseIdx_sublist l q).map _).nodup h.1,λx hx=>h.2 x ((List.eraseIdx_sublist l q).mem hx)⟩
def yRf:uO [] 0:=⟨by simp,by simp⟩
def NK {F:PH} {kd:TypeDesc} {x:ab} (hk:JM kd x):∀{es:List (ab×List D)} {fy:List ak} (i:Nat),MR F es fy->eZ x es->
 (bv kd x fy i=aq ar/\jK x es=ar/\(∀ds,gW x ds es=es++[(x,ds)])/\CE x es=es/\∀e:ak,e.key=x->bv kd x (fy++[e]) i=aq (aq (i+fy.length,e.val)))\/
 (∃q m ds ys,bv kd x fy i=aq (aq (i+q,m.val))/\fy[q]? =aq m/\m.key=x/\jK x es=aq ds/\iB F ds ys/\m.val=sN ys/\
   (∀DC Ea (e:ak),iB F DC Ea->e.key=x->e.val=sN Ea->MR F (gW x DC es) (fy.set q e))/\MR F (CE x es) (fy.eraseIdx q)/\∀e:ak,e.key=x->bv kd x (fy.set q e) i=aq (aq (i+q,e.val)))
 |[],fy,i,h,_=>by
  simp only[MR]at h;subst h;exact .inl ⟨rfl,rfl,λds=>rfl,rfl,λe he=>by
   have hx:mc x x=au:=zWf hk;simp only[we,bv,he,eW hk hx,zYc hk];rfl⟩
 |(y,e)::es,fy,i,h,hl=>by
  simp only[MR]at h;obtain⟨m,ms,rfl,h1,⟨ys,h2,h3⟩,h4⟩:=h;have hy:mc x y=au:=hl (y,e) iX;have hs:=eW hk hy;cases hb:a8 x y with
  |true=>
   have XX:=y1b hb;refine .inr ⟨0,m,e,ys,?_,rfl,by rw[h1,XX],?_,h2,h3,?_,?_,?_⟩
   ·simp only[bv,h1,hs,hb];rfl
   ·simp only[jK,hb,cond_true]
   ·intro DC Ea e' q1 q2 q3;simp only[gW,hb,cond_true,Ol,MR];exact⟨e',ms,rfl,by rw[q2,XX],⟨Ea,q1,q3⟩,h4⟩
   ·simp only[CE,hb,cond_true,List.eraseIdx_cons_zero];exact h4
   ·intro e' rl;simp only[Ol,bv,rl,eW hk (zWf hk),zYc hk];rfl
  |false=>
   have hl':eZ x es:=λp hp=>hl p (ji _ hp)
   rcases NK hk (i+1) h4 hl' with⟨q1,q2,q3,q4,q5⟩|⟨q,m',ds,Ea,q1,q2,q3,q4,q5,q6,q7,q8,q9⟩
   ·refine .inl ⟨?_,?_,λds=> ?_,?_,λe' rl=> ?_⟩
    ·simp only[bv,h1,hs,hb];exact q1
    ·simp only[jK,hb,cond_false];exact q2
    ·simp only[gW,hb,cond_false,q3 ds,uh]
    ·simp only[CE,hb,cond_false,q4]
    ·simp only[uh,bv,h1,hs,hb];rw[q5 e' rl,iF,show i+1+ms.length=i+(ms.length+1)by omega]
   ·refine .inr ⟨q+1,m',ds,Ea,?_,i9 q2,q3,?_,q5,q6,?_,?_,λe' rl=> ?_⟩
    ·simp only[bv,h1,hs,hb];rw[q1,show i+1+q=i+(q+1)by omega]
    ·simp only[jK,hb,cond_false];exact q4
    ·intro DC ys2 e' r1 r2 r3;simp only[gW,hb,cond_false,Oj,MR];exact⟨m,_,rfl,h1,⟨ys,h2,h3⟩,q7 DC ys2 e' r1 r2 r3⟩
    ·simp only[CE,hb,cond_false,List.eraseIdx_cons_succ,MR];exact⟨m,_,rfl,h1,⟨ys,h2,h3⟩,q8⟩
    ·simp only[Oj,bv,h1,hs,hb];rw[q9 e' rl,show i+1+q=i+(q+1)by omega]
def wI {P:ac} {kt:ae} {kd:TypeDesc} (hu:P.underlying kt=aq kd) {x:ab} (hk:JM kd x) (b:Bool) (w:ag):(Instr.checkKey b 10000 kt x).run P w= .ok () w:=by
 rcases hk with⟨ik,k,n,rfl,rfl⟩|⟨s,rfl,rfl⟩<;>
  (unfold Instr.checkKey;simp only[bind,run_bind,Cv.run_underlying hu];rfl)
def vP {P:ac} {kt:ae} {kd:TypeDesc} (hu:P.underlying kt=aq kd) {x:ab} {fy:List ak} {r:Option (Nat×ab)} (h:bv kd x fy 0=aq r) (w:ag):(Instr.findKey kt x fy).run P w= .ok r w:=by
 simp only[Instr.findKey,bind,run_bind,Cv.run_underlying hu,h];rfl
def gG {P:ac} {t:ae} {ke:ae×ae} (h:Hq P t=aq ke):P.underlying t=aq (.map ke.1 ke.2):=by
 unfold Hq at h;split at h
 ·rename_i k e hu;cases h;exact hu
 ·cases h
def z0p {P:ac} {E:Ev} {t:ae} {ds:List D} {v:V} (h:HM P t ds=aq v) {ys:List ab} (hd:iB E.F ds ys):VR E v (sN ys):=by
 unfold HM at h;split at h
 ·obtain⟨hb,h⟩:=y4 h;cases h;simp only[lr,Dp]at hb;have h1:=jg hb.1;have hl:ys.length=ds.length:=hd.length;have:sN ys= .agg ys.toArray:=by
   unfold sN;split
   ·rename_i y;rw[h1]at hl;simp only[iF,tz]at hl;rw[<- hl]at hb;exact absurd hb.2 (by decide)
   ·rfl
  rw[this];simp only[VR];exact⟨ys,rfl,hd.Ow⟩
 ·obtain⟨hb,h⟩:=y4 h;split at h<;>first|(cases h;done)|skip
  cases h;simp only[iB]at hd;obtain⟨x,xs,rfl,h1,rfl⟩:=hd;simpa only[VR,sN]using h1
def Nx (P:ac) (t:ae):Option (List D):=
 match pZ P t with
 |some (.agg cs)=>(match EO P t with
  |some _=>bif okc (.agg cs)then aq (cs.toList.map .v)else ar
  |none=>ar)
 |some z=>(match EO P t with
  |some _=>ar
  |none=>bif z.oq then aq [.v z]else ar)
 |none=>ar
def yMy {P:ac} {E:Ev} {t:ae} {ds:List D} {v:V} (h:Nx P t=aq ds) (hm:HM P t ds=aq v):∃z,pZ P t=aq z/\VR E v z:=by
 unfold Nx at h;split at h
 ·rename_i cs hz;split at h<;>first|(cases h;done)|skip
  rename_i n hn;obtain⟨hb,h⟩:=y4 h;cases h;refine⟨_,hz,?_⟩;simp only[HM,hn]at hm;obtain⟨_,hm⟩:=y4 hm;cases hm;simp only[VR];refine⟨cs.toList,by simp,?_⟩;rw[wb];exact yMs hb
 ·rename_i z jy hz;split at h<;>first|(cases h;done)|skip
  rename_i hn;obtain⟨hb,h⟩:=y4 h;cases h;refine⟨_,hz,?_⟩;simp only[HM,hn]at hm;obtain⟨_,hm⟩:=y4 hm;cases hm;simp only[VR,DR];exact⟨trivial,hb⟩
 ·cases h
def Lp (s:St) (n:Nat):Option Nat:=
 match s.get n with
 |some (.kj _ _ _ _ l _)=>aq l.length
 |_=>ar
def zLr {k:Ko} {L:List HP} {E:Ev} {s:St} {w:ag} (R:Rel k L E s w) {n len:Nat} (h:Lp s n=aq len):
 ∃a c sub,E.gj[n]? =aq (.slice a len c,sub)/\sub.length=len/\(∀p∈sub,∃b oo,p= .pointer (aq ⟨b,oo,ar⟩))/\Sat w (FK 1 a len c sub):=by
 unfold Lp at h;split at h<;>first|(cases h;done)|skip
 rename_i t T m iz l hole hg;cases h;obtain⟨⟨v,sub⟩,x,h1,h2,h3⟩:=R.row hg (by simp);simp only[fw]at h2;obtain⟨a,c,e1,e2,e3,e4⟩:=h2;obtain⟨g,g',q1,q2,q3,rfl⟩:=e4;subst e1;exact⟨a,c,sub,h1,e2,e3,g,nA q1,λb o e=>h3 b o (by simp[un,e])⟩
structure py where
 q:Bool
 T:Nat
 sz:Nat
 fa:Q_ D
 i:Nat
 f:Nat
 b:Bool
 m:Option Nat
def nH (s:St) (n:Nat):Option py:=
 match s.get n with
 |some (.uf q t sz fa i f b m)=>aq ⟨q,t,sz,fa,i,f,b,m⟩
 |_=>ar
def tY {s:St} {n:Nat} {x:py} (h:nH s n=aq x):s.get n=aq (.uf x.q x.T x.sz x.fa x.i x.f x.b x.m):=by
 unfold nH at h;split at h<;>first|(cases h;done)|skip
 rename_i hg;cases h;exact hg
def py.clear (x:py) (i f k:Nat):Prop:=x.f<x.sz/\(x.b=au->i=x.i->f+k<=x.f\/x.f<f)
def Rel.uf {k:Ko} {L:List HP} {E:Ev} {s:St} {w:ag} (R:Rel k L E s w) {n:Nat} {x:py} (h:nH s n=aq x):
 ∃a c sub ys xs,E.gj[n]? =aq (.slice a x.fa.length c,sub)/\iB E.F x.fa.flatten ys/\(∀el∈x.fa,el.length=x.sz)/\zn E.gj (x.i*x.sz+x.f) x.b ys xs x.m/\Sat w (FK x.sz a x.fa.length c xs):=by
 obtain⟨⟨hv,sub⟩,z,h1,h2,h3⟩:=R.row (tY h) (by simp);simp only[fw]at h2;obtain⟨a,c,ys,xs,rfl,q2,q3,q4,q5⟩:=h2;exact⟨a,c,sub,ys,xs,h1,q2,q3,q4,z,nA q5,h3⟩
def Y7 {gj:List Hd} {p:Nat} {b:Bool} {ys xs:List ab}:∀{m:Option Nat},zn gj p b ys xs m->xs.length=ys.length
 |some m,⟨y,l,h1,h2,h3⟩=>by cases b<;>simp[h3]
 |none,⟨y,h1,h3⟩=>by cases b<;>simp[h3]
def yPl {gj:List Hd} {p:Nat} {b:Bool} {ys xs:List ab}:∀{m:Option Nat},zn gj p b ys xs m->∀o n,(b=au->o+n<=p\/p<o)->(xs.drop o).take n=(ys.drop o).take n:=by
 have key:∀{y:ab},xs=(bif b then ys.set p y else ys)->∀o n,(b=au->o+n<=p\/p<o)->(xs.drop o).take n=(ys.drop o).take n:=by
  intro y h o n hc;cases b with
  |false=>rw[h];rfl
  |true=>
   rw[h,cond_true];apply Dn;intro j;rw[J5,J5];split
   ·rw[Bu,Bu,Ce,ez (by have:=hc rfl;omega)]
   ·rfl
 intro m;cases m with
 |none=>rintro⟨y,_,h⟩;exact key h
 |some m=>rintro⟨y,l,_,_,h⟩;exact key h
def yHj {sz i f i0 f0 k:Nat} (h1:f+k<=sz) (h2:f0<sz) (jy:i=i0->f+k<=f0\/f0<f):i*sz+f+k<=i0*sz+f0\/i0*sz+f0<i*sz+f:=by
 rcases Nat.lt_trichotomy i i0 with h|h|h
 ·have:=xj sz (show i+1<=i0 by omega);rw[zr]at this;left;omega
 ·subst h;rcases jy rfl with h|h
  ·left;omega
  ·right;omega
 ·have:=xj sz (show i0+1<=i by omega);rw[zr]at this;right;omega
def zVx {P:ac} {E:Ev} {w:ag} {t sz i f:Nat} {fa:Q_ D} {b oo:Nat} {c:Nat} {xs:List ab} {ds:List D} {v:V} (hlen:xs.length=fa.length*sz) (hu:∀el∈fa,el.length=sz)
 (hs:Sat w (FK sz (aq ⟨b,oo,ar⟩) fa.length c xs)) (hp:zD fa i f ds.length=aq ds) (nh:iB E.F ds ((xs.drop (i*sz+f)).take ds.length)) (hm:Dt P t ds=aq v):∃y,VR E v y/\pY P t ⟨b,oo+i*sz+f,ar⟩ w y:=by
 unfold zD at hp;split at hp<;>first|(cases hp;done)|skip
 rename_i el oS;obtain⟨hb,hp⟩:=y4 hp;have hb:=Cg hb;have tv:=lh oS;have hi:i<fa.length:=(jm.1 oS).1;rw[hu el tv]at hb;obtain⟨b',o',l,T,fr,e1,e2,e3⟩:=Lr hs (by omega);cases e1;have wu:i*sz+sz<=fa.length*sz:=by
  have:=xj sz (show i+1<=fa.length by omega);rwa [zr]at this
 have og:(l.drop (oo+i*sz+f)).take ds.length=(xs.drop (i*sz+f)).take ds.length:=by
  rw[<- e3,az,ay,Dl,Dh oo];congr 1;rw[FG];omega
 unfold Dt at hm;split at hm
 ·rename_i n hn;obtain⟨hq,hm⟩:=y4 hm;have:=jg hq;cases hm;refine⟨.agg ((xs.drop (i*sz+f)).take ds.length).toArray,by simp only[VR];exact⟨_,rfl,nh.Ow⟩,?_⟩;refine V0 hn e2 (by rw[<- this];exact og) ?_;rw[nh.length,this]
 ·obtain⟨hq,hm⟩:=y4 hm;split at hm<;>first|(cases hm;done)|skip
  rename_i d;cases hm;simp only[iF,tz,iB]at nh og;obtain⟨y,ys,e4,h4,h5⟩:=nh;subst h5;refine⟨y,by simpa only[VR]using h4,vY hq e2 ?_⟩;have:((l.drop (oo+i*sz+f)).take 1)[0]? =aq y:=by rw[og,e4];rfl
  rw[J5,fh (by omega),Bu]at this;simpa using this
def z2u (P:ac) (t:ae) (x:py) (sz i f:Nat) (K:V->Prop):Prop:=
 bif be sz x.sz then(match x.q,x.m,g9 P t with
  |true,aq c,aq _=>bif Cz P t then(i=x.i/\f=x.f/\x.b=au/\i<x.fa.length/\f<sz)/\K (.own c)else False
  |_,_,_=>FL P t λds=>zD x.fa i f ds.length=aq ds/\x.clear i f ds.length/\iD (Dt P t ds) K)else False
def yCr {P:ac} {k:Ko} {L:List HP} {E:Ev} {s:St} {w:ag} (R:Rel k L E s w) {t n sz i f:Nat} {x:py} {K:V->Prop} (hx:nH s n=aq x) (h:z2u P t x sz i f K)
 {b oo m c:Nat} {l:List ab} (e1:E.gj[n]? =aq (.slice (aq ⟨b,oo,ar⟩) m c,l)):∃v y,K v/\VR E v y/\pY P t ⟨b,oo+i*sz+f,ar⟩ w y:=by
 unfold z2u at h;obtain⟨hb,h⟩:=zM h;have e:=jg hb;subst e;obtain⟨a,c',sub,ys,xs,q1,q2,q3,q4,q5⟩:=R.uf hx;rw[e1]at q1;cases q1;have Dv:ys.length=x.fa.length*x.sz:=by rw[q2.length,wE q3]
 have CK:xs.length=x.fa.length*x.sz:=by rw[Y7 q4,Dv]
 split at h
 ·rename_i cc tt hq hm hs;obtain⟨R7,⟨rfl,rfl,hbt,hi,hf⟩,hk⟩:=zM h;rw[hm]at q4;obtain⟨y,ly,r1,⟨ya,yn,yc,r2⟩,r3⟩:=q4;rw[hbt,cond_true]at r3;have wu:x.i*x.sz+x.sz<=x.fa.length*x.sz:=by
   have:=xj x.sz (show x.i+1<=x.fa.length by omega);rwa [zr]at this
  obtain⟨b',o',l',T,fr,e2,e3,e4⟩:=Lr q5 (by omega);cases e2;refine⟨_,y,hk,by simp only[VR];exact⟨ly,r1,ya,yn,yc,r2⟩,vY R7 e3 ?_⟩;have:xs[x.i*x.sz+x.f]? =aq y:=by rw[r3,Ce,fh rfl,fh (by omega)]
  rw[<- e4,J5,fh (by omega),Bu]at this;rw[show oo+x.i*x.sz+x.f=oo+(x.i*x.sz+x.f)by omega];exact this
 ·obtain⟨ds,hp,⟨xv,wv⟩,h⟩:=pM h;obtain⟨v,hm,hk⟩:=zN h;have OM:=hp;unfold zD at OM;split at OM<;>first|(cases OM;done)|skip
  rename_i el oS;obtain⟨IN,OM⟩:=y4 OM;have IN:=Cg IN;rw[q3 el (lh oS)]at IN;have nh:=(q2.drop (i*x.sz+f)).take ds.length;rw[ZN q3 oS IN,bc OM]at nh;rw[<- yPl q4 (i*x.sz+f) ds.length (λhb=>yHj IN xv (wv hb))]at nh;obtain⟨y,hy,hh⟩:=zVx CK q3 q5 hp nh hm;exact⟨v,y,hk,hy,hh⟩
def yCu (P:ac) (t:ae) (fa:Q_ D) (i f:Nat) (K:V->Prop):Prop:=
 bif LB P t then(zD fa i f 1=aq [.v (.slice ar 0 0)]/\iD (Dt P t [.v (.slice ar 0 0)]) K)\/(FL P t λds=>zD fa i f ds.length=aq ds/\iD (Dt P t ds) K)
 else FL P t λds=>zD fa i f ds.length=aq ds/\iD (Dt P t ds) K
def zUp {P:ac} {t:ae} {fa:Q_ D} {i f:Nat} {K:V->Prop} (h:yCu P t fa i f K):∃ds v,zD fa i f ds.length=aq ds/\Dt P t ds=aq v/\K v:=by
 have h2:(FL P t λds=>zD fa i f ds.length=aq ds/\iD (Dt P t ds) K)->∃ds v,zD fa i f ds.length=aq ds/\Dt P t ds=aq v/\K v:=λh=>by
  obtain⟨ds,hp,h⟩:=pM h;obtain⟨v,hm,hk⟩:=zN h;exact⟨ds,v,hp,hm,hk⟩
 unfold yCu at h;cases hu:LB P t<;>rw[hu]at h<;>simp only[cond_true,cond_false]at h
 ·exact h2 h
 ·rcases h with⟨hp,h⟩|h
  ·obtain⟨v,hm,hk⟩:=zN h;exact⟨[.v (.slice ar 0 0)],v,hp,hm,hk⟩
  ·exact h2 h
def sr (P:ac) (o:am) (ρ:xF) (s:St) (K:V->Prop):Prop:=
 match o.op with
 | .load t x=>match ma ρ x with
   | .nm n off=>match s.get n with
     |some (.cells vs _)=>iD (Xn P t vs off) K
     |_=>False
   | .el n sz i f=>match Lp s n with
     |some len=>bif be sz 1 && be f 0 && Cz P t then i<len/\K (.sub n i)else False
     |none=>match nH s n with
     |some x=>z2u P t x sz i f K
     |none=>iD (Ik s (.own n)) λse=>bif be sz se.1 then yCu P t se.2 i f K else False
   | .re sz fa i f=>FL P t λds=>zD fa i f ds.length=aq ds/\iD (Dt P t ds) K
   | .na n off i=>match s.get n with
     |some (.cells vs _)=>bif Cz P t then FL P t λds=>match ds with
      |[d]=>(vs.drop off)[i]?=aq (.d d)/\K (.d d)
      |_=>False else False
     |some (.vec es _)=>bif Cz P t then FL P t λds=>match ds with
      |[d]=>(es.drop off)[i]?=aq d/\K (.d d)
      |_=>False else False
     |_=>False
   |_=>False
 | .indexAddr t x i=>match ma ρ x with
   | .own n=>match ma ρ i with
     | .d (.v (.int _ i))=>iD (g9 P t) λsz=>match Lp s n with
       |some len=>bif be sz 1 then(0<=i/\i<len)/\K (.el n 1 i.toNat 0)else False
       |none=>match nH s n with
       |some x=>bif be sz x.sz then(0<=i/\i<x.fa.length)/\K (.el n sz i.toNat 0)else False
       |none=>iD (Ik s (.own n)) λse=>bif be sz se.1 then(0<=i/\i<se.2.length)/\K (.el n sz i.toNat 0)else False
     |_=>False
   |_=>False
 | .binOp op t x y _=>match ma ρ x with
   | .own n=>bif WO y && Ih P t then iD (Ik s (.own n)) λse=>yAw op se.2 K else False
   |_=>False
 | .convert st d x=>bif LB P st && Ls P d then iD (Ik s (ma ρ x)) λse=>∃b:ByteArray,se.1=1/\se.2=j6 b/\K (.d (.v (.string b)))else False
 | .call c=>match c.callee with
   | .builtin .len=>match DA ρ c.args.toList with
     |[.own n]=>iD c.argTypes[0]? λt=>bif Ih P t then(match Lp s n with
      |some len=>K (.d (.v (.int .i64 len)))
      |none=>iD (Ik s (.own n)) λse=>K (.d (.v (.int .i64 se.2.length))))else False
     |[.mp n]=>iD c.argTypes[0]? λt=>bif z9b P t then(match s.get n with
      |some (.map es)=>K (.d (.v (.int .i64 es.length)))
      |_=>False)else False
     |_=>False
   |_=>False
 | .lookup t x i ok=>match ma ρ x with
   | .mp n=>match s.get n with
     |some (.map es)=>iD (Hq P t) λke=>iD (Hr (ma ρ i)) λkv=>bif Oa P ke.1 kv then iD (Nx P ke.2) λz=>eZ kv es/\∃b,FL P ke.2 λds=>LK es kv z ds b/\iD (HM P ke.2 ds) λv=>K (bif ok then .je [v,.d (.v (.bool b))]else v)else False
     |_=>False
   |_=>False
 |_=>False
def xJi (P:ac) (E:Ev) (o:am) (ρ:Env) (w:ag) (K:V->Prop):Prop:=∃v y,K v/\VR E v y/\(af (ev ρ) o).run P w=.ok (.value y) w
def yAk {P:ac} {F:PH} {b:ByteArray} {xs:List ab} (h:iB F (j6 b).flatten xs):xs=(b.data.toList.map UInt8.toNat).map λ(n:Nat)=>Value.int .u8 (n:Int):=by
 unfold j6 at h;revert h;generalize b.data.toList=l
 induction l generalizing xs with
 |nil=>intro h;simpa[iB]using h
 |cons a l ih=>
  intro h;simp only[jf,A9,uh,we,iB,DR]at h;obtain⟨x,ys,rfl,⟨rfl,_⟩,h⟩:=h;simp only[jf];rw[ih h]
def Y5 {P:ac} {k:Ko} {L:List HP} {E:Ev} {s:St} {w:ag} (R:Rel k L E s w) {ρS:xF} {ρ:Env} (he:lj E ρS ρ) {o:am} {K:V->Prop} (h:sr P o ρS s K):xJi P E o ρ w K:=by
 cases ho:o.op
 case load t x=>
  simp only[sr,ho]at h;have hv:=he.ev x;split at h<;>first|exact h.elim|skip
  ·rename_i n off hx;rw[hx]at hv;simp only[VR]at hv;obtain⟨b,oo,l,e1,e2⟩:=hv;split at h<;>first|exact h.elim|skip
   rename_i vs T hg;obtain⟨v,hp,hk⟩:=zN h;obtain⟨b',l',sub,q1,q2,q3⟩:=R.cells hg;rw[e1]at q1;cases q1;obtain⟨y,hy,hh⟩:=zOt q2 q3 hp;refine⟨v,y,hk,hy,?_⟩;simp only[af,ho,e2,nq];exact yJ hh
  ·rename_i n sz i f hx;rw[hx]at hv;simp only[VR]at hv;obtain⟨b,oo,m,c,l,e1,e2⟩:=hv;split at h
   ·rename_i len Kg;obtain⟨hb,hi,hk⟩:=zM h;simp only[lr]at hb;have b1:=jg hb.1.1;have b2:=jg hb.1.2;subst b1 b2;obtain⟨a,c',sub,q1,q2,q3,q4⟩:=zLr R Kg;rw[e1]at q1;cases q1;obtain⟨bb,o',ll,T,fr,r1,r2,r3⟩:=Lr q4 (by omega);cases r1;obtain⟨p,hp⟩:∃p,l[i]? =aq p:=⟨_,vd (by omega)⟩
    obtain⟨pb,po,rfl⟩:=q3 p (lh hp);refine⟨.sub n i,.pointer (aq ⟨pb,po,ar⟩),hk,by simp only[VR];exact⟨_,l,pb,po,e1,hp,rfl⟩,?_⟩;simp only[af,ho,e2];refine yJ (vY hb.2 r2 ?_);rw[<- r3,J5,fh (by omega),Bu]at hp;rw[show oo+i*1+0=oo+i by omega];exact hp
   split at h
   ·rename_i x hx;obtain⟨v,y,hk,hy,hh⟩:=yCr R hx h e1;refine⟨v,y,hk,hy,?_⟩;simp only[af,ho,e2];exact yJ hh
   obtain⟨⟨oB,fa⟩,hd,h⟩:=zN h;obtain⟨hb,h⟩:=zM h;have:=jg hb;simp only at this;subst this;obtain⟨ds,v,hp,hm,hk⟩:=zUp h;obtain⟨a,c',xs,q1,q2,q3,q4,q5⟩:=mP R (v:= .own n) (y:= .slice (aq ⟨b,oo,ar⟩) m c) (by simp only[VR];exact⟨l,e1,_,_,_,rfl⟩) hd;cases q1;obtain⟨y,hy,hh⟩:=zOm q3 q4 q5 hp hm;refine⟨v,y,hk,hy,?_⟩;simp only[af,ho,e2];exact yJ hh
  ·rename_i sz fa i f hx;rw[hx]at hv;simp only[VR]at hv;obtain⟨e0,e1,b,oo,l,T,fr,e2,e3,e4⟩:=hv;obtain⟨ds,hp,h⟩:=pM h;obtain⟨v,hm,hk⟩:=zN h;obtain⟨a,c',xs,q1,q2,q3,q4,q5⟩:=zMq R (sz:=sz) (fa:=fa) (y:= .slice (aq ⟨b,oo,ar⟩) fa.length fa.length) (by
    simp only[DR];exact⟨_,_,rfl,ju _,e1,.inr ⟨b,oo,l,T,fr,rfl,e3,e4⟩⟩)
   cases q1;obtain⟨y,hy,hh⟩:=zOm q3 q4 q5 hp hm;refine⟨v,y,hk,hy,?_⟩;simp only[af,ho,e2];exact yJ hh
  ·rename_i n off i hx;rw[hx]at hv;simp only[VR]at hv;obtain⟨b,oo,l,e1,e2⟩:=hv;split at h<;>first|exact h.elim|skip
   rename_i vs T hg;obtain⟨R7,h⟩:=zM h;obtain⟨ds,h⟩:=pM h;split at h<;>first|exact h.elim|skip
   rename_i d;obtain⟨hd,hk⟩:=h;obtain⟨b',l',sub,q1,q2,q3⟩:=R.cells hg;rw[e1]at q1;cases q1;obtain⟨y,hy,hh⟩:=(q2.drop off).get hd;rw[Bu]at hy;refine⟨.d d,y,hk,hh,?_⟩;simp only[af,ho,e2,nq];exact yJ (vY R7 q3 hy);rename_i vs T hg;obtain⟨R7,h⟩:=zM h;obtain⟨ds,h⟩:=pM h;split at h<;>first|exact h.elim|skip
   rename_i d;obtain⟨hd,hk⟩:=h;obtain⟨b',l',sub,q1,q2,q3⟩:=R.vec hg;rw[e1]at q1;cases q1;obtain⟨y,hy,hh⟩:=(q2.drop off).get hd;rw[Bu]at hy;refine⟨.d d,y,hk,by simpa only[VR]using hh,?_⟩;simp only[af,ho,e2,nq];exact yJ (vY R7 q3 hy)
 case indexAddr t x i=>
  simp only[sr,ho]at h;have hv:=he.ev x;split at h<;>first|exact h.elim|skip
  rename_i n hx;split at h<;>first|exact h.elim|skip
  rename_i kk i' hi;have Bf:=he.ev i;rw[hi]at Bf;have Bf:=Bf.Ez;obtain⟨sz,hs,h⟩:=zN h;split at h
  ·rename_i len Kg;obtain⟨hb,⟨h0,h1⟩,hk⟩:=zM h;have b1:=jg hb;subst b1;obtain⟨a,c',sub,q1,q2,q3,q4⟩:=zLr R Kg;rw[hx]at hv;simp only[VR]at hv;obtain⟨l,e1,_⟩:=hv;rw[q1]at e1;obtain⟨b,oo,ll,T,fr,rfl,r2,r3⟩:=Lr q4 (by omega);have e1:=bc e1;have e2:ev ρ x= .slice (aq ⟨b,oo,ar⟩) len c':=(congrArg Prod.fst e1).symm;refine⟨_,.pointer (aq ⟨b,oo+i'.toNat*1+0,ar⟩),hk,by simp only[VR];exact⟨_,_,_,_,_,q1,rfl⟩,?_⟩;simp only[af,ho,e2,Bf];refine yJ ?_;rw[wQ hs ⟨h0,by omega⟩,h9];rfl
  split at h
  ·rename_i xh hxh;obtain⟨hb,⟨h0,h1⟩,hk⟩:=zM h;have b1:=jg hb;subst b1;obtain⟨a,c',sub,ys,xs,q1,q2,q3,q4,q5⟩:=R.uf hxh;rw[hx]at hv;simp only[VR]at hv;obtain⟨l,e1,_⟩:=hv;rw[q1]at e1;obtain⟨b,oo,ll,T,fr,rfl,r2,r3⟩:=Lr q5 (by omega);have e1:=bc e1;have e2:ev ρ x= .slice (aq ⟨b,oo,ar⟩) xh.fa.length c':=(congrArg Prod.fst e1).symm;refine⟨_,.pointer (aq ⟨b,oo+i'.toNat*xh.sz+0,ar⟩),hk,by simp only[VR];exact⟨_,_,_,_,_,q1,rfl⟩,?_⟩;simp only[af,ho,e2,Bf];refine yJ ?_;rw[wQ hs ⟨h0,by omega⟩,h9];rfl
  obtain⟨⟨oB,fa⟩,hd,h⟩:=zN h;obtain⟨hb,⟨h0,h1⟩,hk⟩:=zM h;have:=jg hb;simp only at this;subst this;simp only at h1;rw[hx]at hv;have Kc:=hv;simp only[VR]at Kc;obtain⟨sub,e1,_⟩:=Kc;obtain⟨a,c',xs,q1,q2,q3,q4,q5⟩:=mP R hv hd;obtain⟨b,oo,l,T,fr,rfl,e2,e3⟩:=Lr q5 (by omega);rw[q1]at e1;refine⟨_,.pointer (aq ⟨b,oo+i'.toNat*sz+0,ar⟩),hk,by simp only[VR];exact⟨_,_,_,_,_,e1,rfl⟩,?_⟩;simp only[af,ho,q1,Bf];refine yJ ?_;rw[wQ hs ⟨h0,by omega⟩,h9];rfl
 case binOp op t x y u=>
  simp only[sr,ho]at h;split at h<;>first|exact h.elim|skip
  rename_i n hx;obtain⟨hb,h⟩:=zM h;simp only[lr]at hb;obtain⟨⟨oB,fa⟩,hd,hk⟩:=zN h;have hv:=he.ev x;rw[hx]at hv;obtain⟨a,c',xs,q1,q2,q3,q4,q5⟩:=mP R hv hd;obtain⟨v,y',h1,h2,h3⟩:=zUm (E:=E) ho hb.1 hb.2 q1 (λha=>by
   obtain⟨z,hz,_⟩:=q5;rcases hz with⟨h1,_⟩|⟨_,_,_,_,_,h1,_⟩
   ·exact xq h1
   ·rw[ha]at h1;cases h1) hk
  exact⟨v,y',h1,h2,h3 w⟩
 case convert st d x=>
  simp only[sr,ho]at h;obtain⟨hb,h⟩:=zM h;simp only[lr]at hb;obtain⟨⟨oB,fa⟩,hd,h⟩:=zN h;obtain⟨b,rfl,rfl,hk⟩:=h;obtain⟨a,c',xs,q1,q2,q3,q4,q5⟩:=mP R (he.ev x) hd;refine⟨_,.string b,hk,wP rfl,?_⟩;obtain⟨e,hes,hu⟩:=yLs hb.1;simp only[af,ho,q1];refine yJ ?_;have wk:=yAk (P:=P) q3;obtain⟨r1,hfc,r3⟩:=PE (P:=P) (.inl ⟨a,c',rfl,q5⟩);rcases a with _|ad
  ·obtain⟨x,hx,hs⟩:=q5;have hz:(j6 b).length=0:=by
    rcases hx with⟨h1,_⟩|⟨_,_,_,_,_,h1,_⟩
    ·exact h1
    ·cases h1
   have OU:b= .empty:=by
    unfold j6 at hz;simp at hz;simpa using hz
   subst OU;simp only[convert,bind,run_bind,Cv.run_underlying hes,Cv.run_underlying (rD hb.2),Cv.run_underlying hu];rfl
  ·simp only[cx,Nat.mul_one]at hfc;rw[wk]at hfc;simp only[convert,bind,run_bind,Cv.run_underlying hes,Cv.run_underlying (rD hb.2),Cv.run_underlying hu,Conv.bytesToString,hfc];rw[<- Array.forIn_toList];simp only[bind,pure];rw[zJr (P:=P) w (λ_ _=>rfl) _ .empty];simp only[ce];congr 2;rw[Cv.Hl];apply ByteArray.ext;simp
 case call c=>
  simp only[sr,ho]at h;split at h<;>first|exact h.elim|skip
  rename_i hc;obtain⟨ys,e1,e2⟩:=mD he c.args;split at h<;>first|exact h.elim|skip
  ·rename_i n oa;obtain⟨t,ht,h⟩:=zN h;obtain⟨hs,h⟩:=zM h;split at h
   ·rename_i len Kg;rw[oa]at e2;simp only[ib,VR]at e2;obtain⟨y,_,rfl,⟨l,hv,_⟩,rfl⟩:=e2;obtain⟨a,c',sub,q1,q2,q3,q4⟩:=zLr R Kg;rw[hv]at q1;have e3:y= .slice a len c':=congrArg Prod.fst (bc q1);subst e3;refine⟨_,.int .i64 len,h,wP rfl,?_⟩;rw[wJ ho hc,e1];obtain⟨e,L9⟩:=tR hs;refine yJ ?_;simp only[cw,ht,Bc,CG,bind,run_bind,Cv.run_underlying L9];rfl
   obtain⟨⟨oB,fa⟩,hd,hk⟩:=zN h;rw[oa]at e2;simp only[ib]at e2;obtain⟨y,_,rfl,hv,rfl⟩:=e2;obtain⟨a,c',xs,rfl,q2,q3,q4,q5⟩:=mP R hv hd;refine⟨_,.int .i64 fa.length,hk,wP rfl,?_⟩;rw[wJ ho hc,e1];obtain⟨e,L9⟩:=tR hs;refine yJ ?_;simp only[cw,ht,Bc,CG,bind,run_bind,Cv.run_underlying L9];rfl
  ·rename_i n oa;obtain⟨t,ht,h⟩:=zN h;obtain⟨hs,h⟩:=zM h;split at h<;>first|exact h.elim|skip
   rename_i es hg;rw[oa]at e2;simp only[ib,VR]at e2;obtain⟨y,_,rfl,⟨bm,sub,e3,rfl⟩,rfl⟩:=e2;obtain⟨hd,x,q1,q2,q3⟩:=R.row hg (by simp);rw[e3]at q1;cases q1;simp only[fw]at q2;obtain⟨b,fy,ck,e4,e5,e6,rfl⟩:=q2;cases e4;have hm:=q3 bm _ (by simp[one];rfl);have hl:fy.length=es.length:=by
    clear q3 hm hg h e6
    induction es generalizing fy with
    |nil=>simp only[MR]at e5;rw[e5];rfl
    |cons p es ih=>obtain⟨m,ms,rfl,_,_,e5⟩:=e5;simp[ih _ e5]
   refine⟨_,.int .i64 es.length,h,wP rfl,?_⟩;rw[wJ ho hc,e1];obtain⟨kt,e,L9⟩:=z8e hs;refine yJ ?_;simp only[cw,ht,Bc,CG,bind,run_bind,Cv.run_underlying L9,qX hm trivial];simp[pure,ce,goInt,hl]
 case lookup t x i ok=>
  simp only[sr,ho]at h;split at h<;>first|exact h.elim|skip
  rename_i n hx;split at h<;>first|exact h.elim|skip
  rename_i es hg;obtain⟨ke,Cl,h⟩:=zN h;obtain⟨kv,IL,h⟩:=zN h;obtain⟨Sm,h⟩:=zM h;obtain⟨z,hz,Cn,b,h⟩:=zN h;obtain⟨ds,Sk,h⟩:=pM h;obtain⟨v,hm,hk⟩:=zN h;have hv:=he.ev x;rw[hx]at hv;simp only[VR]at hv;obtain⟨bm,sub,e1,e2⟩:=hv;obtain⟨hd,x',q1,q2,q3⟩:=R.row hg (by simp);rw[e1]at q1;cases q1;simp only[fw]at q2;obtain⟨b',fy,ck,e4,e5,e6,rfl⟩:=q2;rw[e2]at e4;cases e4;have Si:=q3 bm _ (by simp[one];rfl);have hi:ev ρ i=kv:=lX IL (he.ev i);obtain⟨kd,hu,zc⟩:=Wi Sm;have E8:∀v,HM P ke.2 z=aq v->∃zv,pZ P ke.2=aq zv/\VR E v zv:=λv hv=>yMy hz hv
  refine⟨bif ok then .je [v,.d (.v (.bool b))]else v,?_⟩;have run:∃y,VR E v y/\(cd t (.map (aq bm)) kv ok).run P w= .ok (if ok then .tuple #[y,.bool b]else y) w:=by
   rcases NK zc 0 e5 Cn with⟨r1,r2,r3,r4,_⟩|⟨q,m,DC,ys,r1,r2,r3,r4,r5,r6,r7,r8,_⟩
   ·rcases Sk with⟨l1,l2⟩|⟨l1,l2,l3⟩
    ·rw[r2]at l1;cases l1
    ·subst l2 l3;obtain⟨zv,z1,z2⟩:=E8 v hm;refine⟨zv,z2,?_⟩;simp only[cd,bind,run_bind,Cv.run_underlying (gG Cl),qX Si trivial,pure,ce,wI hu zc,vP hu r1,me (bT z1)]
   ·rcases Sk with⟨l1,l2⟩|⟨l1,l2,l3⟩
    ·rw[r4]at l1;cases l1;subst l2;refine⟨sN ys,z0p hm r5,?_⟩;simp only[cd,bind,run_bind,Cv.run_underlying (gG Cl),qX Si trivial,pure,ce,wI hu zc,vP hu r1,r6]
    ·rw[r4]at l1;cases l1
  obtain⟨y,hy,jr⟩:=run;refine⟨if ok then .tuple #[y,.bool b]else y,hk,?_,?_⟩
  ·cases ok
   ·exact hy
   ·simp only[cond_true,if_true,VR,ib,DR];exact⟨[y,.bool b],rfl,y,_,rfl,hy,_,_,rfl,⟨rfl,rfl⟩,rfl⟩
  ·simp only[af,ho,e2,hi];exact yJ jr
 all_goals(simp only[sr,ho]at h)
variable {P:ac} {k:Ko} {L:List HP} {E:Ev} {s:St} {w:ag}
def yMp {α:Type _} {w:ag} {f g:α->HP} (h:∀a x,f a x->g a x):∀{l:List α} {M:List HP} {hs:List PH},Hs w (l.map f++M) hs->Hs w (l.map g++M) hs
 |[],M,hs,H=>H
 |a::l,M,hs,H=>by
  simp only[jf,uh]at H ⊢;cases H with
  |cons ha jb hd hr=>exact .cons (h _ _ ha) jb hd (yMp h hr)
def vH {α:Type _} {f g:α->HP} (h:∀a x,f a x->g a x) {l:List α} {M:List HP} (H:Hp k w (l.map f++M)):Hp k w (l.map g++M):=
 ⟨H.1,let⟨hs,hh⟩:=H.2;⟨hs,yMp h hh⟩⟩
def z1p {A:HP} {F:PH} {M:List HP} (H:Hp k w (A::fz F::M)):∃x,A x/\Dj x F/\Sub x w/\Hp k w (fz (un x F)::M):=by
 obtain⟨hk,hs,hh⟩:=H;cases hh with
 |cons ha jb hd hr=>
  cases hr with
  |cons hf xv Su hr=>
   simp only[fz]at hf;obtain⟨rfl,hgt⟩:=hf;refine⟨_,ha,hd _ iX,jb,hk,_,.cons ⟨rfl,hgt.mono (λb o e=>by
    rcases hd _ iX b with h|h
    ·simp[un,h,e]
    ·rw[e]at h;cases h)⟩ (yNz jb xv) (λg hg=>yIl (hd g (ji _ hg)) (Su g hg)) hr⟩
def yAf {x F:PH} (d:Dj x F):xp F (un x F):=λb o e=>by
 rcases d b with h|h
 ·simp[un,h,e]
 ·rw[e]at h;cases h
def Rel.new (R:Rel k L E s w) {o:fq} {O:Obj} {hd:Hd} (h:fw E.F o (E.gj++[hd]) hd (one w.heap.size O)):E.le ⟨E.F,E.gj++[hd]⟩/\Rel k L ⟨E.F,E.gj++[hd]⟩ (s.new o) (w.alloc O)/\(E.gj++[hd])[s.nx]? =aq hd:=by
 have hle:E.le ⟨E.F,E.gj++[hd]⟩:=⟨xp.refl _,J4 _ _⟩
 have km:(E.gj++[hd])[s.nx]? =aq hd:=by rw[<- R.nx];simp
 refine⟨hle,⟨by simp[St.new,R.nx],?_⟩,km⟩;have H:=R.hp.new O;have H1:Hp k (w.alloc O) (s.rows.map (ic E)++(pt w.heap.size O::fz E.F::L)):=H.perm (mo (l₁:=s.rows.map (ic E))).symm;have H2:=vH (λr x=>ic.mono hle r) H1;have H3:Hp k (w.alloc O) (pt w.heap.size O::(s.rows.map (ic ⟨E.F,E.gj++[hd]⟩)++fz E.F::L)):=H2.perm mo;exact H3.imp λx hx=> .inr ⟨hd,km,by rw[show x=one w.heap.size O from hx];exact h⟩
def Rel.freeze (R:Rel k L E s w) {n t sz:Nat} {fa:Q_ D} (h:s.get n=aq (.own t sz fa)):∃E',E.le E'/\E'.gj=E.gj/\Rel k L E' (s.set n (.kq sz fa)) w:=by
 have H:Hp k w (ic E (n,.own t sz fa)::fz E.F::((uC n s.rows).map (ic E)++L)):=(R.focus h).cons mo;obtain⟨x,hx,hd,jb,H⟩:=z1p H;rcases hx with⟨e,_⟩|⟨hv,h1,h2⟩
 ·cases e
 simp only[fw]at h2;obtain⟨a,c,xs,h3,h4,h5,h6⟩:=h2;have hle:E.le ⟨un x E.F,E.gj⟩:=⟨yAf hd,J1 _⟩
 refine⟨⟨un x E.F,E.gj⟩,hle,rfl,?_⟩;have H1:Hp k w ((uC n s.rows).map (ic E)++fz (un x E.F)::L):=H.perm mo.symm;have H2:=vH (λr x=>ic.mono hle r) H1;have H3:Hp k w (ic ⟨un x E.F,E.gj⟩ (n,.kq sz fa)::((uC n s.rows).map (ic ⟨un x E.F,E.gj⟩)++fz (un x E.F)::L)):=by
  have:=(@gV k w True _).2 ⟨trivial,H2⟩;refine this.imp λy hy=> .inr ⟨hv,h1,?_⟩
  simp only[fw];refine⟨hy.2,?_⟩;simp only[DR];refine⟨a,c,h3,(UT h6).2,h5,?_⟩;rcases h6 with⟨rfl,q2,rfl,rfl,rfl⟩|⟨b,r,rfl,rfl,q3,q4,q5⟩
  ·exact .inl (xq q2)
  ·refine .inr ⟨b,0,xs++r,t,(0,0),rfl,?_,oW.2 ⟨xs,r,rfl,h4.mono hle.1⟩⟩;simp[un,one]
 refine⟨by simpa[St.set]using R.nx,H3.perm ?_⟩;have:=(((uI h).2 (.kq sz fa)).map (ic ⟨un x E.F,E.gj⟩)).append_right (fz (un x E.F)::L);simpa[St.set]using this.symm
def LN (s:St):V->Option (D×St)
 | .d d=>aq (d,s)
 | .own n=>match s.get n with
   |some (.own _ sz fa)=>aq (.ro sz fa,s.set n (.kq sz fa))
   |some (.kq sz fa)=>aq (.ro sz fa,s)
   |_=>ar
 |_=>ar
def Ri (s:St):List V->Option (List D×St)
 |[]=>aq ([],s)
 |v::l=>match LN s v with
  |some (d,s')=>match Ri s' l with
   |some (ds,s2)=>aq (d::ds,s2)
   |none=>ar
  |none=>ar
def Ps (R:Rel k L E s w) {v:V} {d:D} {s':St} (h:LN s v=aq (d,s')) {y:ab} (hv:VR E v y):∃E',E.le E'/\E'.gj=E.gj/\Rel k L E' s' w/\s'.nx=s.nx/\DR E'.F d y:=by
 unfold LN at h;split at h<;>first|(cases h;done)|skip
 ·cases h;exact⟨E,Ev.le.refl _,rfl,R,rfl,by simpa only[VR]using hv⟩
 ·rename_i n;simp only[VR]at hv;obtain⟨sub,h1,_⟩:=hv;split at h<;>first|(cases h;done)|skip
  ·rename_i t sz fa hg;cases h;obtain⟨E',q1,q2,q3⟩:=R.freeze hg;refine⟨E',q1,q2,q3,rfl,?_⟩;have qh:(s.set n (.kq sz fa)).get n=aq (.kq sz fa):=by
    simp only[St.get,St.set];have:∀l:List (Nat×fq),sY n l≠ar->sY n (rL n (.kq sz fa) l)=aq (.kq sz fa):=by
     intro l
     induction l with
     |nil=>intro h;exact absurd rfl h
     |cons p l ih=>
      obtain⟨m,o⟩:=p;intro h;simp only[sY,rL]at h ⊢;cases hb:be m n
      ·rw[hb]at h;simp only[sY,hb,cond_false]at h ⊢;exact ih h
      ·simp only[sY,hb,cond_true]
    exact this _ (by simp only[St.get]at hg;rw[hg];simp)
   obtain⟨hd,x,e1,e2,e3⟩:=q3.row qh (by simp);rw[q2,h1]at e1;cases e1;simp only[fw]at e2;exact e2.2
  ·rename_i sz fa hg;cases h;obtain⟨hd,x,e1,e2,e3⟩:=R.row hg (by simp);rw[h1]at e1;cases e1;simp only[fw]at e2;exact⟨E,Ev.le.refl _,rfl,R,rfl,e2.2⟩
def yEb:∀{vs:List V} {s:St} {E:Ev} (R:Rel k L E s w) {ds:List D} {s':St} (h:Ri s vs=aq (ds,s')) {ys:List ab} (hv:ib E vs ys),
 ∃E',E.le E'/\E'.gj=E.gj/\Rel k L E' s' w/\s'.nx=s.nx/\iB E'.F ds ys
 |[],s,E,R,ds,s',h,ys,hv=>by
  simp only[Ri,ba,cu]at h;obtain⟨rfl,rfl⟩:=h;simp only[ib]at hv;exact⟨E,Ev.le.refl _,rfl,R,rfl,by simpa only[iB]using hv⟩
 |v::vs,s,E,R,ds,s',h,ys,hv=>by
  simp only[Ri]at h;simp only[ib]at hv;obtain⟨y,ys,rfl,h1,h2⟩:=hv;split at h<;>first|(cases h;done)|skip
  rename_i d s1 hd;split at h<;>first|(cases h;done)|skip
  rename_i ds s2 hds;cases h;obtain⟨E1,q1,q2,q3,q4,q5⟩:=Ps R hd h1;obtain⟨E2,r1,r2,r3,r4,r5⟩:=yEb q3 hds (h2.mono q1);exact⟨E2,q1.trans r1,r2.trans q2,r3,r4.trans q4,by simp only[iB];exact⟨_,_,rfl,q5.mono r1.1,r5⟩⟩
def z8o:D->Bool
 | .v (.slice ar 0 0)=>au
 |_=>av
def FC (P:ac):List ae->List D->List D
 |t::ts,d::ds=>(match g9 P t with
  |some sz=>bif z8o d then .ro sz []else d
  |none=>d)::FC P ts ds
 |_,ds=>ds
def YO {F:PH}:∀{ts:List ae} {ds:List D} {ys:List ab},iB F ds ys->iB F (FC P ts ds) ys
 |[],ds,ys,h=>by unfold FC;exact h
 |t::ts,[],ys,h=>by unfold FC;exact h
 |t::ts,d::ds,ys,h=>by
  unfold FC;simp only[iB]at h ⊢;obtain⟨x,xs,rfl,h1,h2⟩:=h;refine⟨x,xs,rfl,?_,YO h2⟩;split
  ·cases hb:z8o d
   ·exact h1
   ·unfold z8o at hb;split at hb
    ·simp only[DR]at h1;obtain⟨rfl,_⟩:=h1;simp only[cond_true,DR];exact⟨ar,0,rfl,ju _,by simp,.inl trivial⟩
    ·cases hb
  ·exact h1
def zXw:∀(ts:List ae) (ds:List D),(FC P ts ds).length=ds.length
 |[],ds=>by unfold FC;rfl
 |t::ts,[]=>by unfold FC;rfl
 |t::ts,d::ds=>by unfold FC;simp[zXw ts ds]
def IP (P:ac) (s:St) (t:ae) (v:V):Option (List D×St):=
 bif JF v then(match Ri s v.cl with
  |some (ds,s')=>aq (FC P (PF P 6 t) ds,s')
  |none=>ar)else ar
def pC {α:Type _} {b:Bool} {x:Option α} {v:α} (h:(bif b then x else ar)=aq v):b=au/\x=aq v:=by
 cases b
 ·cases h
 ·exact⟨rfl,h⟩
def NF (R:Rel k L E s w) {t:ae} {v:V} {ds:List D} {s':St} (h:IP P s t v=aq (ds,s')) {y:ab} (hv:VR E v y):
 ∃E' ys,E.le E'/\E'.gj=E.gj/\Rel k L E' s' w/\s'.nx=s.nx/\y.cells=ys.toArray/\iB E'.F ds ys:=by
 unfold IP at h;obtain⟨hb,h⟩:=pC h;split at h<;>first|(cases h;done)|skip
 rename_i ds0 s0 hf;cases h;obtain⟨l,hl,OH⟩:=VR.cells hb hv;obtain⟨E',q1,q2,q3,q4,q5⟩:=yEb R hf OH;exact⟨E',l,q1,q2,q3,q4,hl,YO q5⟩
variable {P:ac} {k:Ko} {L:List HP} {E:Ev} {s:St} {w:ag}
def Fy (F:PH) (T:Type) (m:Nat) (iz:T->Nat->fq) (x:T) (p:ab) (l0:List ab):HP:=λh=>
 ∃kg:List Hd,kg[0]? =aq (p,l0)/\kg.length=m/\hS ((aw m).map λj=>λh=>∃oT,kg[j]? =aq oT/\fw F (iz x j) kg oT h) h
def x9 (F:PH) (T:Type) (m:Nat) (iz:T->Nat->fq) (l:List T) (sub:List ab) (hole:Option Nat) (i:Nat):HP:=λh=>
 if hole=aq i then h=pe else ∃x p l0,l[i]? =aq x/\sub[i]? =aq p/\Fy F T m iz x p l0 h
def WY (sub:List ab):Prop:=∀p∈sub,∃b oo,p=.pointer (aq ⟨b,oo,ar⟩)
def qx {F:PH} {t:Nat} {T:Type} {m:Nat} {iz:T->Nat->fq} {l:List T} {hole:Option Nat} {gj:List Hd} {hd:Hd} {h:PH}:
 fw F (.kj t T m iz l hole) gj hd h↔∃a c,hd.1= .slice a l.length c/\hd.2.length=l.length/\WY hd.2/\SB (ou t 1 a l.length c hd.2) (hS ((aw l.length).map (x9 F T m iz l hd.2 hole))) h:=by
 simp only[fw];constructor
 ·rintro⟨a,c,h1,h2,h3,g,g',h4,h5,h6,h7⟩;refine⟨a,c,h1,h2,h3,g,g',h4,Lt (λi x hx=> ?_) h5,h6,h7⟩;unfold x9;split
  ·rename_i hi;rwa [fh hi]at hx
  ·rename_i hi;rw[ez hi]at hx;obtain⟨x,p,l0,kg,r1,r2,r3,r4,r5⟩:=hx;exact⟨x,p,l0,r1,r2,kg,r3,r4,r5⟩
 ·rintro⟨a,c,h1,h2,h3,g,g',h4,h5,h6,h7⟩;refine⟨a,c,h1,h2,h3,g,g',h4,Lt (λi x hx=> ?_) h5,h6,h7⟩;unfold x9 at hx;split
  ·rename_i hi;rwa [fh hi]at hx
  ·rename_i hi;rw[ez hi]at hx;obtain⟨x,p,l0,r1,r2,kg,r3,r4,r5⟩:=hx;exact⟨x,p,l0,kg,r1,r2,r3,r4,r5⟩
def VB (R:Rel k L E s w) {n t:Nat} {T:Type} {m:Nat} {iz:T->Nat->fq} {l:List T} {hole:Option Nat} (h:s.get n=aq (.kj t T m iz l hole)):
 ∃a c sub,E.gj[n]? =aq (.slice a l.length c,sub)/\sub.length=l.length/\WY sub/\
  Hp k w (ou t 1 a l.length c sub::((aw l.length).map (x9 E.F T m iz l sub hole)++((uC n s.rows).map (ic E)++fz E.F::L))):=by
 obtain⟨hk,hs,hh⟩:=R.focus h;cases hh with
 |cons ha jb hd hr=>
  rcases ha with⟨e,_⟩|⟨⟨hv,sub⟩,h1,h2⟩
  ·cases e
  ·obtain⟨a,c,rfl,q2,q3,q4⟩:=qx.1 h2;refine⟨a,c,sub,h1,q2,q3,?_⟩;have H:Hp k w (SB (ou t 1 a l.length c sub) (hS ((aw l.length).map (x9 E.F T m iz l sub hole)))::((uC n s.rows).map (ic E)++fz E.F::L)):=⟨hk,_,.cons q4 jb hd hr⟩
   have H1:=uw.1 H;have H2:=qw.1 H1.swap;exact H2.perm mo
def Zc {n t:Nat} {T:Type} {m:Nat} {iz:T->Nat->fq} {l:List T} {hole:Option Nat} {a:Option ao} {c:Nat} {sub:List ab} {M:List HP}
 (ht:E.gj[n]? =aq (.slice a l.length c,sub)) (hl:sub.length=l.length) (hp:WY sub)
 (H:Hp k w (ou t 1 a l.length c sub::((aw l.length).map (x9 E.F T m iz l sub hole)++M))):Hp k w (ic E (n,.kj t T m iz l hole)::M):=by
 have H1:Hp k w ((aw l.length).map (x9 E.F T m iz l sub hole)++ou t 1 a l.length c sub::M):=H.perm mo.symm;have H2:=(qw.2 H1).swap;exact(uw.2 H2).imp λx hx=> .inr ⟨_,ht,qx.2 ⟨a,c,rfl,hl,hp,hx⟩⟩
def zOu {n i:Nat} (h:i<n):∃B,aw n=aw i++i::B/\∀j∈B,j≠i:=by
 refine⟨(aw (n-i-1)).map (λj=>i+1+j),?_,λj hj=> ?_⟩
 ·have:n=i+(1+(n-i-1)):=by omega
  conv=>lhs;rw[this]
  rw[List.range_add,List.range_add,jk];simp[Function.comp_def,Dh]
 ·obtain⟨q,_,rfl⟩:=np.1 hj;omega
def yQw (H:Hp k w L):Hp k w ((λh=>h=pe)::L):=((@gV k w True L).2 ⟨trivial,H⟩).imp λx hx=>hx.2
def y9h (H:Hp k w ((λh=>h=pe)::L)):Hp k w L:=((@gV k w True L).1 (H.imp λx hx=>⟨trivial,hx⟩)).2
def yMx {F:PH} {T:Type} {m:Nat} {iz:T->Nat->fq} {l:List T} {sub:List ab} {M:List HP} {i:Nat} {x:T} {p:ab} (hx:l[i]? =aq x) (hp:sub[i]? =aq p)
 (H:Hp k w ((aw l.length).map (x9 F T m iz l sub ar)++M)):∃l0,Hp k w (Fy F T m iz x p l0::((aw l.length).map (x9 F T m iz l sub (aq i))++M)):=by
 have hi:i<l.length:=(jm.1 hx).1;obtain⟨B,hB,jy⟩:=zOu hi;have e1:∀j,j≠i->x9 F T m iz l sub ar j=x9 F T m iz l sub (aq i) j:=λj hj=>by
  funext h;unfold x9;rw[ez (by simp),ez (by simp only[ba];omega)]
 have e2:x9 F T m iz l sub (aq i) i=λh=>h=pe:=by funext h;unfold x9;rw[fh rfl]
 have ea:(aw i).map (x9 F T m iz l sub (aq i))=(aw i).map (x9 F T m iz l sub ar):=uc λj hj=>(e1 j (by have:=Cd.1 hj;omega)).symm
 have eb:B.map (x9 F T m iz l sub (aq i))=B.map (x9 F T m iz l sub ar):=uc λj hj=>(e1 j (jy j hj)).symm
 rw[hB,jk,jf]at H ⊢;rw[ea,eb,e2];have H1:Hp k w (x9 F T m iz l sub ar i::((aw i).map (x9 F T m iz l sub ar)++(B.map (x9 F T m iz l sub ar)++M))):=by
  rw[jd]at H;exact H.perm mo
 obtain⟨l0,H2⟩:∃l0,Hp k w (Fy F T m iz x p l0::((aw i).map (x9 F T m iz l sub ar)++(B.map (x9 F T m iz l sub ar)++M))):=by
  obtain⟨hk,hs,hh⟩:=H1;cases hh with
  |cons ha jb hd hr=>
   unfold x9 at ha;rw[ez (by simp)]at ha;obtain⟨x',p',l0,r1,r2,r3⟩:=ha;rw[hx]at r1;rw[hp]at r2;cases r1;cases r2;exact⟨l0,hk,_,.cons r3 jb hd hr⟩
 have H3:=yQw H2;rw[jd];refine⟨l0,H3.swap.cons ?_⟩;exact mo.symm
def yZh {F:PH} {T:Type} {m:Nat} {iz:T->Nat->fq} {l:List T} {sub:List ab} {M:List HP} {i:Nat} {x:T} {p:ab} {l0:List ab} (hi:i<l.length) (hp:sub[i]? =aq p)
 (H:Hp k w (Fy F T m iz x p l0::((aw l.length).map (x9 F T m iz l sub (aq i))++M))):Hp k w ((aw l.length).map (x9 F T m iz (l.set i x) sub ar)++M):=by
 obtain⟨B,hB,jy⟩:=zOu hi;have e1:∀j,j≠i->x9 F T m iz (l.set i x) sub ar j=x9 F T m iz l sub (aq i) j:=λj hj=>by
  funext h;unfold x9;rw[ez (by simp),ez (by simp only[ba];omega),List.getElem?_set_ne (by omega)]
 have e2:x9 F T m iz l sub (aq i) i=λh=>h=pe:=by funext h;unfold x9;rw[fh rfl]
 have ea:(aw i).map (x9 F T m iz (l.set i x) sub ar)=(aw i).map (x9 F T m iz l sub (aq i)):=uc λj hj=>e1 j (by have:=Cd.1 hj;omega)
 have eb:B.map (x9 F T m iz (l.set i x) sub ar)=B.map (x9 F T m iz l sub (aq i)):=uc λj hj=>e1 j (jy j hj)
 rw[hB,jk,jf,jd]at H ⊢;rw[e2]at H;rw[ea,eb];have H1:Hp k w ((λh=>h=pe)::Fy F T m iz x p l0::((aw i).map (x9 F T m iz l sub (aq i))++(B.map (x9 F T m iz l sub (aq i))++M))):=
  H.perm ((cp _ mo).trans (.swap _ _ _))
 have H2:=y9h H1;have H3:Hp k w (x9 F T m iz (l.set i x) sub ar i::((aw i).map (x9 F T m iz l sub (aq i))++(B.map (x9 F T m iz l sub (aq i))++M))):=H2.imp λh hh=>by
  unfold x9;rw[ez (by simp)];exact⟨x,p,l0,by rw[List.getElem?_set_self hi],hp,hh⟩
 exact H3.perm mo.symm
def ySg {F:PH} {T:Type} {m:Nat} {iz:T->Nat->fq} {l l2:List T} {sub tb:List ab} (hl:sub.length=l.length) {M:List HP}
 (H:Hp k w ((aw l.length).map (x9 F T m iz l sub ar)++((aw l2.length).map (x9 F T m iz l2 tb ar)++M))):
 Hp k w ((aw (l++l2).length).map (x9 F T m iz (l++l2) (sub++tb) ar)++M):=by
 rw[iv,List.range_add,jk,wb,jd];have ea:(aw l.length).map (x9 F T m iz (l++l2) (sub++tb) ar)=(aw l.length).map (x9 F T m iz l sub ar):=uc λj hj=>by
  have hj:=Cd.1 hj;funext h;unfold x9;rw[ez (by simp),ez (by simp),Eg hj,Eg (by omega)]
 have eb:(aw l2.length).map ((x9 F T m iz (l++l2) (sub++tb) ar)∘(l.length+·))=(aw l2.length).map (x9 F T m iz l2 tb ar):=uc λj hj=>by
  funext h;simp only[Function.comp];unfold x9;rw[ez (by simp),ez (by simp),Ch (by omega),Ch (by omega)];rw[show l.length+j-l.length=j by omega,show l.length+j-sub.length=j by omega]
 rw[ea,eb];exact H
def zOc {n:Nat} {T:Type} {m:Nat} {iz:T->Nat->fq} {x:T} {p:ab} {l0:List ab} (ht:E.gj[n]? =aq (p,l0)) {h:PH} (H:ic E (n,.rh T m iz x) h):Fy E.F T m iz x p l0 h:=by
 rcases H with⟨e,_⟩|⟨hd,h1,h2⟩
 ·cases e
 ·rw[ht]at h1;cases h1;simp only[fw]at h2;exact h2
def z5c {n:Nat} {T:Type} {m:Nat} {iz:T->Nat->fq} {x:T} {p:ab} {l0:List ab} (ht:E.gj[n]? =aq (p,l0)) {h:PH} (H:Fy E.F T m iz x p l0 h):ic E (n,.rh T m iz x) h:=
 .inr ⟨_,ht,by simp only[fw];exact H⟩
def Rel.out {A:HP} {E:Ev} {s:St} (R:Rel k (A::L) E s w):Hp k w (A::(s.rows.map (ic E)++fz E.F::L)):=by
 refine R.hp.perm ?_;have:(fz E.F::A::L).Perm (A::fz E.F::L):= .swap _ _ _;exact(this.append_left _).trans mo
def Rel.Kb {A:HP} {E:Ev} {s:St} (hn:E.gj.length=s.nx) (H:Hp k w (A::(s.rows.map (ic E)++fz E.F::L))):Rel k (A::L) E s w:=by
 refine⟨hn,H.perm ?_⟩;have:(fz E.F::A::L).Perm (A::fz E.F::L):= .swap _ _ _;exact((this.append_left _).trans mo).symm
def Rel.qi {A B:HP} {E:Ev} {s:St} (R:Rel k (A::L) E s w) (h:∀x,A x->B x):Rel k (B::L) E s w:=Rel.Kb R.nx (R.out.imp h)
def Rel.take {E:Ev} {s:St} (R:Rel k L E s w) {n:Nat} {o:fq} (h:s.get n=aq o):Rel k (ic E (n,o)::L) E (s.del n) w:=Rel.Kb R.nx (R.focus h)
def Rel.gw {E:Ev} {s:St} (R:Rel k L E s w) {n:Nat} {o:fq} (h:s.get n=aq o):Rel k (ic E (n,o)::L) E (s.Ja n o) w:=by
 cases o with
 |kq sz fa=>
  obtain⟨hd,x,h1,h2,h3⟩:=R.row h (by simp);refine⟨R.nx,?_⟩;have H:Hp k w ((λh=>h=pe)::(s.rows.map (ic E)++fz E.F::L)):=yQw R.hp;simp only[fw]at h2;have H1:Hp k w (ic E (n,.kq sz fa)::(s.rows.map (ic E)++fz E.F::L)):=H.imp λy hy=> .inr ⟨hd,h1,by simp only[fw];exact⟨hy,h2.2⟩⟩
  refine H1.perm ?_;have:(ic E (n,.kq sz fa)::fz E.F::L).Perm (fz E.F::ic E (n,.kq sz fa)::L):= .swap _ _ _;exact mo.symm.trans (this.append_left _)
 |_=>exact R.take h
def Rel.Jd (R:Rel k L E s w) {n t i:Nat} {T:Type} {m:Nat} {iz:T->Nat->fq} {l:List T} (h:s.get n=aq (.kj t T m iz l ar)) {x:T} (hx:l[i]? =aq x) {y:ab} (hv:VR E (.sub n i) y):
 ∃E1,E.le E1/\Rel k L E1 ((s.set n (.kj t T m iz l (aq i))).new (.rh T m iz x)) w/\VR E1 (.nm s.nx 0) y/\∃l0,E1.gj[s.nx]? =aq (y,l0):=by
 obtain⟨a,c,sub,h1,h2,h3,H⟩:=VB R h;simp only[VR]at hv;obtain⟨hd,l',b,oo,e1,e2,e3⟩:=hv;rw[h1]at e1;cases e1;obtain⟨l0,H1⟩:=yMx hx e2 (H.perm mo.symm);have H2:Hp k w (ou t 1 a l.length c sub::((aw l.length).map (x9 E.F T m iz l sub (aq i))++(Fy E.F T m iz x y l0::((uC n s.rows).map (ic E)++fz E.F::L)))):=
  H1.perm ((mo.symm.trans (cq _ (.swap _ _ _))).trans mo)
 have H3:=(Zc h1 h2 h3 H2).swap;have H4:Hp k w (Fy E.F T m iz x y l0::((rL n (.kj t T m iz l (aq i)) s.rows).map (ic E)++fz E.F::L)):=by
  refine H3.cons ?_;have:=(((uI h).2 (.kj t T m iz l (aq i))).map (ic E)).append_right (fz E.F::L);simpa using this.symm
 have H5:Hp k w ((rL n (.kj t T m iz l (aq i)) s.rows).map (ic E)++(Fy E.F T m iz x y l0::fz E.F::L)):=H4.perm mo.symm;have hle:E.le ⟨E.F,E.gj++[(y,l0)]⟩:=⟨xp.refl _,J4 _ _⟩
 have km:(E.gj++[((y,l0):Hd)])[s.nx]? =aq (y,l0):=by rw[<- R.nx];simp
 have H6:=vH (λr x=>ic.mono hle r) H5;have H7:Hp k w (Fy E.F T m iz x y l0::((rL n (.kj t T m iz l (aq i)) s.rows).map (ic ⟨E.F,E.gj++[(y,l0)]⟩)++fz E.F::L)):=H6.perm mo;refine⟨⟨E.F,E.gj++[(y,l0)]⟩,hle,⟨by simp[St.new,St.set,R.nx],?_⟩,by simp only[VR];exact⟨b,oo,l0,by rw[km,e3],e3⟩,l0,km⟩;exact H7.imp λz hz=>z5c (E:=⟨E.F,E.gj++[(y,l0)]⟩) km hz
def Rel.Jj (R:Rel k L E s w) {n t i z:Nat} {T:Type} {m:Nat} {iz:T->Nat->fq} {l:List T} {x:T} (ha:s.get z=aq (.rh T m iz x)) (h:(s.del z).get n=aq (.kj t T m iz l (aq i))) (hi:i<l.length)
 {y:ab} {l0:List ab} (hz:E.gj[z]? =aq (y,l0)) (hs:∀v sub,E.gj[n]? =aq (v,sub)->sub[i]? =aq y):Rel k L E ((s.del z).set n (.kj t T m iz (l.set i x) ar)) w:=by
 have R1:=R.take ha;obtain⟨a,c,sub,h1,h2,h3,H⟩:=VB R1 h;have hp:=hs _ _ h1;have H1:Hp k w (ic E (z,.rh T m iz x)::((aw l.length).map (x9 E.F T m iz l sub (aq i))++(ou t 1 a l.length c sub::((uC n (s.del z).rows).map (ic E)++fz E.F::L)))):=by
  refine H.perm ?_;have p1:((uC n (s.del z).rows).map (ic E)++fz E.F::ic E (z,.rh T m iz x)::L).Perm (ic E (z,.rh T m iz x)::((uC n (s.del z).rows).map (ic E)++fz E.F::L)):=
   (cq _ (.swap _ _ _)).trans mo
  refine(cp _ ((cq _ p1).trans mo)).trans ((ct _ _ _).trans (cp _ mo.symm))
 have H2:=yZh hi hp (H1.imp λq hq=>zOc hz hq);have H3:Hp k w (ic E (n,.kj t T m iz (l.set i x) ar)::((uC n (s.del z).rows).map (ic E)++fz E.F::L)):=by
  refine Zc (a:=a) (c:=c) (sub:=sub) (by rw[qm];exact h1) (by rw[qm];exact h2) h3 ?_;rw[qm];exact H2.perm mo
 refine⟨by simpa[St.set,St.del]using R1.nx,H3.perm ?_⟩;have:=(((uI h).2 (.kj t T m iz (l.set i x) ar)).map (ic E)).append_right (fz E.F::L);simpa[St.set]using this.symm
def zLv {rows:List (Nat×fq)} {nx t:Nat} {T:Type} {m:Nat} {iz:T->Nat->fq} {l:List T} {a:Option ao} {c:Nat} {sub:List ab} (hn:E.gj.length=nx) (hl:sub.length=l.length) (hp:WY sub)
 (H:Hp k w (ou t 1 a l.length c sub::((aw l.length).map (x9 E.F T m iz l sub ar)++(rows.map (ic E)++fz E.F::L)))):
 ∃E',E.le E'/\Rel k L E' ⟨(nx,.kj t T m iz l ar)::rows,nx+1⟩ w/\VR E' (.own nx) (.slice a l.length c):=by
 have hle:E.le ⟨E.F,E.gj++[(.slice a l.length c,sub)]⟩:=⟨xp.refl _,J4 _ _⟩
 have km:(E.gj++[((.slice a l.length c,sub):Hd)])[nx]? =aq (.slice a l.length c,sub):=by rw[<- hn];simp
 refine⟨⟨E.F,E.gj++[(.slice a l.length c,sub)]⟩,hle,⟨by simp[hn],?_⟩,by simp only[VR];exact⟨sub,km,_,_,_,rfl⟩⟩;have H0:Hp k w (rows.map (ic E)++(ou t 1 a l.length c sub::((aw l.length).map (x9 E.F T m iz l sub ar)++fz E.F::L))):=by
  refine H.perm ?_;refine(cp _ ?_).trans mo.symm;rw[<- jd,<- jd];exact cr _ Bw
 have H1:=vH (λr x=>ic.mono hle r) H0;have H2:Hp k w (ou t 1 a l.length c sub::((aw l.length).map (x9 E.F T m iz l sub ar)++(rows.map (ic ⟨E.F,E.gj++[(.slice a l.length c,sub)]⟩)++fz E.F::L))):=by
  refine H1.perm (mo.trans (cp _ ?_));rw[<- jd,<- jd];exact cr _ Bw
 exact Zc (E:=⟨E.F,E.gj++[(.slice a l.length c,sub)]⟩) km hl hp H2
def ph (k:Ko) (L:List HP) (E:Ev) (K:V->St->Prop) (y:ab) (w':ag):Prop:=∃E' v s',E.le E'/\Rel k L E' s' w'/\VR E' v y/\K v s'
@[reducible] def BH:=FuncId->List V->St->(V->St->Prop)->Prop
def IW (P:ac) (H:BH):Prop:=∀f args s K,H f args s K->∀(k:Ko) (L:List HP) (E:Ev) (w:ag) (ys:List ab),Rel k L E s w->ib E args ys->nk P (callFunc f ys.toArray) w (ph k L E K)
structure SlI where
 e:ae
 sz:Nat
 oD:Nat
 z:List D
def pV (P:ac) (t:ae):Option SlI:=
 match vW P t with
 |some (e,sz,oD,z)=>bif be z.size sz && z.toList.all (·.oq)then aq ⟨e,sz,oD,FC P (PF P 6 e) (z.toList.map .v)⟩else ar
 |none=>ar
def ySq {F:PH}:∀{l:List ab},(l.all (·.oq))=au->iB F (l.map .v) l
 |[],_=>by simp[iB]
 |y::l,h=>by
  simp only[List.all_cons,lr]at h;simp only[jf,iB,DR];exact⟨y,l,rfl,⟨rfl,h.1⟩,ySq h.2⟩
def dZ {P:ac} {t:ae} {i:SlI} (h:pV P t=aq i):∃z,vW P t=aq (i.e,i.sz,i.oD,z)/\z.size=i.sz/\i.z.length=i.sz/\∀F,iB F i.z z.toList:=by
 unfold pV at h;split at h<;>first|(cases h;done)|skip
 rename_i e sz oD z hz;obtain⟨hb,h⟩:=pC h;cases h;simp only[lr]at hb;have h1:=jg hb.1;exact⟨z,hz,h1,by rw[zXw,ia,J8,h1],λF=>YO (ySq hb.2)⟩
def N4 {α:Type} (l:List α) (o:Nat) (vs:List α):List α:=l.take o++(vs++l.drop (o+vs.length))
def z6y {α:Type} {sz:Nat}:∀{fa:Q_ α} (i:Nat) (ds:List α),(∀el∈fa,el.length=sz)->i<fa.length->ds.length=sz->
 (fa.set i ds).flatten=N4 fa.flatten (i*sz) ds
 |[],i,ds,_,h,_=>by simp at h
 |el::fa,0,ds,hu,h,hd=>by
  simp only[Ol,A9,N4,bo,EU,we,nq];rw[hd,<- hu el iX,Oe]
 |el::fa,i+1,ds,hu,h,hd=>by
  have ih:=z6y (fa:=fa) i ds (λe he=>hu e (ji _ he)) (i9 h) hd;simp only[Oj,A9,N4]at ih ⊢;rw[ih];have e1:=hu el iX;rw[zr,HA (i*sz) sz,List.take_append,LZ,e1];rw[mz (show el.length<=sz+i*sz by omega),show sz+i*sz-sz=i*sz by omega,IB (show el.length<=sz+i*sz+ds.length by omega),show sz+i*sz+ds.length-sz=i*sz+ds.length by omega];simp
def PL {F:PH} {ds es:List D} {l m:List ab} (h1:iB F ds l) (h2:iB F es m) (o:Nat):iB F (ds.take o++(es++ds.drop (o+es.length))) (kx l o m):=by
 unfold kx;rw[jd];have:=h2.length;rw[this];exact(h1.take o).append (h2.append (h1.drop _))
def Rf (P:ac) (e sz:Nat):St->List (Nat×V)->Q_ D->Option (Q_ D×St)
 |s,[],fa=>aq (fa,s)
 |s,(i,v)::ps,fa=>match IP P s e v with
  |some (ds,s')=>bif be ds.length sz && bu i fa.length then Rf P e sz s' ps (fa.set i ds)else ar
  |none=>ar
def yWm {α:Type} {sz:Nat} {fa:Q_ α} {i:Nat} {ds:List α} (hu:∀el∈fa,el.length=sz) (hd:ds.length=sz):∀el∈fa.set i ds,el.length=sz:=by
 intro el oS;rcases List.mem_or_eq_of_mem_set oS with h|rfl
 ·exact hu el h
 ·exact hd
def z4r {P:ac} {k:Ko} {L:List HP} {w:ag} {e sz:Nat}:∀{ps:List (Nat×V)} {E:Ev} {s:St} (R:Rel k L E s w) {fa ln:Q_ D} {s':St} {qs:List (Nat×ab)} {cs:List ab},
 Rf P e sz s ps fa=aq (ln,s')->Cr E ps qs->(∀el∈fa,el.length=sz)->iB E.F fa.flatten cs->
 ∃E' CN,E.le E'/\E'.gj=E.gj/\Rel k L E' s' w/\s'.nx=s.nx/\(∀el∈ln,el.length=sz)/\ln.length=fa.length/\iB E'.F ln.flatten CN/\Instr.fill (λi=>aq (i*sz,sz)) cs.toArray qs=aq CN.toArray
 |[],E,s,R,fa,ln,s',qs,cs,h,hp,hu,hc=>by
  simp only[Rf,ba,cu]at h;obtain⟨rfl,rfl⟩:=h;simp only[Cr]at hp;subst hp;exact⟨E,cs,Ev.le.refl _,rfl,R,rfl,hu,rfl,hc,rfl⟩
 |(i,v)::ps,E,s,R,fa,ln,s',qs,cs,h,hp,hu,hc=>by
  simp only[Rf]at h;simp only[Cr]at hp;obtain⟨y,qs,rfl,hv,hp⟩:=hp;split at h<;>first|(cases h;done)|skip
  rename_i ds s1 hd;obtain⟨hb,h⟩:=pC h;simp only[lr]at hb;have hlen:=jg hb.1;have hi:i<fa.length:=by simpa[yk]using hb.2
  obtain⟨E1,ys,q1,q2,q3,q4,q5,q6⟩:=NF R hd hv;have X7:Cr E1 ps qs:=by
   have:∀{ps:List (Nat×V)} {qs:List (Nat×ab)},Cr E ps qs->Cr E1 ps qs:=by
    intro ps
    induction ps with
    |nil=>intro qs h;exact h
    |cons p ps ih=>obtain⟨i,v⟩:=p;intro qs h;obtain⟨y,ys,h1,h2,h3⟩:=h;exact⟨y,ys,h1,h2.mono q1,ih h3⟩
   exact this hp
  have CM:iB E1.F (fa.set i ds).flatten (kx cs (i*sz) ys):=by
   rw[z6y i ds hu hi hlen];exact PL (hc.mono q1.1) q6 (i*sz)
  obtain⟨E2,CN,r1,r2,r3,r4,r5,r6,r7,r8⟩:=z4r q3 h X7 (yWm hu hlen) CM;refine⟨E2,CN,q1.trans r1,r2.trans q2,r3,r4.trans q4,r5,by rw[r6,qm],r7,?_⟩;have Dv:ys.length=sz:=by rw[q6.length,hlen]
  have wv:cs.length=fa.length*sz:=by rw[hc.length,wE hu]
  have wu:i*sz+sz<=fa.length*sz:=by
   have:=xj sz (show i+1<=fa.length by omega);rwa [zr]at this
  have aay:y.cells.size=sz:=by rw[q5,J2,Dv]
  have IN:(decide (y.cells.size≠sz)||decide (i*sz+y.cells.size>cs.toArray.size))=av:=by
   rw[aay,J2];simp;omega
  have Gi:y.cells.zipIdx.foldl (λ(cs:Array ab) (p:ab×Nat)=>cs.setIfInBounds (i*sz+p.2) p.1) cs.toArray=(kx cs (i*sz) ys).toArray:=by
   have hz:ys.toArray.zipIdx=(ys.zipIdx).toArray:=by
    apply cy;simp
   rw[q5,hz,List.foldl_toArray];rw[Zb (off:=i*sz) ys 0 cs (by omega)];rfl
  simp only[Instr.fill];rw[ez (by rw[IN];simp),Gi];exact r8
def eJ {z:List ab}:∀n,(Hz z.toArray (n*z.length)).toList=(ax n z).flatten
 |0=>by simp[Hz]
 |n+1=>by
  have ih:=eJ (z:=z) n;simp only[Hz,J2]at ih ⊢;rw[J7,A9,<- ih,zr,HA,List.range_add,jk];congr 1
  ·apply Dn;intro i;rw[qt];by_cases hi:i<z.length
   ·rw[J6 hi];simp only[wg,Nat.mod_eq_of_lt hi];rw[mu];rw[vd hi];rfl
   ·rw[ui (by simpa using Nat.not_lt.1 hi),ui (Nat.not_lt.1 hi)];rfl
  ·rw[wb];refine uc λj _=> ?_
   simp only[Function.comp,Nat.add_mod_left]
def z1m {F:PH} {ds:List D} {l:List ab} (h:iB F ds l):∀n,iB F (ax n ds).flatten (ax n l).flatten
 |0=>by simp[iB]
 |n+1=>by simp only[J7,A9];exact h.append (z1m h n)
def PM {α:Type} {ds:List α} {n sz:Nat} (h:ds.length=sz):∀el∈ax n ds,el.length=sz:=by
 intro el oS;rw[(List.mem_replicate.1 oS).2];exact h
def zK (fa:Q_ D) (i f:Nat) (ds:List D):Q_ D:=fa.modify i λel=>el.take f++(ds++el.drop (f+ds.length))
def Xc:V->Bool
 | .top=>av
 | .agg _=>av
 | .je _=>av
 |_=>au
def P8:List V->Bool
 |[]=>au
 |v::l=>bif Xc v then P8 l else av
def z5m {E:Ev}:∀{vs:List V} {l:List ab},P8 vs=au->ib E vs l->∀y∈l,y.oq=au
 |[],l,_,h=>by simp only[ib]at h;subst h;simp
 |v::vs,l,hb,h=>by
  simp only[ib]at h;obtain⟨x,xs,rfl,h1,h2⟩:=h;simp only[P8]at hb;obtain⟨qd,ni⟩:Xc v=au/\P8 vs=au:=by
   revert hb;generalize Xc v=b;cases b<;>simp
  intro y hy;rcases jx.1 hy with rfl|hy
  ·cases v<;>simp only[Xc,oR]at qd<;>simp only[VR]at h1
   ·rename_i d;exact iB.one (F:=E.F) (vs:=[d]) (l:=[y]) (by simp only[iB];exact⟨_,_,rfl,h1,rfl⟩) y (by simp)
   ·obtain⟨_,_,_,_,rfl⟩:=h1;rfl
   ·obtain⟨_,_,_,_,_,_,rfl⟩:=h1;rfl
   ·obtain⟨_,_,_,_,_,_,_,rfl,_⟩:=h1;rfl
   ·obtain⟨_,_,_,_,rfl⟩:=h1;rfl
   ·obtain⟨_,_,_,_,_,rfl⟩:=h1;rfl
   ·obtain⟨_,_,_,rfl⟩:=h1;rfl
   ·obtain⟨_,_,_,_,_,_,rfl⟩:=h1;rfl
   ·obtain⟨_,_,rfl,_⟩:=h1;rfl
   ·obtain⟨_,rfl,_⟩:=h1;rfl
  ·exact z5m ni h2 y hy
def z2q (s:St) (sz:Nat):V->Option (Q_ D)
 | .d (.v (.slice ar 0 0))=>aq []
 | .d (.v (.string b))=>bif be sz 1 then aq (j6 b)else ar
 |v=>match Ik s v with
  |some (oB,fa)=>bif be sz oB then aq fa else ar
  |none=>ar
def YH (P:ac) (t1 t2:ae) (s:St) (x y:V) (K:V->St->Prop):Prop:=
 iD (pV P t1) λi=>bif Ly P t2 && bu 0 i.oD then iD (z2q s i.sz y) λys=>
  match x with
  | .d (.v (.slice ar 0 0))=>ys.length*i.oD<=140737488355328/\K (.own s.nx) (s.new (.own i.e i.sz ys))
  | .own n=>match s.get n with
    |some (.own T sz fa)=>bif be T i.e && be sz i.sz then(fa.length+ys.length)*i.oD<=140737488355328/\K (.own s.nx) ((s.del n).new (.own i.e i.sz (fa++ys)))else False
    |_=>False
  |_=>False else False
def W5:V->Bool
 | .agg l=> !(be l.length 1)
 | .d _=>au
 |_=>av
def Nu:List V->St->(List V->St->Prop)->Prop
 |[],s,K=>K [] s
 |v::l,s,K=>match v with
  | .d (.ro sz fa)=>Nu l (s.new (.kq sz fa)) λl' s'=>K (.own s.nx::l') s'
  |v=>Nu l s λl' s'=>K (v::l') s'
def ZG (P:ac) (t1 t2:ae) (s:St) (x y:V) (K:V->St->Prop):Prop:=
 match y with
 | .own n2=>(match s.get n2 with
   |some (.kj _ T2 m2 vu l2 ar)=>iD (pV P t1) λi=>bif Ly P t2 && bu 0 i.oD && be i.sz 1 then(match x with
    | .d (.v (.slice ar 0 0))=>l2.length*i.oD<=140737488355328/\K (.own s.nx) ((s.del n2).new (.kj i.e T2 m2 vu l2 ar))
    | .own n=>(match(s.del n2).get n with
      |some (.kj t1' T1 m1 SS l1 ar)=>∃za:List T2,fq.kj t1' T1 m1 SS l1 ar=fq.kj i.e T2 m2 vu za ar/\(za.length+l2.length)*i.oD<=140737488355328/\K (.own s.nx) (((s.del n2).del n).new (.kj i.e T2 m2 vu (za++l2) ar))
      |_=>False)
    |_=>False)else False
   |_=>False)
 |_=>False
def yPx (s:St):V->Bool
 | .own n=>match Lp s n with
   |some _=>au
   |none=>av
 |_=>av
def y2p (n i a:Nat) (v:V) (s:St) (K:V->St->Prop):Prop:=
 match s.get a with
 |some o=>(match(s.del a).get n with
  |some (.kj t T m iz l (aq j))=>∃x:T,o=.rh T m iz x/\j=i/\i<l.length/\K v ((s.del a).set n (.kj t T m iz (l.set i x) ar))
  |_=>False)
 |none=>False
def yNg (H:BH) (f:FuncId) (args:List V) (s:St) (K:V->St->Prop):Prop:=
 match args with
 | .sub n i::rest=>(match s.get n with
   |some (.kj t T m iz l ar)=>∃x:T,l[i]?=aq x/\H f (.nm s.nx 0::rest) ((s.set n (.kj t T m iz l (aq i))).new (.rh T m iz x)) λv s'=>y2p n i s.nx v s' K
   |_=>False)
 |args=>H f args s K
def W0 (P:ac) (t:ae):Option ae:=
 match P.underlying t with
 |some (.slice e)=>(match P.underlying e with
  |some (.int .u8)=>aq e
  |_=>ar)
 |_=>ar
def zYs {P:ac} {t e:ae} (h:W0 P t=aq e):P.underlying t=aq (.slice e)/\P.underlying e=aq (.int .u8):=by
 unfold W0 at h;split at h<;>first|(cases h;done)|skip
 rename_i e' he;split at h<;>first|(cases h;done)|skip
 rename_i hu;cases h;exact⟨he,hu⟩
def z2a:List (Nat×V)->Option Nat
 |[(0,.nm m 0)]=>aq m
 |_=>ar
def Zd (P:ac) (t:ae) (x:py) (n sz i f:Nat) (v:V) (s:St) (K:V->St->Prop):Prop:=
 bif be sz x.sz then(match v,g9 P t with
  | .own c,aq _=>(match s.get c with
    |some (.own _ _ _)=>iD (pT P t) λm=>bif be m 1 && !(be n c)then(i<x.fa.length/\f<sz)/\(match x.q with
     |true=>(i=x.i/\f=x.f)/\K (.je []) (s.set n (.uf au x.T sz x.fa x.i x.f au (aq c)))
     |false=>(i=x.i->f=x.f->K (.je []) (s.set n (.uf av x.T sz x.fa x.i x.f au (aq c))))/\(x.f<sz/\(¬(i=x.i/\f=x.f)->match IP P s t (.own c)with
      |some (ds,s')=>(match nH s' n with
       |some y=>bif be ds.length 1 then y=x/\K (.je []) (s'.set n (.uf x.q x.T sz (zK x.fa i f ds) x.i x.f x.b x.m))else False
       |none=>False)
      |none=>False)))else False
    |_=>False)
  |v,_=>(match IP P s t v with
   |some (ds,s')=>(match nH s' n with
    |some y=>iD (pT P t) λm=>bif be ds.length m then(y=x/\i<x.fa.length/\f+m<=sz/\x.clear i f m)/\K (.je []) (s'.set n (.uf x.q x.T sz (zK x.fa i f ds) x.i x.f x.b x.m))else False
    |none=>False)
   |none=>False))else False
def se (P:ac) (H:BH) (o:am) (ρ:xF) (s:St) (K:V->St->Prop):Prop:=
 match o.op with
 | .alloc e=>iD (pZ P e) λz=>bif JF (Dq z)then K (.nm s.nx 0) (s.new (.cells (Dq z).cl e))else False
 | .box e x=>bif JF (ma ρ x)then Nu (ma ρ x).cl s λvs s=>K (.nm s.nx 0) (s.new (.cells vs e))else False
 | .buildSlice t len ps=>match z2a (Lq ρ ps.toList)with
   |some m=>(match s.get m with
    |some (.rh T mm iz x)=>iD (pV P t) λi=>bif be i.sz 1 && be len 1 then K (.own s.nx) ((s.del m).new (.kj i.e T mm iz [x] ar))else False
    |_=>False)
   |none=>iD (pV P t) λi=>bif bg (len*i.sz) 16777216 then match Rf P i.e i.sz s (Lq ρ ps.toList) (ax len i.z)with
   |some (fa,s')=>K (.own s'.nx) (s'.new (.own i.e i.sz fa))
   |none=>False else False
 | .makeMap _ ar=>K (.mp s.nx) (s.new (.map []))
 | .makeSlice t l c=>match ma ρ l,ma ρ c with
   | .d (.v (.int _ l)),.d (.v (.int _ c))=>iD (pV P t) λi=>(0<=l/\l<=c/\c<=9223372036854775807/\(i.oD:Int)*c<=2 ^ 48)/\K (.own s.nx) (s.new (.own i.e i.sz (ax l.toNat i.z)))
   |_,_=>False
 | .store t x v=>match ma ρ x with
   | .nm n off=>bif JF (ma ρ v)then Nu (ma ρ v).cl s λus s=>match s.get n with
     |some (.cells vs T)=>iD (pT P t) λm=>bif be us.length m && bg (off+m) vs.length && P8 us then
       K (.je []) (s.set n (.cells (vs.take off++(us++vs.drop (off+m))) T))else False
     |_=>False
     else False
   | .el n sz i f=>match nH s n with
     |some x=>Zd P t x n sz i f (ma ρ v) s K
     |none=>match IP P s t (ma ρ v)with
     |some (ds,s')=>match s'.get n with
      |some (.own T oB fa)=>iD (pT P t) λm=>bif be sz oB && be ds.length m && bg (f+m) sz then i<fa.length/\K (.je []) (s'.set n (.own T sz (zK fa i f ds)))else False
      |some (.HL T fa)=>iD (pT P t) λm=>bif be sz 1 && be ds.length 1 && be m 1 && be f 0 then i<fa.length/\K (.je []) (s'.set n (.HL T (zK fa i 0 ds)))else False
      |_=>False
     |none=>False
   | .na n off i=>match ma ρ v with
     | .d (.v u)=>(match s.get n with
       |some (.cells vs T)=>iD (pT P t) λm=>bif be m 1 then i<(vs.drop off).length/\K (.je []) (s.set n (.cells (vs.take off++(vs.drop off).set i (.d (.v u))) T))else False
       |some (.vec ds T)=>iD (pT P t) λm=>bif be m 1 then i<(ds.drop off).length/\K (.je []) (s.set n (.vec (ds.take off++(ds.drop off).set i (.v u)) T))else False
       |_=>False)
     |_=>False
   |_=>False
 | .slice t x lo hi ar=>match ma ρ x with
   | .own n=>match s.get n with
     |some (.own T sz fa)=>iD (g9 P t) λoB=>bif be sz oB then EN (Ht ρ lo) (Ht ρ hi) λl h=>match l,h with
      |none,ar=>K (.own n) s
      |none,aq h=>(0<=h/\h<=fa.length)/\K (.own s.nx) ((s.del n).new (.own T sz (fa.take h.toNat)))
      |some l,h=>Ob sz fa (aq l) h λv=>K v (s.set n (.kq sz fa))else False
     |some (.kq sz fa)=>iD (g9 P t) λoB=>bif be sz oB then EN (Ht ρ lo) (Ht ρ hi) λl h=>Ob sz fa l h λv=>K v s else False
     |_=>False
   |_=>False
 | .mapUpdate t x i v=>match ma ρ x with
   | .mp n=>iD (Hq P t) λke=>iD (Hr (ma ρ i)) λkv=>bif Oa P ke.1 kv && W5 (ma ρ v)then(match IP P s ke.2 (ma ρ v)with
     |some (ds,s')=>(match s'.get n with
      |some (.map es)=>eZ kv es/\K (.je []) (s'.set n (.map (gW kv ds es)))
      |_=>False)
     |none=>False)else False
   |_=>False
 | .mapEntry t x i=>match ma ρ x with
   | .mp n=>iD (Hq P t) λke=>iD (Hr (ma ρ i)) λkv=>bif Oa P ke.1 kv then iD (Nx P ke.2) λz=>(match s.get n with
     |some (.map es)=>eZ kv es/\∃b,FL P ke.2 λds=>LK es kv z ds b/\iD (HM P ke.2 ds) λv=>∀x:Int,K (.je [v,.d (.v (.int .i64 x))]) (s.set n (.CT (gW kv ds es) kv x))
     |_=>False)else False
   |_=>False
 | .entryStore t x st v=>match ma ρ x with
   | .mp n=>(match ma ρ st with
     | .d (.v (.int _ b))=>iD (Hq P t) λke=>bif W5 (ma ρ v)then(match IP P s ke.2 (ma ρ v)with
       |some (ds,s')=>(match s'.get n with
        |some (.CT es kv b')=>b=b'/\eZ kv es/\K (.je []) (s'.set n (.map (gW kv ds es)))
        |_=>False)
       |none=>False)else False
     |_=>False)
   |_=>False
 | .convert st d x=>match ma ρ x with
   | .d (.v (.string b))=>bif Ls P st then iD (W0 P d) λe=>K (.own s.nx) (s.new (.HL e (j6 b)))else False
   | .own n=>match s.get n with
     |some (.own T sz fa)=>bif be st d && be sz 1 then iD (W0 P d) λe=>bif be T e then 1<=fa.length/\K (.own n) (s.set n (.kq sz fa))else False else False
     |_=>False
   |_=>False
 | .range t x=>match ma ρ x with
   | .d (.v (.string b))=>bif Ls P t then K (.nm s.nx 0) (s.new (.iter b 0))else False
   |_=>False
 | .next x au=>match ma ρ x with
   | .nm n 0=>match s.get n with
     |some (.iter b pos)=>dp (bu pos b.size)
       (K (.je [.d (.v (.bool au)),.d (.v (.int .i64 (pos:Nat))),.d (.v (.int .i32 (Utf8.decode b pos).1))]) (s.set n (.iter b (pos+(Utf8.decode b pos).2))))
       (K (.je [.d (.v (.bool av))]) s)
     |_=>False
   |_=>False
 | .call c=>match c.callee with
   | .value x=>match ma ρ x with
     | .fn f a b=>yNg H f (a++(DA ρ c.args.toList++b)) s K
     |_=>False
   | .builtin .append=>match c.argTypes.toList with
     |[t1,t2]=>match DA ρ c.args.toList with
      |[x,y]=>bif yPx s y then ZG P t1 t2 s x y K else YH P t1 t2 s x y K
      |_=>False
     |_=>False
   | .builtin .delete=>match DA ρ c.args.toList with
     |[.mp n,y]=>iD c.argTypes[0]? λt=>iD (Hq P t) λke=>iD (Hr y) λkv=>bif Oa P ke.1 kv then(match s.get n with
      |some (.map es)=>eZ kv es/\K (.je []) (s.set n (.map (CE kv es)))
      |_=>False)else False
     |_=>False
   |_=>False
 |_=>False
def uZ {P:ac} {w:ag} {r:Nat} {O O':Obj} (h:w.heap[r]? =aq O') (hO:match O' with| .cells _ _ _=>False|_=>True):(setObj r O).run P w= .ok () (World.ja w r O):=by
 simp only[setObj,ce,h];cases O'<;>first|exact hO.elim|rfl
def nO {sz:Nat}:∀{fa:Q_ D} (i f:Nat) (ds:List D),(∀el∈fa,el.length=sz)->i<fa.length->f+ds.length<=sz->
 (zK fa i f ds).flatten=N4 fa.flatten (i*sz+f) ds/\∀el∈zK fa i f ds,el.length=sz
 |[],i,f,ds,_,h,_=>by simp at h
 |el::fa,0,f,ds,hu,h,hd=>by
  have e1:=hu el iX;constructor
  ·simp only[zK,List.modify_zero_cons,A9,N4,bo,nq];rw[yp (by omega),HI (by omega)];simp
  ·intro e he;simp only[zK,List.modify_zero_cons,jx]at he;rcases he with rfl|he
   ·simp only[iv,nn,pd];omega
   ·exact hu e (ji _ he)
 |el::fa,i+1,f,ds,hu,h,hd=>by
  have e1:=hu el iX;obtain⟨XV,XU⟩:=nO (fa:=fa) i f ds (λe he=>hu e (ji _ he)) (i9 h) hd;constructor
  ·simp only[zK,RA,A9,N4]at XV ⊢;rw[XV,zr,List.take_append,LZ,e1];rw[mz (show el.length<=i*sz+sz+f by omega),show i*sz+sz+f-sz=i*sz+f by omega,IB (show el.length<=i*sz+sz+f+ds.length by omega),show i*sz+sz+f+ds.length-sz=i*sz+f+ds.length by omega];simp
  ·intro e he;simp only[zK,RA,jx]at he XU;rcases he with rfl|he
   ·exact e1
   ·exact XU e he
def zVn {P:ac} {w:ag} {t b o:Nat} {v y:ab} {l:List ab} {T:ae} (hz:pT P t=aq 1) (hc:v.cells= #[y]) (ho:o<l.length) (h1:y.oq=au)
 (hb:w.heap[b]? =aq (.cells l.toArray T (l.length,l.length+1))):Hw P (storeVar t ⟨b,o,ar⟩ v) w (World.ja w b (.cells (l.set o y).toArray T (l.length,l.length+1))):=by
 have Um:w.cell? ⟨b,o,ar⟩=aq l[o]:=by rw[Wp hb];exact vd ho
 have hf:w.frozen? ⟨b,o,ar⟩=av:=by
  simp only[World.frozen?,hb];simp;omega
 have qj:w.setCell ⟨b,o,ar⟩ y=World.ja w b (.cells (l.set o y).toArray T (l.length,l.length+1)):=by
  unfold World.setCell World.ja;congr 1;apply Rx;intro i;rw[Array.getElem?_modify,RJ];have gu:b<w.heap.size:=by
   rcases uz b w.heap.size with h|h
   ·exact h
   ·rw[HH h]at hb;cases hb
  by_cases hi:b=i
  ·subst hi;have ni:w.heap[b]= .cells l.toArray T (l.length,l.length+1):=by rw[RH gu]at hb;exact bc hb
   simp[gu,ni]
  ·simp[hi]
 have h0:(store ⟨b,o,ar⟩ y).run P w= .ok () (World.ja w b (.cells (l.set o y).toArray T (l.length,l.length+1))):=by
  unfold store;cases y<;>first|(cases h1;done)|(simp only[ce,Um,hf,oR,if_false,qj])
 unfold pT at hz;split at hz<;>first|(cases hz;done)|skip
 rename_i i hi;have hz:i.size=1:=bc hz;unfold Hw storeVar;simp only[bind,run_bind,run_sizeOf hi,hc,hz];simp only[J2,iF,tz];have e:(storeCells ⟨b,o,ar⟩ [y] 0).run P w= .ok () (World.ja w b (.cells (l.set o y).toArray T (l.length,l.length+1))):=by
  unfold storeCells;simp only[bind,run_bind,h9,FE,h0];unfold storeCells;rfl
 simpa using e
def gC {P:ac} {w:ag} {t b o n:Nat} {v:ab} {l vs:List ab} {T:ae} (hz:pT P t=aq n) (hc:v.cells=vs.toArray) (hn:vs.length=n) (ho:o+n<=l.length) (h1:∀y∈vs,y.oq=au)
 (hb:w.heap[b]? =aq (.cells l.toArray T)):Hw P (storeVar t ⟨b,o,ar⟩ v) w (World.ja w b (.cells (kx l o vs).toArray T)):=by
 unfold pT at hz;split at hz<;>first|(cases hz;done)|skip
 rename_i i hi;cases hz;unfold Hw storeVar;have:=vK (P:=P) vs 0 o l w hb (by omega) h1;simp only[FE]at this;simp only[bind,run_bind,run_sizeOf hi,hc,J2,hn];simpa using this
end Sx
