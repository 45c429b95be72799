/- Texts of ours. No condition. -/
import Derived.Laws.Cover1
import Derived.Laws.StructEq
import Derived.MapKept
import Derived.Test.YtgmmlhddihaocaaGreatC1
set_option linter.all false
open Go renaming Value->aa,Program->ab,TypeId->ac,execOp->ae,World->af,Operand->ag,MapEntry->aj,Oper->ak,Addr->am,IntKind->ao
open Option renaming some->ap,none->aq
open Bool renaming true->ar,false->au
open List renaming range->av,replicate->aw,take_take->ax,drop_take->ay
open Option.some renaming injEq->az,inj->ba
open Nat renaming beq->bc,ble->be,zero_mul->bg,blt->bo
open Go.Instr renaming findNow->bu,typeAssert->bv,lookup->bz
open Go.Sem renaming run->cd,bind->ce,pure->cf
open Go.Op renaming operands->cg,equalIn->ci
open List.Perm renaming cons->cm,append_left->cn,append_right->co,swap->cp
open Prod.mk renaming injEq->cq
open Go.Builtin renaming len_->cr,firstCells->ct
open Array renaming ext'->cu
namespace Sx
open Go Go.RowKit Cv
def gp.length {E:Ev}:∀{vs:List V} {l:List aa},gp E vs l->l.length=vs.length
 |[],l,h=>by simp only[gp]at h;subst h;rfl
 |v::vs,l,h=>by simp only[gp]at h;obtain⟨x,xs,rfl,h1,h2⟩:=h;simp[h2.length]
def gp.get {E:Ev}:∀{vs:List V} {l:List aa},gp E vs l->∀{i:Nat} {v:V},vs[i]? =ap v->∃y,l[i]? =ap y/\VR E v y
 |[],l,h,i,v,e=>by simp at e
 |v::vs,l,h,i,u,e=>by
  simp only[gp]at h;obtain⟨x,xs,rfl,h1,h2⟩:=h;cases i with
  |zero=>simp at e;subst e;exact⟨x,rfl,h1⟩
  |succ i=>simp at e ⊢;exact h2.get e
def gp.take {E:Ev}:∀{vs:List V} {l:List aa},gp E vs l->∀(n:Nat),gp E (vs.take n) (l.take n)
 |[],l,h,n=>by simp only[gp]at h;subst h;simp[gp]
 |v::vs,l,h,n=>by
  simp only[gp]at h;obtain⟨x,xs,rfl,h1,h2⟩:=h;cases n with
  |zero=>simp[gp]
  |succ n=>simp only[vg,gp];exact⟨_,_,rfl,h1,h2.take n⟩
def gp.drop {E:Ev}:∀{vs:List V} {l:List aa},gp E vs l->∀(n:Nat),gp E (vs.drop n) (l.drop n)
 |[],l,h,n=>by simp only[gp]at h;subst h;simp[gp]
 |v::vs,l,h,n=>by
  have h0:=h;simp only[gp]at h;obtain⟨x,xs,rfl,h1,h2⟩:=h;cases n with
  |zero=>exact h0
  |succ n=>simp only[List.drop_succ_cons];exact h2.drop n
def gp.append {E:Ev}:∀{vs:List V} {l:List aa},gp E vs l->∀{us:List V} {m:List aa},gp E us m->gp E (vs++us) (l++m)
 |[],l,h,us,m,h'=>by simp only[gp]at h;subst h;exact h'
 |v::vs,l,h,us,m,h'=>by
  simp only[gp]at h;obtain⟨x,xs,rfl,h1,h2⟩:=h;simp only[tv,gp];exact⟨_,_,rfl,h1,h2.append h'⟩
def gp.one {E:Ev} {v:V} {y:aa} (h:VR E v y):gp E [v] [y]:=by simp only[gp];exact⟨_,_,rfl,h,rfl⟩
def gp.nil {E:Ev}:gp E [] []:=by simp only[gp]
def iz.length {F:PH}:∀{vs:List D} {l:List aa},iz F vs l->l.length=vs.length
 |[],l,h=>by simp only[iz]at h;subst h;rfl
 |v::vs,l,h=>by simp only[iz]at h;obtain⟨x,xs,rfl,h1,h2⟩:=h;simp[h2.length]
def iz.append {F:PH}:∀{vs:List D} {l:List aa},iz F vs l->∀{us:List D} {m:List aa},iz F us m->iz F (vs++us) (l++m)
 |[],l,h,us,m,h'=>by simp only[iz]at h;subst h;exact h'
 |v::vs,l,h,us,m,h'=>by
  simp only[iz]at h;obtain⟨x,xs,rfl,h1,h2⟩:=h;simp only[tv,iz];exact⟨_,_,rfl,h1,h2.append h'⟩
def iz.split {F:PH}:∀{vs us:List D} {l:List aa},iz F (vs++us) l->∃l1 l2,l=l1++l2/\iz F vs l1/\iz F us l2
 |[],us,l,h=>⟨[],l,rfl,by simp only[iz],h⟩
 |v::vs,us,l,h=>by
  simp only[tv,iz]at h;obtain⟨x,xs,rfl,h1,h2⟩:=h;obtain⟨l1,l2,rfl,h3,h4⟩:=h2.split;exact⟨x::l1,l2,rfl,by simp only[iz];exact⟨_,_,rfl,h1,h3⟩,h4⟩
def iz.take {F:PH}:∀{vs:List D} {l:List aa},iz F vs l->∀(n:Nat),iz F (vs.take n) (l.take n)
 |[],l,h,n=>by simp only[iz]at h;subst h;simp[iz]
 |v::vs,l,h,n=>by
  simp only[iz]at h;obtain⟨x,xs,rfl,h1,h2⟩:=h;cases n with
  |zero=>simp[iz]
  |succ n=>simp only[vg,iz];exact⟨_,_,rfl,h1,h2.take n⟩
def iz.drop {F:PH}:∀{vs:List D} {l:List aa},iz F vs l->∀(n:Nat),iz F (vs.drop n) (l.drop n)
 |[],l,h,n=>by simp only[iz]at h;subst h;simp[iz]
 |v::vs,l,h,n=>by
  have h0:=h;simp only[iz]at h;obtain⟨x,xs,rfl,h1,h2⟩:=h;cases n with
  |zero=>exact h0
  |succ n=>simp only[List.drop_succ_cons];exact h2.drop n
def iz.one {F:PH}:∀{vs:List D} {l:List aa},iz F vs l->∀v∈l,v.nv=ar
 |[],l,h=>by simp only[iz]at h;subst h;simp
 |v::vs,l,h=>by
  simp only[iz]at h;obtain⟨x,xs,rfl,h1,h2⟩:=h;intro u hu;rcases mf.1 hu with rfl|hu
  ·cases v with
   |v y=>simp only[DR]at h1;rw[h1.1];exact h1.2
   |ro sz eg=>simp only[DR]at h1;obtain⟨a,c,rfl,_⟩:=h1;rfl
  ·exact h2.one u hu
def iz.get {F:PH}:∀{vs:List D} {l:List aa},iz F vs l->∀{i:Nat} {v:D},vs[i]? =ap v->∃y,l[i]? =ap y/\DR F v y
 |[],l,h,i,v,e=>by simp at e
 |v::vs,l,h,i,u,e=>by
  simp only[iz]at h;obtain⟨x,xs,rfl,h1,h2⟩:=h;cases i with
  |zero=>simp at e;subst e;exact⟨x,rfl,h1⟩
  |succ i=>simp at e ⊢;exact h2.get e
def iz.MV {E:Ev}:∀{vs:List D} {l:List aa},iz E.F vs l->gp E (vs.map .d) l
 |[],l,h=>by simp only[iz]at h;subst h;simp[gp]
 |v::vs,l,h=>by
  simp only[iz]at h;obtain⟨x,xs,rfl,h1,h2⟩:=h;simp only[jo,gp,VR];exact⟨_,_,rfl,h1,h2.MV⟩
def oJ {F:PH}:∀{eg:List (List D)} {l:List aa},A1 F eg l↔∃xs r,l=xs++r/\iz F eg.flatten xs
 |[],l=>by simp only[A1,List.flatten_nil,true_iff,iz];exact⟨[],l,rfl,rfl⟩
 |el::eg,l=>by
  simp only[A1,AD];constructor
  ·rintro⟨l1,l2,rfl,h1,h2⟩;obtain⟨xs,r,rfl,h3⟩:=oJ.1 h2;exact⟨l1++xs,r,by simp,h1.append h3⟩
  ·rintro⟨xs,r,rfl,h⟩;obtain⟨l1,l2,rfl,h1,h2⟩:=h.split;exact⟨l1,l2++r,by simp,h1,oJ.2 ⟨l2,r,rfl,h2⟩⟩
def jM {α:Type} {sz:Nat}:∀{eg:List (List α)},(∀el∈eg,el.length=sz)->eg.flatten.length=eg.length*sz
 |[],_=>by simp
 |el::eg,h=>by
  rw[AD,im,h el ji,jM (λe he=>h e (jw _ he)),iD,zd];omega
def pE {α:Type} {sz:Nat}:∀{eg:List (List α)} (i:Nat),(∀el∈eg,el.length=sz)->eg.flatten.drop (i*sz)=(eg.drop i).flatten
 |[],i,_=>by simp
 |el::eg,0,h=>by simp
 |el::eg,i+1,h=>by
  rw[AD,List.drop_succ_cons,<- pE i (λe he=>h e (jw _ he)),zd,Ha,<- Cw];rw[show(el++eg.flatten).drop sz=eg.flatten by rw[<- h el ji,List.drop_left]]
def rN {α:Type} {sz:Nat}:∀{eg:List (List α)} (i:Nat),(∀el∈eg,el.length=sz)->eg.flatten.take (i*sz)=(eg.take i).flatten
 |[],i,_=>by simp
 |el::eg,0,h=>by simp
 |el::eg,i+1,h=>by
  rw[AD,vg,AD,<- rN i (λe he=>h e (jw _ he)),zd,Ha,List.take_append,h el ji];simp[h el ji];rw[og (by rw[h el ji];omega)]
def Xu {α:Type} {sz:Nat} {eg:List (List α)} {i f n:Nat} {el:List α} (h:∀el∈eg,el.length=sz) (hi:eg[i]? =ap el) (hf:f+n<=sz):(eg.flatten.drop (i*sz+f)).take n=(el.drop f).take n:=by
 have hm:=lr hi;have gr:i<eg.length:=(jl.1 hi).1;rw[<- Cw,pE i h];have:eg.drop i=el::eg.drop (i+1):=by
  rw[Dq gr];congr 1;exact(jl.1 hi).2
 rw[this,AD,ED (by rw[h el hm];omega),xq (by rw[oV,h el hm];omega)]
def okc:aa->Bool
 | .agg cs=>cs.toList.all (·.nv)
 | .tuple cs=>cs.toList.all (·.nv)
 |_=>ar
def Cz (x:aa):V:=
 bif okc x then(match x with
 | .agg cs=> .agg (cs.toList.map λy=> .d (.v y))
 | .tuple cs=> .iW (cs.toList.map λy=> .d (.v y))
 |x=> .d (.v x))else .top
def Z7 {E:Ev}:∀{l:List aa},(l.all (·.nv))=ar->gp E (l.map λy=> .d (.v y)) l
 |[],_=>by simp[gp]
 |y::l,h=>by
  simp only[List.all_cons,kx]at h;simp only[jo,gp,VR,DR];exact⟨y,l,rfl,⟨rfl,h.1⟩,Z7 h.2⟩
def NO (E:Ev) (x:aa):VR E (Cz x) x:=by
 unfold Cz;cases h:okc x
 ·simp[VR]
 ·cases x<;>simp only[cond_true,VR,DR]<;>first|exact⟨rfl,rfl⟩|exact⟨trivial,rfl⟩|(rename_i cs;exact⟨cs.toList,by simp,Z7 h⟩)
@[reducible] def xA:=Nat->V
def lh (ρ:xA):ag->V
 | .tmp t=>ρ t
 | .const x=>Cz x
 | .func f=> .fn f [] []
 | .global _=> .top
def lX (ρ:xA):Option Nat->V->xA
 |none,_=>ρ
 |some d,v=>λi=>bif bc i d then v else ρ i
def ki (E:Ev) (ρS:xA) (ρ:Env):Prop:=∀t,VR E (ρS t) (ρ t)
def ki.ev {E:Ev} {ρS:xA} {ρ:Env} (h:ki E ρS ρ) (x:ag):VR E (lh ρS x) (ev ρ x):=by
 cases x with
 |tmp t=>exact h t
 |const v=>exact NO E v
 |func f=>simp only[lh,Cv.ev,VR];exact⟨[],[],rfl,gp.nil,gp.nil⟩
 |global g=>simp only[lh,VR]
def ki.put {E:Ev} {ρS:xA} {ρ:Env} (h:ki E ρS ρ) (d:Option Nat) {v:V} {y:aa} (hv:VR E v y):ki E (lX ρS d v) (Cv.put ρ d y):=by
 cases d with
 |none=>exact h
 |some d=>
  intro t;simp only[lX,Cv.put];cases bc t d
  ·exact h t
  ·exact hv
def ki.mono {E E':Ev} (h:E.le E') {ρS:xA} {ρ:Env} (e:ki E ρS ρ):ki E' ρS ρ:=λt=>(e t).mono h
def CJ (ρ:xA):List ag->List V
 |[]=>[]
 |x::l=>lh ρ x::CJ ρ l
def yHv {E:Ev} {ρS:xA} {ρ:Env} (h:ki E ρS ρ):∀(l:List ag),gp E (CJ ρS l) (l.map (ev ρ))
 |[]=>by simp[CJ,gp]
 |x::l=>by simp only[CJ,jo,gp];exact⟨_,_,rfl,h.ev x,yHv h l⟩
def b6 {E:Ev} {ρS:xA} {ρ:Env} (h:ki E ρS ρ) (l:Array ag):∃ys:List aa,l.map (ev ρ)=ys.toArray/\gp E (CJ ρS l.toList) ys:=
 ⟨l.toList.map (ev ρ),by apply cu;simp,yHv h _⟩
def Oh:List V->Option (List aa)
 |[]=>ap []
 | .d (.v x)::l=>match Oh l with
   |some r=>ap (x::r)
   |none=>aq
 |_::_=>aq
def Gl:V->Option aa
 | .d (.v x)=>ap x
 | .agg l=>match Oh l with
   |some r=>ap (.agg r.toArray)
   |none=>aq
 | .fn f [] []=>ap (.func (.func f) #[] #[])
 |_=>aq
def z2f {E:Ev}:∀{l:List V} {r ys:List aa},Oh l=ap r->gp E l ys->ys=r
 |[],r,ys,h,e=>by simp only[Oh,az]at h;subst h;simpa only[gp]using e
 |v::l,r,ys,h,e=>by
  simp only[gp]at e;obtain⟨x,xs,rfl,h1,h2⟩:=e;unfold Oh at h;split at h
  ·rename_i heq;cases heq
  ·rename_i x' l' heq;cases heq;simp only[VR,DR]at h1;split at h<;>first|(cases h;done)|skip
   rename_i r' hr;cases h;rw[h1.1,z2f hr h2]
  ·cases h
def tU {E:Ev} {v:V} {x y:aa} (h:Gl v=ap x) (e:VR E v y):y=x:=by
 unfold Gl at h;split at h
 ·cases h;simp only[VR,DR]at e;exact e.1
 ·rename_i l;split at h<;>first|(cases h;done)|skip
  rename_i r hr;cases h;simp only[VR]at e;obtain⟨ys,rfl,h2⟩:=e;rw[z2f hr h2]
 ·cases h;simp only[VR]at e;obtain⟨as,bs,rfl,h2,h3⟩:=e;simp only[gp]at h2 h3;subst h2 h3;rfl
 ·cases h
def Un (ρ:xA):ag->Bool
 | .tmp t=>match Gl (ρ t)with
   |some _=>ar
   |none=>au
 |_=>ar
def TV (ρ:xA):List ag->Bool
 |[]=>ar
 |x::l=>bif Un ρ x then TV ρ l else au
def TD (ρ:xA):Env:=λt=>match Gl (ρ t)with
 |some x=>x
 |none=>undef
def yYx {E:Ev} {ρS:xA} {ρ:Env} (h:ki E ρS ρ) {x:ag} (hl:Un ρS x=ar):ev (TD ρS) x=ev ρ x:=by
 cases x with
 |tmp t=>
  simp only[Un]at hl;split at hl<;>first|(cases hl;done)|skip
  rename_i y hy;simp only[Cv.ev,TD,hy];exact(tU hy (h t)).symm
 |_=>rfl
def z8l {E:Ev} {ρS:xA} {ρ:Env} (h:ki E ρS ρ):∀{l:List ag},TV ρS l=ar->∀x∈l,ev (TD ρS) x=ev ρ x
 |[],_,x,hx=>by cases hx
 |y::l,hl,x,hx=>by
  simp only[TV]at hl;cases hy:Un ρS y with
  |false=>rw[hy]at hl;cases hl
  |true=>
   rw[hy]at hl;rcases mf.1 hx with rfl|hx
   ·exact yYx h hy
   ·exact z8l h hl x hx
def NP:Op->Bool
 | .binOp _ _ _ _ _=>ar
 | .unOp _ _ _=>ar
 | .convert _ _ _=>ar
 | .index _ _ _=>ar
 | .nilCheck _=>ar
 | .slice _ _ _ _ aq=>ar
 | .call {callee:= .builtin _,..}=>ar
 |_=>au
def yFp {ρ ρ':Env} {o:ak} (hp:NP o.op=ar) (h:∀x∈o.op.operands.toList,ev ρ x=ev ρ' x):ae (ev ρ) o=ae (ev ρ') o:=by
 obtain⟨dst,op,ty,pos,after,gd⟩:=o;cases op<;>simp only[NP,oD]at hp
 case binOp a b x y c=>simp only[cg,mf,ML,or_false,forall_eq_or_imp,forall_eq]at h;simp only[ae,h]
 case unOp a b x=>simp only[cg,mf,ML,or_false,forall_eq]at h;simp only[ae,h]
 case convert a b x=>simp only[cg,mf,ML,or_false,forall_eq]at h;simp only[ae,h]
 case index a x y=>simp only[cg,mf,ML,or_false,forall_eq_or_imp,forall_eq]at h;simp only[ae,h]
 case nilCheck x=>simp only[cg,mf,ML,or_false,forall_eq]at h;simp only[ae,h]
 case slice a x lo hi mx=>
  cases mx with
  |some m=>simp[NP]at hp
  |none=>
   have hl:lo.map (ev ρ)=lo.map (ev ρ'):=by
    cases lo with
    |none=>rfl
    |some z=>simp only[vw];rw[h z (by simp[cg])]
   have hh:hi.map (ev ρ)=hi.map (ev ρ'):=by
    cases hi with
    |none=>rfl
    |some z=>simp only[vw];rw[h z (by simp[cg])]
   simp only[ae,hl,hh,h x (by simp[cg])];rfl
 case call c=>
  obtain⟨callee,args,ats⟩:=c;cases callee<;>simp only[NP,oD]at hp
  have ha:args.map (ev ρ)=args.map (ev ρ'):=by
   apply Array.map_congr_left;intro x hx;exact h x (by simp[cg,Call.operands,hx])
  simp only[ae,resolve,ha]
def Kj (P:ab) (t:ac) (x y:aa):Option Bool:=
 match P.underlying t with
 |some (.int _)=>match x with
  | .int k a=>match y with
    | .int k' b=>bif vy k k' then ap (a==b)else aq
    |_=>aq
  |_=>aq
 |some .string=>match x with
  | .string a=>match y with
    | .string b=>ap (a==b)
    |_=>aq
  |_=>aq
 |some .bool=>match x with
  | .bool a=>match y with
    | .bool b=>ap (a==b)
    |_=>aq
  |_=>aq
 |_=>aq
def Kk (P:ab) (xs ys:List aa):List Field->Option Bool
 |[]=>ap ar
 | f :: fs => bif f.name == "_" then none else match xs[f.offset]?, ys[f.offset]? with
   |some x,ap y=>match Kj P f.type x y with
    |some a=>match Kk P xs ys fs with
     |some b=>ap (a && b)
     |none=>aq
    |none=>aq
   |_,_=>aq
def TI (P:ab) (f:Field) (xs ys:List aa):Option Bool:=
 match P.underlying f.type with
 |some (.struct gs)=>match DW P f.type with
  |some n=>bif P.stoodInHeld f.type then aq else Kk P ((xs.drop f.offset).take n) ((ys.drop f.offset).take n) gs.toList
  |none=>aq
 |_=>match xs[f.offset]?,ys[f.offset]? with
  |some x,ap y=>Kj P f.type x y
  |_,_=>aq
def L5 (P:ab) (xs ys:List aa):List Field->Option Bool
 |[]=>ap ar
 | f :: fs => bif f.name == "_" then none else match TI P f xs ys with
   |some a=>match L5 P xs ys fs with
    |some b=>ap (a && b)
    |none=>aq
   |none=>aq
def Z1 (P:ab) (t:ac) (xs ys:List aa):Option Bool:=
 match P.underlying t with
 |some (.struct fs)=>bif P.stoodInHeld t then aq else L5 P xs ys fs.toList
 |_=>aq
def Tb {P:ab} {t:ac} {x y:aa} {b:Bool} (h:Kj P t x y=ap b):BO P t=ar:=by
 unfold Kj at h;unfold BO;split at h<;>first|(cases h;done)|skip
 all_goals(rename_i he;rw[he])
def z2u {P:ab} {t:ac} {x y:aa} {b:Bool} {d:Nat} (h:Kj P t x y=ap b) (w:af):(ci (d+1) t x y).run P w= .ok b w:=by
 unfold Kj at h;split at h<;>first|(cases h;done)|skip
 all_goals
  rename_i he;split at h<;>first|(cases h;done)|skip
  split at h<;>first|(cases h;done)|skip
  unfold ci;simp only[bind,pure,run_bind,Cv.run_underlying he]
 ·obtain⟨hk,hb⟩:=yU h;clear h;have:=zUy hk;subst this;cases hb;simp only[if_true,cd]
 ·cases h;rfl
 ·cases h;rfl
def SI {P:ab} {t off:Nat} {cs:List aa} {v:aa} (hs:BO P t=ar) (h:cs[off]? =ap v) (w:af):(part t cs.toArray off).run P w= .ok v w:=by
 unfold part;have:cs.toArray[off]? =ap v:=by simp[h]
 simp only[bind,run_bind,mW hs w,oD,if_false,this];rfl
def zUh {P:ab} (w:af) {xs ys:List aa} {σ:Type} {s0:σ} {fin:σ} {F:Field->σ->Sem (ForInStep σ)}
 (hF : ∀ f x y b, (f.name == "_") = false -> xs[f.offset]? = some x -> ys[f.offset]? = some y -> Kj P f.type x y = some b -> (F f s0).run P w = .ok (if b then .yield s0 else .done fin) w) :
 ∀{fs:List Field} {b:Bool},Kk P xs ys fs=ap b->((forIn fs s0 F):Sem σ).run P w= .ok (if b then s0 else fin) w
 |[],b,h=>by
  simp only[Kk,az]at h;subst h;rfl
 |f::fs,b,h=>by
  simp only[Kk]at h;have hn : (f.name == "_") = false := by
   cases hb : (f.name == "_")
   ·rfl
   ·rw[hb]at h;cases h
  rw[hn]at h;simp only[cond_false]at h;split at h<;>first|(cases h;done)|skip
  rename_i x y hx hy;split at h<;>first|(cases h;done)|skip
  rename_i a ha;split at h<;>first|(cases h;done)|skip
  rename_i b' hb;cases h;have h1:=hF f x y a hn hx hy ha;have ih:=zUh (P:=P) w hF hb;simp only[List.forIn_cons,bind,run_bind,h1];cases a
  ·rfl
  ·simpa using ih
def zWp {P:ab} {t:ac} {fs:Array Field} {xs ys:List aa} {b:Bool} {d:Nat} (wx:P.underlying t=ap (.struct fs)) (ku:P.stoodInHeld t=au) (h:Kk P xs ys fs.toList=ap b) (w:af):
 (ci (d+2) t (.agg xs.toArray) (.agg ys.toArray)).run P w= .ok b w:=by
 unfold ci;simp only[bind,pure,run_bind,Cv.run_underlying wx,program,cd,ce,ku,oD,if_false];rw[<- Array.forIn_toList];have := zUh (P := P) (xs := xs) (ys := ys) w (σ := Option Bool × Unit) (s0 := (none, ())) (fin := (some false, ())) (F := λf __s => if f.name ≠ "_" then
  (part f.type xs.toArray f.offset).bind λx=>(part f.type ys.toArray f.offset).bind λy=>(ci (d+1) f.type x y).bind λc=>
    if(!c)=ar then cf (ForInStep.done (ap au,()))else cf (ForInStep.yield (aq,()))
  else cf (ForInStep.yield (aq,()))) (by
  intro f x y c hn hx hy hc;have je : f.name ≠ "_" := by simpa using hn
  simp only[je,ne_eq,not_false_eq_true,if_true,run_bind,SI (Tb hc) hx,SI (Tb hc) hy,z2u (d:=d) hc];cases c<;>rfl) h
 rw[this];cases b<;>rfl
def zFt {P:ab} {t off n:Nat} {cs:List aa} (hs:DW P t=ap n) (w:af):(part t cs.toArray off).run P w= .ok (.agg ((cs.drop off).take n).toArray) w:=by
 obtain⟨h1,h2⟩:=cT hs w;unfold part;have e:cs.toArray.extract off (off+n)=((cs.drop off).take n).toArray:=by
  rw[List.extract_toArray,List.extract_eq_take_drop];simp
 simp only[bind,pure,run_bind,h1,if_true,h2,cd,e]
def zRo {P:ab} (w:af) {xs ys:List aa} {σ:Type} {s0:σ} {fin:σ} {F:Field->σ->Sem (ForInStep σ)}
 (hF : ∀ f b, (f.name == "_") = false -> TI P f xs ys = some b -> (F f s0).run P w = .ok (if b then .yield s0 else .done fin) w) :
 ∀{fs:List Field} {b:Bool},L5 P xs ys fs=ap b->((forIn fs s0 F):Sem σ).run P w= .ok (if b then s0 else fin) w
 |[],b,h=>by
  simp only[L5,az]at h;subst h;rfl
 |f::fs,b,h=>by
  simp only[L5]at h;have hn : (f.name == "_") = false := by
   cases hb : (f.name == "_")
   ·rfl
   ·rw[hb]at h;cases h
  rw[hn]at h;simp only[cond_false]at h;split at h<;>first|(cases h;done)|skip
  rename_i a ha;split at h<;>first|(cases h;done)|skip
  rename_i b' hb;cases h;have h1:=hF f a hn ha;have ih:=zRo (P:=P) w hF hb;simp only[List.forIn_cons,bind,run_bind,h1];cases a
  ·rfl
  ·simpa using ih
def yJz {P:ab} {f:Field} {xs ys:List aa} {b:Bool} (h:TI P f xs ys=ap b) (w:af):
 ∃x y,(part f.type xs.toArray f.offset).run P w= .ok x w/\(part f.type ys.toArray f.offset).run P w= .ok y w/\(ci 9999 f.type x y).run P w= .ok b w:=by
 unfold TI at h;split at h
 ·rename_i gs hgs;split at h<;>first|(cases h;done)|skip
  rename_i n hn;have ku:P.stoodInHeld f.type=au/\Kk P ((xs.drop f.offset).take n) ((ys.drop f.offset).take n) gs.toList=ap b:=by
   revert h;cases P.stoodInHeld f.type<;>intro h
   ·exact⟨rfl,h⟩
   ·cases h
  exact⟨_,_,zFt hn w,zFt hn w,zWp (d:=9997) hgs ku.1 ku.2 w⟩
 ·split at h<;>first|(cases h;done)|skip
  rename_i x y hx hy;exact⟨x,y,SI (Tb h) hx w,SI (Tb h) hy w,z2u (d:=9998) h w⟩
def yDs {P:ab} {t:ac} {xs ys:List aa} {b:Bool} (h:Z1 P t xs ys=ap b) (w:af):(Op.equal t (.agg xs.toArray) (.agg ys.toArray)).run P w= .ok b w:=by
 unfold Z1 at h;split at h<;>first|(cases h;done)|skip
 rename_i fs wx;have ku:P.stoodInHeld t=au/\L5 P xs ys fs.toList=ap b:=by
  revert h;cases P.stoodInHeld t<;>intro h
  ·exact⟨rfl,h⟩
  ·cases h
 rw[m4];unfold ci;simp only[bind,pure,run_bind,Cv.run_underlying wx,program,cd,ce,ku.1,oD,if_false];rw[<- Array.forIn_toList];have := zRo (P := P) (xs := xs) (ys := ys) w (σ := Option Bool × Unit) (s0 := (none, ())) (fin := (some false, ())) (F := λf __s => if f.name ≠ "_" then
  (part f.type xs.toArray f.offset).bind λx=>(part f.type ys.toArray f.offset).bind λy=>(ci 9999 f.type x y).bind λc=>
    if(!c)=ar then cf (ForInStep.done (ap au,()))else cf (ForInStep.yield (aq,()))
  else cf (ForInStep.yield (aq,()))) (by
  intro f c hn hc;have je : f.name ≠ "_" := by simpa using hn
  obtain⟨x,y,r1,r2,r3⟩:=yJz hc w;simp only[je,ne_eq,not_false_eq_true,if_true,run_bind,r1,r2,r3];cases c<;>rfl) ku.2
 rw[this];cases b<;>rfl
def V.cl:V->List V
 | .agg l=>l
 |v=>[v]
def TY (P:ab) (t:ac) (cs:List V) (off:Nat):Option V:=
 match DW P t with
 |some sz=>ap (.agg ((cs.drop off).take sz))
 |none=>bif BO P t then cs[off]? else aq
def iC {α:Type} (x:Option α) (K:α->Prop):Prop:=
 match x with
 |some v=>K v
 |none=>False
def zM {α:Type} {x:Option α} {K:α->Prop} (h:iC x K):∃v,x=ap v/\K v:=by
 cases x with
 |none=>exact h.elim
 |some v=>exact⟨v,rfl,h⟩
def zLq {P:ab} {E:Ev} {t:ac} {cs:List V} {ys:List aa} {off:Nat} {v:V} (hr:gp E cs ys) (h:TY P t cs off=ap v):∃y,VR E v y/\∀w,(part t ys.toArray off).run P w= .ok y w:=by
 unfold TY at h;split at h
 ·rename_i sz hs;simp only[az]at h;subst h;refine⟨.agg ((ys.drop off).take sz).toArray,?_,λw=> ?_⟩
  ·simp only[VR];exact⟨_,rfl,(hr.drop off).take sz⟩
  obtain⟨h1,h2⟩:=cT hs w;unfold part;simp only[bind,run_bind,h1,h2,if_true,pure,cd];congr 3;simp[List.extract_eq_take_drop]
 ·rename_i hs;obtain⟨hb,h⟩:=yU h;obtain⟨y,h1,h2⟩:=hr.get h;refine⟨y,h2,λw=> ?_⟩;unfold part;have:ys.toArray[off]? =ap y:=by simp[h1]
  simp only[bind,run_bind,mW hb w,oD,if_false,this];rfl
def L4 (place:Nat->Option (Nat×Nat)):List (Nat×V)->List V->Option (List V)
 |[],cs=>ap cs
 |(i,v)::rest,cs=>
  match place i with
  |none=>aq
  |some (off,size)=>bif bc v.cl.length size && be (off+size) cs.length then L4 place rest (cs.take off++(v.cl++cs.drop (off+size)))else aq
def BK (E:Ev):List (Nat×V)->List (Nat×aa)->Prop
 |[],l=>l=[]
 |(i,v)::ps,l=>∃y ys,l=(i,y)::ys/\VR E v y/\BK E ps ys
def lA:V->Bool
 | .top=>au
 |_=>ar
def VR.cells {E:Ev} {v:V} {y:aa} (ht:lA v=ar) (h:VR E v y):∃l,y.cells=l.toArray/\gp E v.cl l:=by
 cases v
 case agg l=>simp only[VR]at h;obtain⟨ys,rfl,h⟩:=h;exact⟨ys,rfl,h⟩
 case top=>cases ht
 case d x=>
  have h0:=h;simp only[VR]at h;refine⟨[y],?_,gp.one h0⟩;cases x with
  |v x=>simp only[DR]at h;obtain⟨rfl,h⟩:=h;cases y<;>first|rfl|cases h
  |ro sz eg=>simp only[DR]at h;obtain⟨a,c,rfl,_⟩:=h;rfl
 case nm n o=>have h0:=h;simp only[VR]at h;obtain⟨b,oo,l,h1,rfl⟩:=h;exact⟨[_],rfl,gp.one h0⟩
 case el n sz i f=>have h0:=h;simp only[VR]at h;obtain⟨b,oo,m,c,l,h1,rfl⟩:=h;exact⟨[_],rfl,gp.one h0⟩
 case re sz eg i f=>have h0:=h;simp only[VR]at h;obtain⟨_,_,b,o,l,T,fr,rfl,_⟩:=h;exact⟨[_],rfl,gp.one h0⟩
 case na n o i=>have h0:=h;simp only[VR]at h;obtain⟨b,oo,l,h1,rfl⟩:=h;exact⟨[_],rfl,gp.one h0⟩
 case own n=>have h0:=h;simp only[VR]at h;obtain⟨l,h1,a,m,c,rfl⟩:=h;exact⟨[_],rfl,gp.one h0⟩
 case mp n=>have h0:=h;simp only[VR]at h;obtain⟨b,l,h1,rfl⟩:=h;exact⟨[_],rfl,gp.one h0⟩
 case sub n i=>have h0:=h;simp only[VR]at h;obtain⟨hd,l,b,oo,h1,h2,rfl⟩:=h;exact⟨[_],rfl,gp.one h0⟩
 case iW l=>have h0:=h;simp only[VR]at h;obtain⟨ys,rfl,h⟩:=h;exact⟨[_],rfl,gp.one h0⟩
 case fn f a b=>have h0:=h;simp only[VR]at h;obtain⟨as,bs,rfl,h⟩:=h;exact⟨[_],rfl,gp.one h0⟩
 case zh t x=>have h0:=h;simp only[VR]at h;obtain⟨z,rfl,h⟩:=h;exact⟨[_],rfl,gp.one h0⟩
def T4:List (Nat×V)->Bool
 |[]=>ar
 |p::l=>bif lA p.2 then T4 l else au
def lZ {E:Ev} {place:Nat->Option (Nat×Nat)}:∀{ps:List (Nat×V)} {cs r:List V} {qs:List (Nat×aa)} {ys:List aa},T4 ps=ar->L4 place ps cs=ap r->BK E ps qs->gp E cs ys->
 ∃zs,Instr.fill place ys.toArray qs=ap zs.toArray/\gp E r zs
 |[],cs,r,qs,ys,_,h,hp,hc=>by
  simp only[L4,az]at h;simp only[BK]at hp;subst h hp;exact⟨ys,rfl,hc⟩
 |(i,v)::ps,cs,r,qs,ys,ht,h,hp,hc=>by
  simp only[L4]at h;simp only[BK]at hp;obtain⟨y,qs,rfl,hv,hp⟩:=hp;simp only[T4]at ht;cases UF:lA v<;>rw[UF]at ht<;>simp only[cond_false,cond_true,oD]at ht
  obtain⟨l,hl,M7⟩:=VR.cells UF hv;split at h<;>first|(cases h;done)|skip
  rename_i off size ym;obtain⟨hb,h⟩:=yU h;simp only[kx]at hb;have h1:=iX hb.1;have h2:=BA hb.2;have e1:=M7.length;have e2:=hc.length;have oT:y.cells.size=size:=by rw[hl,IQ,e1,h1]
  have Hy:(decide (y.cells.size≠size)||decide (off+y.cells.size>ys.toArray.size))=au:=by
   rw[oT,IQ];simp;omega
  have hc':gp E (cs.take off++(v.cl++cs.drop (off+size))) (ys.take off++(l++ys.drop (off+size))):=(hc.take off).append (M7.append (hc.drop _));obtain⟨zs,q1,q2⟩:=lZ ht h hp hc';refine⟨zs,?_,q2⟩;simp only[Instr.fill,ym];have Fh:y.cells.zipIdx.foldl (λ(cs:Array aa) (p:aa×Nat)=>cs.setIfInBounds (off+p.2) p.1) ys.toArray=(ys.take off++(l++ys.drop (off+size))).toArray:=by
   have hz:l.toArray.zipIdx=(l.zipIdx).toArray:=by
    apply cu;simp
   rw[hl,hz,List.foldl_toArray];rw[VY (off:=off) l 0 ys (by omega)];simp only[jz,Ey,e1,h1,jd]
  rw[ej (by rw[Hy];simp),Fh];exact q1
def nD (P:ab) (t:ac):Option aa:=
 match P.info? t with
 |some i=>i.zero
 |none=>aq
def Zf (P:ab) (t:ac) (ps:List (Nat×V)):Option V:=
 match nD P t with
 |some z=>bif lA (Cz z) && T4 ps then(match yIh P t with
  |some pl=>match Oi pl with
   |some _=>match L4 (U6 pl) ps (Cz z).cl with
    |some cs=>ap (.agg cs)
    |none=>aq
   |none=>aq
  |none=>match RX P t with
   |some (_,_,sz)=>match L4 (λi=>ap (i*sz,sz)) ps (Cz z).cl with
    |some cs=>ap (.agg cs)
    |none=>aq
   |none=>aq)else aq
 |none=>aq
def cI {P:ab} {t:ac} {z:aa} (h:nD P t=ap z):zero? P t=ap z:=by
 unfold nD at h;unfold zero?;split at h
 ·rename_i i hi;rw[hi];exact h
 ·cases h
def zXh {P:ab} {E:Ev} {t:ac} {ps:List (Nat×V)} {qs:List (Nat×aa)} {v:V} (hp:BK E ps qs) (h:Zf P t ps=ap v):
 ∃y,VR E v y/\∀w,(Instr.build t qs.toArray).run P w= .ok y w:=by
 unfold Zf at h;split at h<;>first|(cases h;done)|skip
 rename_i z hz;have D6:=λw=>lq (cI hz) w
 obtain⟨hb,h⟩:=yU h;simp only[kx]at hb;obtain⟨zl,CC,Ut⟩:=VR.cells (E:=E) hb.1 (NO E z);split at h
 ·rename_i pl ym;split at h<;>first|(cases h;done)|skip
  rename_i L hL;split at h<;>first|(cases h;done)|skip
  rename_i cs GM;simp only[az]at h;subst h;have aaG:=zUb hL;subst aaG;unfold yIh at ym;split at ym<;>first|(cases ym;done)|skip
  rename_i fs wx;simp only[az]at ym;have UC:(λi=>L.toArray[i]?)=U6 (L.map ap):=by
   funext i;unfold U6;simp only[AF,uq];cases L[i]? <;>rfl
  obtain⟨zs,hf,M6⟩:=lZ hb.2 GM hp Ut;refine⟨.agg zs.toArray,by simp only[VR];exact⟨zs,rfl,M6⟩,λw=> ?_⟩;have hm:=zNu w ym;have hmA:((fs.mapM λf=>(do pure (f.offset,<- Go.sizeOf f.type):Sem (Nat×Nat))):Sem (Array (Nat×Nat))).run P w= .ok L.toArray w:=by
   rw[Array.mapM_eq_mapM_toList,map_eq_pure_bind];simp only[bind,pure,run_bind]at hm ⊢;rw[hm];rfl
  unfold Instr.build;simp only[bind]at hmA;simp only[bind,run_bind,D6,Cv.run_underlying wx,hmA,CC,UC,hf];rfl
 ·split at h<;>first|(cases h;done)|skip
  rename_i n e sz Je;split at h<;>first|(cases h;done)|skip
  rename_i cs GM;simp only[az]at h;subst h;obtain⟨i,h1,h2,rfl⟩:=zFz Je;obtain⟨zs,hf,M6⟩:=lZ hb.2 GM hp Ut;refine⟨.agg zs.toArray,by simp only[VR];exact⟨zs,rfl,M6⟩,λw=> ?_⟩;unfold Instr.build;simp only[bind,run_bind,D6,Cv.run_underlying h1,run_sizeOf h2,CC,hf];rfl
def Kb (ρ:xA):List (Nat×ag)->List (Nat×V)
 |[]=>[]
 |(i,x)::l=>(i,lh ρ x)::Kb ρ l
def Ta {E:Ev} {ρS:xA} {ρ:Env} (h:ki E ρS ρ):∀(l:List (Nat×ag)),BK E (Kb ρS l) (l.map λp=>(p.1,ev ρ p.2))
 |[]=>by simp[Kb,BK]
 |(i,x)::l=>by simp only[Kb,jo,BK];exact⟨_,_,rfl,h.ev x,Ta h l⟩
def bK (P:ab) (t:ac):Bool:=
 match P.underlying t with
 |some (.interface _)=>ar
 |none=>ar
 |_=>au
def TS:V->Bool
 | .nm _ _=>ar
 | .el _ _ _ _=>ar
 | .re _ _ _ _=>ar
 | .sub _ _=>ar
 |_=>au
def z8s {E:Ev} {v:V} {y:aa} (hp:TS v=ar) (h:VR E v y):∃a,y= .pointer (ap a):=by
 cases v<;>simp only[TS,oD]at hp<;>simp only[VR]at h
 ·obtain⟨b,oo,l,h1,rfl⟩:=h;exact⟨_,rfl⟩
 ·obtain⟨b,oo,m,c,l,h1,rfl⟩:=h;exact⟨_,rfl⟩
 ·obtain⟨_,_,b,o,l,T,fr,rfl,_⟩:=h;exact⟨_,rfl⟩
 ·obtain⟨hd,l,b,oo,h1,h2,rfl⟩:=h;exact⟨_,rfl⟩
def Gg (ρ:xA):Option ag->Option (Option Int)
 |none=>ap aq
 |some x=>match lh ρ x with
  | .d (.v (.int _ n))=>ap (ap n)
  |_=>aq
def Mv (sz:Nat) (eg:List (List D)) (lo hi:Option Int) (K:V->Prop):Prop:=
 match lo,hi with
 |none,aq=>K (.d (.ro sz eg))
 |some l,aq=>(0<=l/\l<=eg.length)/\K (.d (.ro sz (eg.drop l.toNat)))
 |none,ap h=>(0<=h/\h<=eg.length)/\K (.d (.ro sz (eg.take h.toNat)))
 |some l,ap h=>(0<=l/\l<=h/\h<=eg.length)/\K (.d (.ro sz ((eg.take h.toNat).drop l.toNat)))
def RF:ag->Bool
 | .const (.slice aq 0 0)=>ar
 |_=>au
def Zw (op:BinOp) (eg:List (List D)) (K:V->Prop):Prop:=
 ∀b:Bool,(b=ar->eg=[])->match op with
  | .eql=>K (.d (.v (.bool b)))
  | .neq=>K (.d (.v (.bool !b)))
  |_=>False
def Zt:V->V->Bool
 | .nm n o,.nm m p=>bc n m && bc o p
 |_,_=>au
def T6 (P:ab) (t:ac):Bool:=
 match P.underlying t with
 |some (.pointer e)=>(nS P e).isSome
 |_=>au
def z7l {P:ab} {t:ac} (h:T6 P t=ar):∃e i,P.underlying t=ap (.pointer e)/\P.info? e=ap i:=by
 unfold T6 at h;split at h<;>first|(cases h;done)|skip
 rename_i e he;unfold nS at h;split at h<;>first|(cases h;done)|skip
 rename_i i hi;exact⟨e,i,he,hi⟩
def yFi {E:Ev} {u v:V} {x y:aa} (h:Zt u v=ar) (hx:VR E u x) (hy:VR E v y):∃a,x= .pointer (ap a)/\y= .pointer (ap a):=by
 unfold Zt at h;split at h<;>first|(cases h;done)|skip
 simp only[kx]at h;have h1:=iX h.1;have h2:=iX h.2;subst h1 h2;simp only[VR]at hx hy;obtain⟨b,oo,l,e1,rfl⟩:=hx;obtain⟨b',oo',l',e2,rfl⟩:=hy;rw[e1]at e2;cases e2;exact⟨_,rfl,rfl⟩
def zLg {P:ab} {t:ac} (h:T6 P t=ar) (a:am) (w:af):(Op.equal t (.pointer (ap a)) (.pointer (ap a))).run P w= .ok ar w:=by
 obtain⟨e,i,h1,h2⟩:=z7l h;rw[m4];generalize 9999=d;unfold ci;simp only[bind,pure,Cv.run_bind,Cv.run_underlying h1,Cv.run_sizeOf h2];split
 ·simp only[sameAddr,bind,pure,beq_self_eq_true,if_true];rfl
 ·simp only[beq_self_eq_true,if_true];rfl
def mpV (P:ab) (t:ac) (v:V) (y:ag):Bool:=
 match v,y with
 | .mp _,.const (.map aq)=>(match P.underlying t with
   |some (.map _ _)=>ar
   |_=>au)
 |_,_=>au
def yLs {P:ab} {t:ac} {v:V} {y:ag} (h:mpV P t v y=ar):(∃n,v= .mp n)/\y= .const (.map aq)/\∃a b,P.underlying t=ap (.map a b):=by
 unfold mpV at h;split at h<;>first|(cases h;done)|skip
 rename_i n;split at h<;>first|(cases h;done)|skip
 rename_i a b hu;exact⟨⟨n,rfl⟩,rfl,a,b,hu⟩
def D2 (P:ab) (o:ak) (ρ:xA) (K:V->Prop):Prop:=
 bif NP o.op then(bif TV ρ o.op.operands.toList then dV P o (TD ρ) (λx=>K (Cz x))else False)else False
def sq (P:ab) (o:ak) (ρ:xA) (K:V->Prop):Prop:=
 match o.op with
 | .move x=>K (lh ρ x)
 | .assign x=>K (lh ρ x)
 | .pick c a b=>match lh ρ c with
   | .d (.v (.bool t))=>dp t (K (lh ρ a)) (K (lh ρ b))
   |_=>False
 | .nilCheck x=>bif TS (lh ρ x)then K (lh ρ x)else D2 P o ρ K
 | .fieldAddr s x f=>iC (Wv P s f) λoff=>match lh ρ x with
   | .nm n o=>K (.nm n (o+off))
   | .el n sz i g=>K (.el n sz i (g+off))
   | .re sz eg i g=>K (.re sz eg i (g+off))
   |_=>False
 | .indexAddr t x i=>match lh ρ i with
   | .d (.v (.int _ i))=>match lh ρ x with
     | .d (.ro sz eg)=>iC (gE P t) λot=>bif bc sz ot then(0<=i/\i<eg.length)/\K (.re sz eg i.toNat 0)else False
     | .nm n o=>iC (bZ P t) λns=>bif be 32 ns.1 && bc ns.2 1 then(0<=i/\i<ns.1)/\K (.na n o i.toNat)else iC (J6 i ns.1) λj=>K (.nm n (o+j*ns.2))
     | .el n sz k g=>iC (bZ P t) λns=>iC (J6 i ns.1) λj=>K (.el n sz k (g+j*ns.2))
     | .re sz eg k g=>iC (bZ P t) λns=>iC (J6 i ns.1) λj=>K (.re sz eg k (g+j*ns.2))
     |_=>False
   |_=>False
 | .index t x i=>match lh ρ x with
   | .agg cs=>match lh ρ i with
     | .d (.v (.int _ i))=>iC (RX P t) λns=>iC (J6 i ns.1) λj=>iC (TY P ns.2.1 cs (j*ns.2.2)) K
     |_=>False
   |_=>D2 P o ρ K
 | .field t x f=>match lh ρ x with
   | .agg cs=>iC (WX P t f) λfo=>iC (TY P fo.1 cs fo.2) K
   |_=>False
 | .extract x i=>match lh ρ x with
   | .iW l=>iC l[i]? K
   |_=>False
 | .build t ps=>iC (Zf P t (Kb ρ ps.toList)) K
 | .makeFunc (.func f) a b=>K (.fn f (CJ ρ a.toList) (CJ ρ b.toList))
 | .makeInterface t x=>bif bK P t then False else K (.zh t (lh ρ x))
 | .typeAssert x _ a au=>bif bK P a then False else(match lh ρ x with
   | .zh t v=>bif bc t a then K v else False
   |_=>False)
 | .typeAssert x _ a ar=>bif bK P a then False else(match lh ρ x with
   | .zh t v=>bif bc t a then K (.iW [v,.d (.v (.bool ar))])else iC (nD P a) λz=>K (.iW [Cz z,.d (.v (.bool au))])
   | .d (.v .nilIface)=>iC (nD P a) λz=>K (.iW [Cz z,.d (.v (.bool au))])
   |_=>False)
 | .binOp op t x y _=>bif Zt (lh ρ x) (lh ρ y) && T6 P t then(match op with
    | .eql=>K (.d (.v (.bool ar)))
    | .neq=>K (.d (.v (.bool au)))
    |_=>False)else bif mpV P t (lh ρ x) y then(match op with
    | .eql=>K (.d (.v (.bool au)))
    | .neq=>K (.d (.v (.bool ar)))
    |_=>False)else bif TS (lh ρ x) && RA P t && NI y then(match op with
    | .eql=>K (.d (.v (.bool au)))
    | .neq=>K (.d (.v (.bool ar)))
    |_=>False)else bif RF y && G6 P t then(match lh ρ x with
     | .d (.ro _ eg)=>Zw op eg K
     |_=>D2 P o ρ K)else match Gl (lh ρ x)with
    |some (.agg xs)=>match Gl (lh ρ y)with
     |some (.agg ys)=>bif P.eqGuardType P.depth t then False else iC (Z1 P t xs.toList ys.toList) λb=>match op with
      | .eql=>K (.d (.v (.bool b)))
      | .neq=>K (.d (.v (.bool !b)))
      |_=>False
     |_=>False
    |_=>D2 P o ρ K
 | .call c=>match c.callee with
   | .builtin .len=>match CJ ρ c.args.toList with
     |[.d (.ro _ eg)]=>iC c.argTypes[0]? λt=>bif G6 P t then K (.d (.v (.int .i64 eg.length)))else False
     |_=>D2 P o ρ K
   | .builtin .min=>match CJ ρ c.args.toList with
     |[.d (.v (.int k x)),.d (.v (.int _ y))]=>K (.d (.v (.int k (min x y))))
     |[.d (.v (.int k x)),.d (.v (.int _ y)),.d (.v (.int _ z))]=>K (.d (.v (.int k (min (min x y) z))))
     |_=>D2 P o ρ K
   |_=>D2 P o ρ K
 | .slice t x lo hi aq=>match lh ρ x with
   | .d (.ro sz eg)=>iC (gE P t) λot=>bif bc sz ot then DS (Gg ρ lo) (Gg ρ hi) λl h=>Mv sz eg l h K else False
   |_=>D2 P o ρ K
 | .unOp _ _ _=>D2 P o ρ K
 | .convert _ _ _=>D2 P o ρ K
 |_=>False
def dB {b:Bool} {A B:Prop} (h:bif b then A else B):(b=ar/\A)\/(b=au/\B):=by
 cases b
 ·exact .inr ⟨rfl,h⟩
 ·exact .inl ⟨rfl,h⟩
def z8g {b:Bool} {A B:Prop} (h:dp b A B):(b=ar/\A)\/(b=au/\B):=by
 cases b
 ·exact .inr ⟨rfl,h⟩
 ·exact .inl ⟨rfl,h⟩
def ZD (P:ab) (E:Ev) (o:ak) (ρ:Env) (K:V->Prop):Prop:=∃v y,K v/\VR E v y/\Em P (ae (ev ρ) o) y
def vP {P:ab} {E:Ev} {ρS:xA} {ρ:Env} (he:ki E ρS ρ) {o:ak} {K:V->Prop} (h:D2 P o ρS K):ZD P E o ρ K:=by
 unfold D2 at h;obtain⟨hp,h⟩:=zK h;obtain⟨hl,h⟩:=zK h;obtain⟨y,hk,hf⟩:=gU h;exact⟨_,y,hk,NO E y,by rw[<- yFp hp (z8l he hl)];exact hf⟩
def VR.DE {E:Ev} {k:ao} {i:Int} {y:aa} (h:VR E (.d (.v (.int k i))) y):y= .int k i:=by
 simp only[VR,DR]at h;exact h.1
def jN {E:Ev} {x:aa} (h:x.nv=ar):VR E (.d (.v x)) x:=by
 simp only[VR,DR];exact⟨trivial,h⟩
def fB {E:Ev} {ρS:xA} {ρ:Env} (he:ki E ρS ρ) {x:Option ag} {r:Option Int} (h:Gg ρS x=ap r):CN ρ x=ap r:=by
 cases x with
 |none=>exact h
 |some x=>
  simp only[Gg]at h;split at h<;>first|(cases h;done)|skip
  rename_i k n hx;have:=he.ev x;rw[hx]at this;simp only[CN,this.DE];exact h
def DR.Fa {F:PH} {sz lo hi:Nat} {eg:List (List D)} {a:Option am} {c:Nat} (h:DR F (.ro sz eg) (.slice a eg.length c)) (h1:lo<=hi) (h2:hi<=eg.length):
 DR F (.ro sz ((eg.take hi).drop lo)) (.slice (if c=lo then a else a.map (·.add (lo*sz))) (hi-lo) (c-lo)):=by
 simp only[DR]at h ⊢;obtain⟨a',c',e,hc,hs,hm⟩:=h;cases e;have hlen:((eg.take hi).drop lo).length=hi-lo:=by rw[oV,oe];omega
 refine⟨_,c-lo,by rw[hlen],by rw[hlen];omega,λel oR=>hs el (MS (IW oR)),?_⟩;by_cases h0:lo=hi
 ·left;exact xu (by omega)
 ·right;rcases hm with hm|⟨b,o,l,T,fr,rfl,h4,h5⟩
  ·subst hm;simp at h2;omega
  ·refine⟨b,o+lo*sz,l,T,fr,?_,h4,?_⟩
   ·rw[ej (by omega)];simp[uD]
   ·obtain⟨xs,r,e,hx⟩:=oJ.1 h5;refine oJ.2 ⟨(xs.drop (lo*sz)).take ((hi-lo)*sz),(xs.drop (lo*sz)).drop ((hi-lo)*sz)++r,?_,?_⟩
    ·rw[<- jd,Bz,<- Cw,e,ED];rw[hx.length,jM hs];exact wj _ (by omega)
    ·have:=(hx.drop (lo*sz)).take ((hi-lo)*sz);rw[pE lo hs,rN (hi-lo) (λel oR=>hs el (IW oR)),List.take_drop]at this;rw[show lo+(hi-lo)=hi by omega]at this;exact this
def DR.Fw {F:PH} {sz:Nat} {eg:List (List D)} {y:aa} (h:DR F (.ro sz eg) y) {lo hi:Option Int} {K:V->Prop} (hk:Mv sz eg lo hi K):
 ∃a c v,y= .slice a eg.length c/\K v/\sy a eg.length c lo hi sz λp n c=>∀E:Ev,E.F=F->VR E v (.slice p n c):=by
 have h0:=h;simp only[DR]at h0;obtain⟨a,c,rfl,hc,_⟩:=h0;unfold Mv at hk;split at hk
 ·exact⟨a,c,_,rfl,hk,by simp only[sy];exact⟨hc,λE hE=>by subst hE;simpa only[VR]using h⟩⟩
 ·rename_i l;obtain⟨⟨h1,h2⟩,hk⟩:=hk;refine⟨a,c,_,rfl,hk,?_⟩;simp only[sy];refine⟨⟨h1,h2,hc⟩,λE hE=> ?_⟩;subst hE;have:=h.Fa (lo:=l.toNat) (hi:=eg.length) (by omega) (km _);rw[og (km _)]at this;simpa only[VR]using this
 ·rename_i u;obtain⟨⟨h1,h2⟩,hk⟩:=hk;refine⟨a,c,_,rfl,hk,?_⟩;simp only[sy];refine⟨⟨h1,by omega⟩,λE hE=> ?_⟩;subst hE;have:=h.Fa (lo:=0) (hi:=u.toNat) (by omega) (by omega);simp only[bg,sY,ite_self,Nat.sub_zero,Dn]at this;simpa only[VR]using this
 ·rename_i l u;obtain⟨⟨h1,h2,h3⟩,hk⟩:=hk;refine⟨a,c,_,rfl,hk,?_⟩;simp only[sy];refine⟨⟨h1,h2,by omega⟩,λE hE=> ?_⟩;subst hE;have:=h.Fa (lo:=l.toNat) (hi:=u.toNat) (by omega) (by omega);simpa only[VR]using this
def z0h {p:Option am} {n c:Nat} {lo hi:Option Int} {sz:Nat} {K K':Option am->Nat->Nat->Prop} (h:∀p n c,K p n c->K' p n c) (hk:sy p n c lo hi sz K):sy p n c lo hi sz K':=by
 unfold sy at*;cases lo<;>cases hi<;>exact⟨hk.1,h _ _ _ hk.2⟩
def zRt {P:ab} {t:ac} (h:RA P t=ar) (a:am):dM P t (.pointer (ap a))=ap au:=by
 obtain⟨e,he⟩:=zZt h;unfold dM;rw[he];rfl
def yFc {y:ag} (h:NI y=ar):y= .const (.pointer aq):=by
 unfold NI at h;split at h
 ·rfl
 ·cases h
def zQf {P:ab} {E:Ev} {ρ:Env} {o:ak} {op:BinOp} {t u:ac} {x y:ag} {eg:List (List D)} {K:V->Prop} {a:Option am} {n c:Nat} (ho:o.op= .binOp op t x y u) (hy:RF y=ar) (ht:G6 P t=ar)
 (hx:ev ρ x= .slice a n c) (ha:a=aq->eg=[]) (h:Zw op eg K):ZD P E o ρ K:=by
 have oW:y= .const (.slice aq 0 0):=by
  unfold RF at hy;split at hy
  ·rfl
  ·cases hy
 subst oW;obtain⟨e,he⟩:=tQ ht;have hn:dM P t (.slice a n c)=ap a.isNone:=by unfold dM;rw[he]
 have hk:=h a.isNone (λhb=>ha (by simpa using hb));split at hk<;>first|exact hk.elim|skip
 ·refine⟨_,.bool a.isNone,hk,jN rfl,?_⟩;have:=xM (P:=P) (neg:=au) (r:=a.isNone) (ρ:=ρ) ho (by rw[hx];trivial) trivial (λw=>by rw[hx];exact y9 trivial w) (λw=>by rw[hx];exact gS hn w);simpa using this
 ·refine⟨_,.bool (!a.isNone),hk,jN rfl,?_⟩;have:=xM (P:=P) (neg:=ar) (r:=a.isNone) (ρ:=ρ) ho (by rw[hx];trivial) trivial (λw=>by rw[hx];exact y9 trivial w) (λw=>by rw[hx];exact gS hn w);simpa using this
def z2d {P:ab} {E:Ev} {ρS:xA} {ρ:Env} (he:ki E ρS ρ) {o:ak} {K:V->Prop} (h:sq P o ρS K):ZD P E o ρ K:=by
 cases ho:o.op
 case move x=>simp only[sq,ho]at h;exact⟨_,_,h,he.ev x,λw=>by simp only[ae,ho];rfl⟩
 case assign x=>simp only[sq,ho]at h;exact⟨_,_,h,he.ev x,λw=>by simp only[ae,ho];rfl⟩
 case pick c a b=>
  simp only[sq,ho]at h;split at h<;>first|exact h.elim|skip
  rename_i t hc;have hv:=he.ev c;rw[hc]at hv;simp only[VR,DR]at hv;rcases z8g h with⟨rfl,h⟩|⟨rfl,h⟩
  ·exact⟨_,_,h,he.ev a,λw=>by simp only[ae,ho,hv.1,asBool,bind,pure,ce,cd];rfl⟩
  ·exact⟨_,_,h,he.ev b,λw=>by simp only[ae,ho,hv.1,asBool,bind,pure,ce,cd];rfl⟩
 case nilCheck x=>
  simp only[sq,ho]at h;rcases dB h with⟨hp,h⟩|⟨_,h⟩
  ·obtain⟨a,ha⟩:=z8s hp (he.ev x);exact⟨_,_,h,he.ev x,λw=>by simp only[ae,ho,ha];rfl⟩
  ·exact vP he h
 case fieldAddr s x f=>
  simp only[sq,ho]at h;obtain⟨off,hf,h⟩:=zM h;obtain⟨fs,fd,i,h1,h2,h3,h4,rfl⟩:=zSl hf;have hv:=he.ev x;have run:∀b oo,ev ρ x= .pointer (ap ⟨b,oo,aq⟩)->Em P (ae (ev ρ) o) (.pointer (ap ⟨b,oo+fd.offset,aq⟩)):=by
   intro b oo hx;simp only[ae,ho,hx];refine yC λw=> ?_
   simp only[Instr.fieldAt,Instr.sureAddr,fieldPlace,bind,pure,run_bind,ce,cd,Cv.run_underlying h1,h2,run_sizeOf h3,ej h4,uD]
  split at h<;>first|exact h.elim|skip
  ·rename_i n o' hx;rw[hx]at hv;simp only[VR]at hv;obtain⟨b,oo,l,e1,e2⟩:=hv;exact⟨_,_,h,by simp only[VR];exact⟨b,oo,l,e1,rfl⟩,by have:=run _ _ e2;rw[Dm]at this;exact this⟩
  ·rename_i n sz i g hx;rw[hx]at hv;simp only[VR]at hv;obtain⟨b,oo,m,c,l,e1,e2⟩:=hv;exact⟨_,_,h,by simp only[VR];exact⟨b,oo,m,c,l,e1,rfl⟩,by have:=run _ _ e2;rw[Dm _ g]at this;exact this⟩
  ·rename_i sz eg i g hx;rw[hx]at hv;simp only[VR]at hv;obtain⟨e0,e1,b,oo,l,T,fr,e2,e3,e4⟩:=hv;exact⟨_,_,h,by simp only[VR];exact⟨e0,e1,b,oo,l,T,fr,rfl,e3,e4⟩,by have:=run _ _ e2;rw[Dm _ g]at this;exact this⟩
 case indexAddr t x i=>
  simp only[sq,ho]at h;split at h<;>first|exact h.elim|skip
  rename_i k i' hi;have AH:=he.ev i;rw[hi]at AH;have AH:=AH.DE;have hv:=he.ev x;have arr:∀{b oo:Nat} {ns:Nat×Nat} {j:Nat},bZ P t=ap ns->J6 i' ns.1=ap j->ev ρ x= .pointer (ap ⟨b,oo,aq⟩)->Em P (ae (ev ρ) o) (.pointer (ap ⟨b,oo+j*ns.2,aq⟩)):=by
   intro b oo ns j oT hj hx;obtain⟨rfl,gr⟩:=zOr hj;simp only[ae,ho,hx,AH];refine yC λw=> ?_
   rw[dG oT ⟨by omega,by omega⟩,uD];simp
  split at h<;>first|exact h.elim|skip
  ·rename_i sz eg hx;obtain⟨ot,hs,h⟩:=zM h;obtain⟨hb,⟨h0,h1⟩,hk⟩:=zK h;have:=iX hb;subst this;rw[hx]at hv;simp only[VR,DR]at hv;obtain⟨a,c,e1,e2,e3,e4⟩:=hv;rcases e4 with e4|⟨b,oo,l,T,fr,rfl,e5,e6⟩
   ·subst e4;simp at h1;omega
   refine⟨_,.pointer (ap ⟨b,oo+i'.toNat*sz,aq⟩),hk,?_,?_⟩
   ·simp only[VR];exact⟨by omega,e3,b,oo,l,T,fr,rfl,e5,e6⟩
   ·simp only[ae,ho,e1,AH];refine yC λw=> ?_
    rw[jX hs ⟨h0,by omega⟩,uD]
  ·rename_i n o' hx;obtain⟨ns,hs,h⟩:=zM h;rcases dB h with⟨hb,⟨h0,h1⟩,h⟩|⟨_,h⟩
   ·simp only[kx]at hb;have mr:=iX hb.2;rw[hx]at hv;simp only[VR]at hv;obtain⟨b,oo,l,e1,e2⟩:=hv;refine⟨_,.pointer (ap ⟨b,oo+(o'+i'.toNat),aq⟩),h,by simp only[VR];exact⟨b,oo,l,e1,rfl⟩,?_⟩;simp only[ae,ho,e2,AH];refine yC λw=> ?_
    rw[dG hs ⟨h0,h1⟩,uD,mr,Nat.mul_one,Dm]
   obtain⟨j,hj,h⟩:=zM h;rw[hx]at hv;simp only[VR]at hv;obtain⟨b,oo,l,e1,e2⟩:=hv;exact⟨_,_,h,by simp only[VR];exact⟨b,oo,l,e1,rfl⟩,by have:=arr hs hj e2;rw[Dm]at this;exact this⟩
  ·rename_i n sz i g hx;obtain⟨ns,hs,h⟩:=zM h;obtain⟨j,hj,h⟩:=zM h;rw[hx]at hv;simp only[VR]at hv;obtain⟨b,oo,m,c,l,e1,e2⟩:=hv;exact⟨_,_,h,by simp only[VR];exact⟨b,oo,m,c,l,e1,rfl⟩,by have:=arr hs hj e2;rw[Dm _ g]at this;exact this⟩
  ·rename_i sz eg i g hx;obtain⟨ns,hs,h⟩:=zM h;obtain⟨j,hj,h⟩:=zM h;rw[hx]at hv;simp only[VR]at hv;obtain⟨e0,e1,b,oo,l,T,fr,e2,e3,e4⟩:=hv;exact⟨_,_,h,by simp only[VR];exact⟨e0,e1,b,oo,l,T,fr,rfl,e3,e4⟩,by have:=arr hs hj e2;rw[Dm _ g]at this;exact this⟩
 case index t x i=>
  simp only[sq,ho]at h;split at h
  ·rename_i cs hx;split at h<;>first|exact h.elim|skip
   rename_i k i' hi;obtain⟨⟨n,e,sz⟩,hs,h⟩:=zM h;obtain⟨j,hj,h⟩:=zM h;obtain⟨v,hp,hk⟩:=zM h;have AH:=he.ev i;rw[hi]at AH;have AH:=AH.DE;have hv:=he.ev x;rw[hx]at hv;simp only[VR]at hv;obtain⟨ys,e1,e2⟩:=hv;obtain⟨y,hy,hr⟩:=zLq e2 hp;obtain⟨rfl,gr⟩:=zOr hj;obtain⟨inf,q1,q2,q3⟩:=zFz hs;refine⟨v,y,hk,hy,?_⟩;simp only[ae,ho,e1,AH];refine yC λw=> ?_
   have hb:(0:Int)<=(j:Int)/\(j:Int)<n:=⟨by omega,by omega⟩
   simp only[Instr.index,asIntOf,bind,pure,run_bind,ce,cd,Cv.run_underlying q1,fc hb,run_sizeOf q2,q3];exact hr w
  ·exact vP he h
 case field t x f=>
  simp only[sq,ho]at h;split at h<;>first|exact h.elim|skip
  rename_i cs hx;obtain⟨⟨ft,off⟩,hf,h⟩:=zM h;obtain⟨v,hp,hk⟩:=zM h;have hv:=he.ev x;rw[hx]at hv;simp only[VR]at hv;obtain⟨ys,e1,e2⟩:=hv;obtain⟨y,hy,hr⟩:=zLq e2 hp;obtain⟨fs,fd,h1,h2,rfl,rfl⟩:=zOl hf;refine⟨v,y,hk,hy,?_⟩;simp only[ae,ho,e1];refine yC λw=> ?_
  simp only[Instr.field,asAgg,bind,pure,run_bind,ce,cd,Cv.run_underlying h1,h2];exact hr w
 case extract x i=>
  simp only[sq,ho]at h;split at h<;>first|exact h.elim|skip
  rename_i l hx;obtain⟨v,hl,h⟩:=zM h;have hv:=he.ev x;rw[hx]at hv;simp only[VR]at hv;obtain⟨ys,e1,e2⟩:=hv;obtain⟨y,hy,hr⟩:=e2.get hl;refine⟨v,y,h,hr,?_⟩;simp only[ae,ho,e1];refine yC λw=> ?_
  have:ys.toArray[i]? =ap y:=by simp[hy]
  simp only[Instr.extract,this];rfl
 case build t ps=>
  simp only[sq,ho]at h;obtain⟨v,hb,h⟩:=zM h;obtain⟨y,hy,hr⟩:=zXh (Ta he ps.toList) hb;refine⟨v,y,h,hy,?_⟩;simp only[ae,ho];refine yC λw=> ?_
  have:(ps.map λ(i,x)=>(i,ev ρ x))=(ps.toList.map λp=>(p.1,ev ρ p.2)).toArray:=by
   apply cu;simp
  rw[this];exact hr w
 case makeFunc fn a b=>
  cases fn<;>simp only[sq,ho]at h
  rename_i f;obtain⟨as,e1,e2⟩:=b6 he a;obtain⟨bs,e3,e4⟩:=b6 he b;refine⟨_,.func (.func f) as.toArray bs.toArray,h,by simp only[VR];exact⟨as,bs,rfl,e2,e4⟩,?_⟩;simp only[ae,ho,e1,e3];exact yC λw=>rfl
 case makeInterface t x=>
  simp only[sq,ho]at h;obtain⟨hb,h⟩:bK P t=au/\K (.zh t (lh ρS x)):=by
   revert h;cases bK P t<;>intro h
   ·exact⟨rfl,h⟩
   ·exact h.elim
  refine⟨_,.iface t (ev ρ x),h,by simp only[VR];exact⟨_,rfl,he.ev x⟩,?_⟩;simp only[ae,ho];refine yC λw=> ?_
  unfold bK at hb;cases hd:P.underlying t with
  |none=>rw[hd]at hb;cases hb
  |some d=>
   rw[hd]at hb;unfold Instr.makeInterface;simp only[bind,run_bind,Cv.run_underlying hd];cases d<;>first|rfl|cases hb
 case typeAssert x xt a ok=>
  cases ok with
  |true=>
   simp only[sq,ho]at h;obtain⟨hb,h⟩:bK P a=au/\(match lh ρS x with
    | .zh t v=>bif bc t a then K (.iW [v,.d (.v (.bool ar))])else iC (nD P a) λz=>K (.iW [Cz z,.d (.v (.bool au))])
    | .d (.v .nilIface)=>iC (nD P a) λz=>K (.iW [Cz z,.d (.v (.bool au))])
    |_=>False):=by
    revert h;cases bK P a<;>intro h
    ·exact⟨rfl,h⟩
    ·exact h.elim
   have je:∃d,P.underlying a=ap d/\∀ms,d≠.interface ms:=by
    unfold bK at hb;split at hb<;>first|(cases hb;done)|skip
    rename_i Lf Le;cases hu:P.underlying a with
    |none=>exact absurd hu Le
    |some d=>exact⟨d,rfl,λms e=>Lf ms (by rw[hu,e])⟩
   obtain⟨d,hu,hd⟩:=je;have JQ:∀z,nD P a=ap z->VR E (.iW [Cz z,.d (.v (.bool au))]) (.tuple #[z,.bool au]):=λz hz=>by
    simp only[VR,gp,DR];exact⟨[z,.bool au],rfl,_,_,rfl,NO E z,_,_,rfl,⟨rfl,rfl⟩,rfl⟩
   split at h<;>first|exact h.elim|skip
   ·rename_i t v hx;have hv:=he.ev x;rw[hx]at hv;simp only[VR]at hv;obtain⟨z,e1,e2⟩:=hv;rcases dB h with⟨ht,hk⟩|⟨ht,hk⟩
    ·have:=iX ht;subst this;refine⟨_,.tuple #[z,.bool ar],hk,?_,?_⟩
     ·simp only[VR,gp,DR];exact⟨[z,.bool ar],rfl,_,_,rfl,e2,_,_,rfl,⟨rfl,rfl⟩,rfl⟩
     ·simp only[ae,ho,e1];refine yC λw=> ?_
      simp only[bv,bind,run_bind,Cv.run_underlying hu];cases d<;>first|rfl|exact absurd rfl (hd _)|(simp only[if_true];rfl)
    ·obtain⟨z0,hz,hk⟩:=zM hk;have hta:¬t=a:=λe=>by subst e;rw[Nat.beq_refl]at ht;cases ht
     refine⟨_,.tuple #[z0,.bool au],hk,JQ z0 hz,?_⟩;simp only[ae,ho,e1];refine yC λw=> ?_
     simp only[bv,bind,run_bind,Cv.run_underlying hu];cases d<;>first|exact absurd rfl (hd _)|(simp only[ej hta,if_true,bind,run_bind,Cv.lq (cI hz) w];rfl)
   ·rename_i hx;have hv:=he.ev x;rw[hx]at hv;simp only[VR,DR]at hv;obtain⟨z0,hz,hk⟩:=zM h;refine⟨_,.tuple #[z0,.bool au],hk,JQ z0 hz,?_⟩;simp only[ae,ho,hv.1];refine yC λw=> ?_
    simp only[bv,bind,run_bind,Cv.run_underlying hu];cases d<;>first|exact absurd rfl (hd _)|(simp only[if_true,bind,run_bind,Cv.lq (cI hz) w];rfl)
  |false=>
   simp only[sq,ho]at h;obtain⟨hb,h⟩:bK P a=au/\(match lh ρS x with
    | .zh t v=>bif bc t a then K v else False
    |_=>False):=by
    revert h;cases bK P a<;>intro h
    ·exact⟨rfl,h⟩
    ·exact h.elim
   split at h<;>first|exact h.elim|skip
   rename_i t v hx;obtain⟨ht,hk⟩:=zK h;have:=iX ht;subst this;have hv:=he.ev x;rw[hx]at hv;simp only[VR]at hv;obtain⟨z,e1,e2⟩:=hv;refine⟨v,z,hk,e2,?_⟩;simp only[ae,ho,e1];refine yC λw=> ?_
   unfold bK at hb;split at hb<;>first|(cases hb;done)|skip
   rename_i Lf Le;cases hu:P.underlying t with
   |none=>exact absurd hu Le
   |some d=>
    simp only[bv,bind,run_bind,Cv.run_underlying hu];cases d<;>first|rfl|exact absurd hu (Lf _)|(simp only[if_true];rfl)
 case binOp op t x y u=>
  simp only[sq,ho]at h;rcases dB h with⟨hp,hk⟩|⟨_,h⟩
  ·simp only[kx]at hp;obtain⟨a,hx,hy⟩:=yFi hp.1 (he.ev x) (he.ev y);clear h;split at hk<;>first|exact hk.elim|skip
   ·refine⟨_,.bool ar,hk,jN rfl,?_⟩;have:=xM (P:=P) (neg:=au) (r:=ar) (ρ:=ρ) ho (by rw[hx];trivial) (by rw[hy];trivial) (λw=>by rw[hx,hy];exact y9 trivial w) (λw=>by rw[hx,hy];exact zLg hp.2 a w);simpa using this
   ·refine⟨_,.bool au,hk,jN rfl,?_⟩;have:=xM (P:=P) (neg:=ar) (r:=ar) (ρ:=ρ) ho (by rw[hx];trivial) (by rw[hy];trivial) (λw=>by rw[hx,hy];exact y9 trivial w) (λw=>by rw[hx,hy];exact zLg hp.2 a w);simpa using this
  rcases dB h with⟨hp,hk⟩|⟨_,h⟩
  ·obtain⟨⟨n,hx⟩,rfl,ka,kb,hu⟩:=yLs hp;have hv:=he.ev x;rw[hx]at hv;simp only[VR]at hv;obtain⟨b,l,_,ha⟩:=hv;have hr:dM P t (.map (ap b))=ap au:=by simp[dM,hu]
   clear h;split at hk<;>first|exact hk.elim|skip
   ·refine⟨_,.bool au,hk,jN rfl,?_⟩;have:=xM (P:=P) (neg:=au) (r:=au) (ρ:=ρ) ho (by rw[ha];trivial) trivial (λw=>by rw[ha];exact y9 trivial w) (λw=>by rw[ha];exact cR hr w);simpa using this
   ·refine⟨_,.bool ar,hk,jN rfl,?_⟩;have:=xM (P:=P) (neg:=ar) (r:=au) (ρ:=ρ) ho (by rw[ha];trivial) trivial (λw=>by rw[ha];exact y9 trivial w) (λw=>by rw[ha];exact cR hr w);simpa using this
  rcases dB h with⟨hp,hk⟩|⟨_,h⟩
  ·simp only[kx]at hp;obtain⟨⟨UD,I8⟩,hp3⟩:=hp;obtain⟨a,ha⟩:=z8s UD (he.ev x);have hy:=yFc hp3;subst hy;clear h;split at hk<;>first|exact hk.elim|skip
   ·refine⟨_,.bool au,hk,jN rfl,?_⟩;have:=xM (P:=P) (neg:=au) (r:=au) (ρ:=ρ) ho (by rw[ha];trivial) trivial (λw=>by rw[ha];exact y9 trivial w) (λw=>by rw[ha];exact cS (zRt I8 a) w);simpa using this
   ·refine⟨_,.bool ar,hk,jN rfl,?_⟩;have:=xM (P:=P) (neg:=ar) (r:=au) (ρ:=ρ) ho (by rw[ha];trivial) trivial (λw=>by rw[ha];exact y9 trivial w) (λw=>by rw[ha];exact cS (zRt I8 a) w);simpa using this
  ·rcases dB h with⟨hp,hk⟩|⟨_,h⟩
   ·simp only[kx]at hp;clear h;split at hk
    ·rename_i sz eg hx;have hv:=he.ev x;rw[hx]at hv;simp only[VR,DR]at hv;obtain⟨a,c,e1,_,_,e4⟩:=hv;exact zQf ho hp.1 hp.2 e1 (λha=>by
      rcases e4 with e4|⟨_,_,_,_,_,e5,_⟩
      ·exact e4
      ·rw[ha]at e5;cases e5) hk
    ·exact vP he hk
   ·split at h
    ·rename_i xs vh;split at h<;>first|exact h.elim|skip
     rename_i ys GB;rcases dB h with⟨_,hk⟩|⟨hgt,hk⟩
     ·exact hk.elim
     clear h;obtain⟨b,hb,hk⟩:=zM hk;have ex:=tU vh (he.ev x);have ey:=tU GB (he.ev y);have jg:=λw=>yDs (P:=P) hb w
     simp only[OD]at jg;have hg:∀(op:BinOp) w,(eqGuard op t x y (.agg xs) (.agg ys)).run P w= .ok () w:=by
      intro op w;unfold eqGuard;cases op<;>first|rfl|(simp[bind,pure,run_bind,program,cd,ce,hgt])
     split at hk<;>first|exact hk.elim|skip
     ·refine⟨_,.bool b,hk,jN rfl,?_⟩;have:=xM (P:=P) (neg:=au) (r:=b) (ρ:=ρ) ho (by rw[ex];trivial) (by rw[ey];trivial) (λw=>by rw[ex,ey];exact hg _ w) (λw=>by rw[ex,ey];exact jg w);simpa using this
     ·refine⟨_,.bool (!b),hk,jN rfl,?_⟩;have:=xM (P:=P) (neg:=ar) (r:=b) (ρ:=ρ) ho (by rw[ex];trivial) (by rw[ey];trivial) (λw=>by rw[ex,ey];exact hg _ w) (λw=>by rw[ex,ey];exact jg w);simpa using this
    ·exact vP he h
 case call c=>
  simp only[sq,ho]at h;split at h
  ·rename_i hc;split at h
   ·rename_i sz eg nh;obtain⟨t,ht,h⟩:=zM h;obtain⟨hs,h⟩:=zK h;obtain⟨ys,e1,e2⟩:=b6 he c.args;rw[nh]at e2;simp only[gp,VR,DR]at e2;obtain⟨y,_,rfl,⟨a,k,rfl,_⟩,rfl⟩:=e2;refine⟨_,.int .i64 eg.length,h,jN rfl,?_⟩;rw[jQ ho hc,e1];obtain⟨e,KK⟩:=tQ hs;refine yC λw=> ?_
    simp only[cr,ht,AF,Cx,bind,run_bind,Cv.run_underlying KK];rfl
   ·exact vP he h
  ·rename_i hc;split at h
   ·rename_i kk x k2 y nh;obtain⟨ys,e1,e2⟩:=b6 he c.args;rw[nh]at e2;simp only[gp,VR,DR]at e2;obtain⟨_,_,rfl,⟨rfl,_⟩,_,_,rfl,⟨rfl,_⟩,rfl⟩:=e2;refine⟨_,.int kk (min x y),h,jN rfl,?_⟩;rw[jQ ho hc,e1];refine yC λw=> ?_
    rw[show min x y=if y<x then y else x by rw[Int.min_def];split<;>split<;>omega];apply run_min_int2
   ·rename_i kk x k2 y k3 z nh;obtain⟨ys,e1,e2⟩:=b6 he c.args;rw[nh]at e2;simp only[gp,VR,DR]at e2;obtain⟨_,_,rfl,⟨rfl,_⟩,_,_,rfl,⟨rfl,_⟩,_,_,rfl,⟨rfl,_⟩,rfl⟩:=e2;refine⟨_,.int kk (min (min x y) z),h,jN rfl,?_⟩;rw[jQ ho hc,e1];refine yC λw=> ?_
    rw[show min (min x y) z=if z<(if y<x then y else x)then z else(if y<x then y else x)by rw[Int.min_def,Int.min_def];repeat' split<;>omega];apply run_min_int3
   ·exact vP he h
  ·exact vP he h
 case slice t x lo hi mx=>
  cases mx with
  |some m=>simp only[sq,ho]at h
  |none=>
   simp only[sq,ho]at h;split at h
   ·rename_i sz eg hx;obtain⟨ot,hs,h⟩:=zM h;obtain⟨hb,hh⟩:=zK h;have:=iX hb;subst this;obtain⟨l,u,h1,h2,hh⟩:=rC hh;have hv:=he.ev x;rw[hx]at hv;simp only[VR]at hv;obtain⟨a,c,v,e1,hk,yd⟩:=hv.Fw hh;have hp:dV P o ρ (λy=>VR E v y):=by
     simp only[dV,ho,e1,hs,fB he h1,fB he h2,DS];exact z0h (λp n c hh=>hh E rfl) yd
    obtain⟨y,hy,hf⟩:=gU hp;exact⟨v,y,hk,hy,hf⟩
   ·exact vP he h
 case unOp op t x=>simp only[sq,ho]at h;exact vP he h
 case convert s d x=>simp only[sq,ho]at h;exact vP he h
 all_goals(simp only[sq,ho]at h)
end Sx
namespace Cv
open Go Go.RowKit
def yEp {φ:HD} {b:Nat} {xs:List V} {t:ac} {CB:Option Nat} {O:Obj} (h:coT φ b (.cells xs t CB) O):∃r,O= .cells (GQ φ xs++r).toArray t/\(∀sz,CB=ap sz->xs.length+r.length=(φ b).2*sz)/\(CB=aq->r=[]):=by
 cases CB with
 |none=>
  have h':O= .cells (GQ φ xs).toArray t:=h;exact⟨[],by rw[h',oL],by simp,λ_=>rfl⟩
 |some sz=>
  obtain⟨r,h1,h2⟩:=h;exact⟨r,h1,λs hs=>(by cases hs;exact h2),by simp⟩
def Rel.cells {φ:HD} {s:St} {w:af} (R:Rel φ s w) {b:Nat} {xs:List V} {t:ac} {CB:Option Nat} (h:s.get b=ap (.cells xs t CB)):
 ∃r,w.heap[(φ b).1]? =ap (.cells (GQ φ xs++r).toArray t)/\(∀sz,CB=ap sz->xs.length+r.length=(φ b).2*sz)/\(CB=aq->r=[]):=by
 obtain⟨O,h1,h2⟩:=R.obj b _ h;obtain⟨r,rfl,h3,h4⟩:=yEp h2;exact⟨r,h1,h3,h4⟩
def hU {P:ab} {t k e:ac} (h:Gf P t=ap (k,e)):P.underlying t=ap (.map k e):=by
 unfold Gf at h;split at h
 ·simp only[az,cq]at h;obtain⟨rfl,rfl⟩:=h;assumption
 ·cases h
def qJ {P:ab} {w:af} {r:Nat} {O:Obj} (h:w.heap[r]? =ap O) (hO:match O with| .cells _ _ _=>False|_=>True):(getObj r).run P w= .ok O w:=by
 simp only[getObj,cd,h];cases O<;>first|exact hO.elim|rfl
def yDc {P:ab} {t:ac} (h:Ot P t=ar):∃e,P.underlying t=ap (.slice e)/\P.underlying e=ap (.int .u8):=by
 unfold Ot at h;split at h<;>first|(cases h;done)|skip
 rename_i e he;split at h<;>first|(cases h;done)|skip
 exact⟨e,he,by assumption⟩
def zFn {P:ab} (w:af) {F:aa->ByteArray->Sem (ForInStep ByteArray)} (hF:∀(n:Nat) (s:ByteArray),F (.int .u8 (n:Int)) s= .pure (.yield (s.push (UInt8.ofNat n)))):∀(l:List Nat) (acc:ByteArray),
 ((forIn (l.map λ(n:Nat)=>Value.int .u8 (n:Int)) acc F):Sem ByteArray).run P w= .ok (acc++bs l) w
 |[],acc=>by
  have:acc++bs []=acc:=by apply ByteArray.ext;simp[bs]
  rw[this];rfl
 |n::l,acc=>by
  have ih:=zFn (P:=P) w hF l (acc.push (UInt8.ofNat n));simp only[jo,List.forIn_cons,bind,hF,ce];rw[ih];congr 1;apply ByteArray.ext;simp[bs,Nat.toUInt8]
end Cv
namespace Sx
open Go Go.RowKit Cv
def Rel.focus {k:Ko} {L:List HP} {E:Ev} {s:St} {w:af} (R:Rel k L E s w) {n:Nat} {o:ff} (h:s.get n=ap o):
 Hp k w (gu E (n,o)::((vH n s.rows).map (gu E)++fz E.F::L)):=by
 refine R.hp.perm ?_;have:=((vQ h).1.map (gu E)).append_right (fz E.F::L);simpa using this
def Rel.ni {k:Ko} {L:List HP} {E:Ev} {s:St} {w w':af} (R:Rel k L E s w) {n:Nat} {o:ff} (h:s.get n=ap o) {o':ff}
 (H:Hp k w' (gu E (n,o')::((vH n s.rows).map (gu E)++fz E.F::L))):Rel k L E (s.set n o') w':=by
 refine⟨R.nx,H.perm ?_⟩;have:=(((vQ h).2 o').map (gu E)).append_right (fz E.F::L);simpa[St.set]using this.symm
def Rel.frozen {k:Ko} {L:List HP} {E:Ev} {s:St} {w:af} (R:Rel k L E s w):∀b o,E.F b=ap o->w.heap[b]? =ap o:=by
 have H:Hp k w (fz E.F::(s.rows.map (gu E)++L)):=R.hp.perm mg;obtain⟨h,⟨rfl,_⟩,hs⟩:=H.sat;exact hs
def Rel.row {k:Ko} {L:List HP} {E:Ev} {s:St} {w:af} (R:Rel k L E s w) {n:Nat} {o:ff} (h:s.get n=ap o) (hg:o≠.gone):
 ∃hd x,E.fv[n]? =ap hd/\fi E.F o E.fv hd x/\Sub x w:=by
 obtain⟨x,hx,hs⟩:=(R.focus h).sat;rcases hx with⟨e,_⟩|⟨hd,h1,h2⟩
 ·exact absurd e hg
 ·exact⟨hd,x,h1,h2,hs⟩
def Rel.cells {k:Ko} {L:List HP} {E:Ev} {s:St} {w:af} (R:Rel k L E s w) {n:Nat} {vs:List V} {t:ac} (h:s.get n=ap (.cells vs t)):
 ∃b l sub,E.fv[n]? =ap (.pointer (ap ⟨b,0,aq⟩),sub)/\gp E vs l/\w.heap[b]? =ap (.cells l.toArray t):=by
 obtain⟨⟨hv,sub⟩,x,h1,h2,h3⟩:=R.row h (by simp);simp only[fi]at h2;obtain⟨b,l,rfl,h4,rfl⟩:=h2;exact⟨b,l,sub,h1,h4,h3 b _ (by simp[one])⟩
def Rel.vec {k:Ko} {L:List HP} {E:Ev} {s:St} {w:af} (R:Rel k L E s w) {n:Nat} {ds:List D} {t:ac} (h:s.get n=ap (.vec ds t)):
 ∃b l sub,E.fv[n]? =ap (.pointer (ap ⟨b,0,aq⟩),sub)/\iz E.F ds l/\w.heap[b]? =ap (.cells l.toArray t):=by
 obtain⟨⟨hv,sub⟩,x,h1,h2,h3⟩:=R.row h (by simp);simp only[fi]at h2;obtain⟨b,l,rfl,h4,rfl⟩:=h2;exact⟨b,l,sub,h1,h4,h3 b _ (by simp[one])⟩
def eB (s:St):V->Option (Nat×List (List D))
 | .d (.ro sz eg)=>ap (sz,eg)
 | .own n=>match s.get n with
   |some (.own _ sz eg)=>ap (sz,eg)
   |some (.ja sz eg)=>ap (sz,eg)
   |some (.Gy _ eg)=>ap (1,eg)
   |_=>aq
 |_=>aq
def Xt {k:Ko} {L:List HP} {E:Ev} {s:St} {w:af} (R:Rel k L E s w) {sz:Nat} {eg:List (List D)} {y:aa} (h:DR E.F (.ro sz eg) y):
 ∃a c xs,y= .slice a eg.length c/\eg.length<=c/\iz E.F eg.flatten xs/\(∀el∈eg,el.length=sz)/\Sat w (EE sz a eg.length c xs):=by
 simp only[DR]at h;obtain⟨a,c,rfl,h1,h2,h3⟩:=h;rcases h3 with rfl|⟨b,o,l,T,fr,rfl,h4,h5⟩
 ·exact⟨a,c,[],rfl,h1,by simp[iz],h2,pe,.inl ⟨rfl,rfl,rfl⟩,Sub.pe w⟩
 ·obtain⟨xs,r,e,hx⟩:=oJ.1 h5;have hl:xs.length=eg.length*sz:=by rw[hx.length,jM h2]
  refine⟨_,c,xs,rfl,h1,hx,h2,one b (.cells l.toArray T fr),.inr ⟨b,o,l,T,fr,rfl,rfl,?_,hl,h1⟩,?_⟩
  ·rw[e,xq (by omega),og (by omega)]
  ·intro b' o' e';simp only[one]at e';split at e'
   ·rename_i hb;subst hb;cases e';exact R.frozen _ _ h4
   ·cases e'
def aK {k:Ko} {L:List HP} {E:Ev} {s:St} {w:af} (R:Rel k L E s w) {v:V} {y:aa} (hv:VR E v y) {sz:Nat} {eg:List (List D)} (h:eB s v=ap (sz,eg)):
 ∃a c xs,y= .slice a eg.length c/\eg.length<=c/\iz E.F eg.flatten xs/\(∀el∈eg,el.length=sz)/\Sat w (EE sz a eg.length c xs):=by
 unfold eB at h;split at h
 ·simp only[az,cq]at h;obtain⟨rfl,rfl⟩:=h;simp only[VR]at hv;exact Xt R hv
 ·rename_i n;simp only[VR]at hv;obtain⟨sub,h1,h2⟩:=hv;split at h<;>first|(cases h;done)|skip
  ·rename_i t ot kq hg;simp only[az,cq]at h;obtain⟨rfl,rfl⟩:=h;obtain⟨hd,x,q1,q2,q3⟩:=R.row hg (by simp);rw[h1]at q1;cases q1;simp only[fi]at q2;obtain⟨a,c,xs,rfl,q4,q5,q6⟩:=q2;exact⟨a,c,xs,rfl,(R9 q6).2,q4,q5,x,mQ q6,q3⟩
  ·rename_i ot kq hg;simp only[az,cq]at h;obtain⟨rfl,rfl⟩:=h;obtain⟨hd,x,q1,q2,q3⟩:=R.row hg (by simp);rw[h1]at q1;cases q1;simp only[fi]at q2;exact Xt R q2.2
  ·rename_i t kq hg;simp only[az,cq]at h;obtain⟨rfl,rfl⟩:=h;obtain⟨hd,x,q1,q2,q3⟩:=R.row hg (by simp);rw[h1]at q1;cases q1;simp only[fi]at q2;obtain⟨b,c,xs,r,rfl,q4,q5,q6,q7⟩:=q2;have hl:xs.length=kq.length*1:=by rw[q4.length,jM q5]
   exact⟨_,c,xs,rfl,q6,q4,q5,x,.inr ⟨b,0,xs++r,t,_,rfl,q7,by rw[Dn,xq (by omega),og (by omega)],hl,q6⟩,q3⟩
 ·cases h
def zD (eg:List (List D)) (i f n:Nat):Option (List D):=
 match eg[i]? with
 |some el=>bif be (f+n) el.length then ap ((el.drop f).take n)else aq
 |none=>aq
def Ug:aa->(D->Prop)->Prop
 | .int k _,K=>∃n:Int,K (.v (.int k n))
 | .bool _,K=>∃b:Bool,K (.v (.bool b))
 | .string _,K=>∃s:ByteArray,K (.v (.string s))
 | .slice _ _ _,K=>∃(sz:Nat) (eg:List (List D)),K (.ro sz eg)
 |_,K=>∃d:D,K d
def shL:List aa->(List D->Prop)->Prop
 |[],K=>K []
 |z::zs,K=>Ug z λd=>shL zs λds=>K (d::ds)
def N0 (P:ab):Nat->ac->List ac
 |0,t=>[t]
 |f+1,t=>match P.underlying t with
  |some (.struct fs)=>(fs.toList.map λfd=>N0 P f fd.type).flatten
  |some (.array n e)=>(aw n (N0 P f e)).flatten
  |_=>[t]
def Ku (P:ab):List ac->List aa->(List D->Prop)->Prop
 |t::ts,z::zs,K=>match gE P t with
  |some sz=>∃eg:List (List D),Ku P ts zs λds=>K (.ro sz eg::ds)
  |none=>Ug z λd=>Ku P ts zs λds=>K (d::ds)
 |_,zs,K=>shL zs K
def Hi (P:ab) (t:ac) (K:List D->Prop):Prop:=
 match nD P t with
 |some z=>Ku P (N0 P 6 t) z.cells.toList K
 |none=>False
def z9v {z:aa} {K:D->Prop} (h:Ug z K):∃d,K d:=by
 cases z<;>simp only[Ug]at h<;>first|(obtain⟨n,h⟩:=h;exact⟨_,h⟩)|(obtain⟨a,n,h⟩:=h;exact⟨_,h⟩)
def Vy:∀{zs:List aa} {K:List D->Prop},shL zs K->∃ds,K ds
 |[],_,h=>⟨_,h⟩
 |_::_,_,h=>let⟨_,h1⟩:=z9v h;let⟨_,h2⟩:=Vy h1;⟨_,h2⟩
def Wq {P:ab}:∀{ts:List ac} {zs:List aa} {K:List D->Prop},Ku P ts zs K->∃ds,K ds
 |t::ts,z::zs,K,h=>by
  unfold Ku at h;split at h
  ·obtain⟨eg,h⟩:=h;obtain⟨ds,h⟩:=Wq h;exact⟨_,h⟩
  ·obtain⟨d,h⟩:=z9v h;obtain⟨ds,h⟩:=Wq h;exact⟨_,h⟩
 |[],zs,K,h=>by unfold Ku at h;exact Vy h
 |t::ts,[],K,h=>by unfold Ku at h;exact Vy h
def bX {P:ab} {t:ac} {K:List D->Prop} (h:Hi P t K):∃ds,K ds:=by
 unfold Hi at h;split at h
 ·exact Wq h
 ·exact h.elim
def Hn (P:ab) (t:ac) (ds:List D):Option V:=
 match DW P t with
 |some n=>bif bc ds.length n then ap (.agg (ds.map .d))else aq
 |none=>bif BO P t then(match ds with
  |[d]=>ap (.d d)
  |_=>aq)else aq
def zLe {P:ab} {E:Ev} {w:af} {t sz i f:Nat} {eg:List (List D)} {b oo:Nat} {c:Nat} {xs:List aa} {ds:List D} {v:V} (hx:iz E.F eg.flatten xs) (hu:∀el∈eg,el.length=sz)
 (hs:Sat w (EE sz (ap ⟨b,oo,aq⟩) eg.length c xs)) (hp:zD eg i f ds.length=ap ds) (hm:Hn P t ds=ap v):∃y,VR E v y/\nC P t ⟨b,oo+i*sz+f,aq⟩ w y:=by
 unfold zD at hp;split at hp<;>first|(cases hp;done)|skip
 rename_i el oR;obtain⟨hb,hp⟩:=yU hp;have hb:=BA hb;have tf:=lr oR;have hi:i<eg.length:=(jl.1 oR).1;rw[hu el tf]at hb;obtain⟨b',o',l,T,fr,e1,e2,e3⟩:=Kd hs (by omega);cases e1;have mn:=(hx.drop (i*sz+f)).take ds.length;have hfp:=Xu hu oR hb;rw[hfp,ba hp]at mn;have hlen:xs.length=eg.length*sz:=by rw[hx.length,jM hu]
 have vj:i*sz+sz<=eg.length*sz:=by
  have:=wj sz (show i+1<=eg.length by omega);rwa [zd]at this
 have nk:(l.drop (oo+i*sz+f)).take ds.length=(xs.drop (i*sz+f)).take ds.length:=by
  rw[<- e3,ay,ax,Cw,Dm oo];congr 1;rw[Gu];omega
 unfold Hn at hm;split at hm
 ·rename_i n hn;obtain⟨hq,hm⟩:=yU hm;have:=iX hq;cases hm;refine⟨.agg ((xs.drop (i*sz+f)).take ds.length).toArray,by simp only[VR];exact⟨_,rfl,mn.MV⟩,?_⟩;refine SW hn e2 (by rw[<- this];exact nk) ?_;rw[mn.length,this]
 ·obtain⟨hq,hm⟩:=yU hm;split at hm<;>first|(cases hm;done)|skip
  rename_i d;cases hm;simp only[iD,tp,iz]at mn nk;obtain⟨y,ys,e4,h4,h5⟩:=mn;subst h5;refine⟨y,by simpa only[VR]using h4,vF hq e2 ?_⟩;have:((l.drop (oo+i*sz+f)).take 1)[0]? =ap y:=by rw[nk,e4];rfl
  rw[IU,fc (by omega),AQ]at this;simpa using this
def TW (P:ab) (t:ac) (vs:List V) (off:Nat):Option V:=
 match DW P t with
 |some sz=>bif be (off+sz) vs.length then ap (.agg ((vs.drop off).take sz))else aq
 |none=>bif BO P t then vs[off]? else aq
def zLr {P:ab} {E:Ev} {w:af} {t b off:Nat} {vs:List V} {l:List aa} {T:ac} {fr:Nat×Nat} {v:V} (hv:gp E vs l) (hb:w.heap[b]? =ap (.cells l.toArray T fr)) (h:TW P t vs off=ap v):
 ∃y,VR E v y/\nC P t ⟨b,off,aq⟩ w y:=by
 unfold TW at h;split at h
 ·rename_i n hn;obtain⟨hq,h⟩:=yU h;have hq:=BA hq;cases h;have hp:=(hv.drop off).take n;refine⟨.agg ((l.drop off).take n).toArray,by simp only[VR];exact⟨_,rfl,hp⟩,SW hn hb rfl ?_⟩;rw[hp.length,oe,oV];omega
 ·obtain⟨hq,h⟩:=yU h;obtain⟨y,h1,h2⟩:=hv.get h;exact⟨y,h2,vF hq hb h1⟩
def jF (s:ByteArray):List (List D):=s.data.toList.map λb=>[.v (.int .u8 b.toNat)]
def bR:aa->aa->Bool
 | .int k a,.int k' b=>vy k k' && decide (a=b)
 | .string a,.string b=>decide (a=b)
 |_,_=>au
def kO (x:aa):List (aa×List D)->Option (List D)
 |[]=>aq
 |(y,ds)::l=>bif bR x y then ap ds else kO x l
def LK (es:List (aa×List D)) (x:aa) (z ds:List D) (b:Bool):Prop:=(kO x es=ap ds/\b=ar)\/(kO x es=aq/\ds=z/\b=au)
def yWu:aa->Bool
 | .int _ _=>ar
 |_=>au
def yYi:aa->Bool
 | .string _=>ar
 |_=>au
def MC (P:ab) (t:ac) (x:aa):Bool:=
 match P.underlying t with
 |some (.int _)=>yWu x
 |some .string=>yYi x
 |_=>au
def lj:aa->aa->Bool
 | .int k _,.int k' _=>vy k k'
 | .string _,.string _=>ar
 |_,_=>au
def sC (x:aa) (es:List (aa×List D)):Prop:=∀p∈es,lj x p.1=ar
def u6 (x:aa) (ds:List D):List (aa×List D)->List (aa×List D)
 |[]=>[(x,ds)]
 |(y,e)::l=>bif bR x y then(y,ds)::l else(y,e)::u6 x ds l
def Bx (x:aa):List (aa×List D)->List (aa×List D)
 |[]=>[]
 |(y,e)::l=>bif bR x y then l else(y,e)::Bx x l
def Gz (P:ab) (t:ac) (ds:List D):Option V:=
 match DW P t with
 |some n=>bif bc ds.length n && !(bc n 1)then ap (.agg (ds.map .d))else aq
 |none=>bif BO P t then(match ds with
  |[d]=>ap (.d d)
  |_=>aq)else aq
def Gf (P:ab) (t:ac):Option (ac×ac):=
 match P.underlying t with
 |some (.map k e)=>ap (k,e)
 |_=>aq
def yGm {a b:ao} (h:vy a b=ar):a=b:=by
 cases a<;>cases b<;>first|rfl|cases h
def yOx {x y:aa} (h:bR x y=ar):x=y:=by
 unfold bR at h;split at h
 ·simp only[kx,tw]at h;rw[yGm h.1,h.2]
 ·rw[pj h]
 ·cases h
def S5 {P:ab} {t:ac} {x:aa} (h:MC P t x=ar):∃kd,P.underlying t=ap kd/\IG kd x:=by
 unfold MC at h;split at h
 ·rename_i ik hu;refine⟨_,hu,.inl ?_⟩;cases x<;>first|(cases h;done)|exact⟨_,_,_,rfl,rfl⟩
 ·rename_i hu;refine⟨_,hu,.inr ?_⟩;cases x<;>first|(cases h;done)|exact⟨_,rfl,rfl⟩
 ·cases h
def z9l (s s':ByteArray):(s==s')=decide (s=s'):=by
 by_cases h:s=s'
 ·subst h;rw[lg rfl];show(s.data==s.data)=ar;simp
 ·rw[kr h];cases hb:s==s'
  ·rfl
  ·have:(s.data==s'.data)=ar:=hb;exact absurd (ByteArray.ext (eq_of_beq this)) h
def tO {kd:TypeDesc} {x y:aa} (hk:IG kd x) (hl:lj x y=ar):Instr.sameNow kd x y=ap (bR x y):=by
 rcases hk with⟨ik,k,n,rfl,rfl⟩|⟨s,rfl,rfl⟩
 ·cases y<;>simp only[lj,oD]at hl
  rename_i k' m;have:=yGm hl;subst this;simp only[Instr.sameNow,if_true,bR,hl,zw];rfl
 ·cases y<;>simp only[lj,oD]at hl
  rename_i s';simp only[Instr.sameNow,bR];congr 1;exact z9l s s'
def z0t (k:ao):vy k k=ar:=by cases k<;>rfl
def zUa {kd:TypeDesc} {x:aa} (hk:IG kd x):lj x x=ar:=by
 rcases hk with⟨ik,k,n,rfl,rfl⟩|⟨s,rfl,rfl⟩
 ·exact z0t k
 ·rfl
def zTn {kd:TypeDesc} {x:aa} (hk:IG kd x):bR x x=ar:=by
 rcases hk with⟨ik,k,n,rfl,rfl⟩|⟨s,rfl,rfl⟩
 ·simp only[bR,z0t,zw,decide_true]
 ·simp only[bR,decide_true]
def zTs {l:List aj} {ck:Nat} (h:vS l ck) {e:aj} (he:e.born=ck):vS (l++[e]) (ck+1):=by
 refine⟨?_,λx hx=> ?_⟩
 ·rw[jk,zx];refine⟨h.1,by simp,λa ha b hb=> ?_⟩;obtain⟨x,hx,rfl⟩:=pk.1 ha;have:=h.2 x hx;simp only[jo,Ct,vf]at hb;omega
 ·rcases pn.1 hx with hx|hx
  ·have:=h.2 x hx;omega
  ·rw[vf.1 hx,he];omega
def Wk {l:List aj} {ck q:Nat} (h:vS l ck) {m e:aj} (hm:l[q]? =ap m) (he:e.born=m.born):vS (l.set q e) ck:=by
 have hq:(l.set q e).map (·.born)=l.map (·.born):=by
  apply He;intro i;rw[uq,uq,Gv];split
  ·rename_i hi;subst hi;split
   ·rw[hm];simp[he]
   ·rename_i gr;rw[tx (by omega)];first|rfl|done
  ·rfl
 refine⟨by rw[hq];exact h.1,λx hx=> ?_⟩;rcases List.mem_or_eq_of_mem_set hx with hx|rfl
 ·exact h.2 x hx
 ·rw[he];exact h.2 m (lr hm)
def z3o {l:List aj} {ck q:Nat} (h:vS l ck):vS (l.eraseIdx q) ck:=
 ⟨((List.eraseIdx_sublist l q).map _).nodup h.1,λx hx=>h.2 x ((List.eraseIdx_sublist l q).mem hx)⟩
def yLd:vS [] 0:=⟨by simp,by simp⟩
def Mq {F:PH} {kd:TypeDesc} {x:aa} (hk:IG kd x):∀{es:List (aa×List D)} {fq:List aj} (i:Nat),MR F es fq->sC x es->
 (bu kd x fq i=ap aq/\kO x es=aq/\(∀ds,u6 x ds es=es++[(x,ds)])/\Bx x es=es/\∀e:aj,e.key=x->bu kd x (fq++[e]) i=ap (ap (i+fq.length,e.val)))\/
 (∃q m ds ys,bu kd x fq i=ap (ap (i+q,m.val))/\fq[q]? =ap m/\m.key=x/\kO x es=ap ds/\iz F ds ys/\m.val=pV ys/\
   (∀CL Dl (e:aj),iz F CL Dl->e.key=x->e.val=pV Dl->MR F (u6 x CL es) (fq.set q e))/\MR F (Bx x es) (fq.eraseIdx q)/\∀e:aj,e.key=x->bu kd x (fq.set q e) i=ap (ap (i+q,e.val)))
 |[],fq,i,h,_=>by
  simp only[MR]at h;subst h;exact .inl ⟨rfl,rfl,λds=>rfl,rfl,λe he=>by
   have hx:lj x x=ar:=zUa hk;simp only[yh,bu,he,tO hk hx,zTn hk];rfl⟩
 |(y,e)::es,fq,i,h,hl=>by
  simp only[MR]at h;obtain⟨m,ms,rfl,h1,⟨ys,h2,h3⟩,h4⟩:=h;have hy:lj x y=ar:=hl (y,e) ji;have hs:=tO hk hy;cases hb:bR x y with
  |true=>
   have hxy:=yOx hb;refine .inr ⟨0,m,e,ys,?_,rfl,by rw[h1,hxy],?_,h2,h3,?_,?_,?_⟩
   ·simp only[bu,h1,hs,hb];rfl
   ·simp only[kO,hb,cond_true]
   ·intro CL Dl e' q1 q2 q3;simp only[u6,hb,cond_true,Oz,MR];exact⟨e',ms,rfl,by rw[q2,hxy],⟨Dl,q1,q3⟩,h4⟩
   ·simp only[Bx,hb,cond_true,List.eraseIdx_cons_zero];exact h4
   ·intro e' qy;simp only[Oz,bu,qy,tO hk (zUa hk),zTn hk];rfl
  |false=>
   have hl':sC x es:=λp hp=>hl p (jw _ hp)
   rcases Mq hk (i+1) h4 hl' with⟨q1,q2,q3,q4,q5⟩|⟨q,m',ds,Dl,q1,q2,q3,q4,q5,q6,q7,q8,q9⟩
   ·refine .inl ⟨?_,?_,λds=> ?_,?_,λe' qy=> ?_⟩
    ·simp only[bu,h1,hs,hb];exact q1
    ·simp only[kO,hb,cond_false];exact q2
    ·simp only[u6,hb,cond_false,q3 ds,tv]
    ·simp only[Bx,hb,cond_false,q4]
    ·simp only[tv,bu,h1,hs,hb];rw[q5 e' qy,iD,show i+1+ms.length=i+(ms.length+1)by omega]
   ·refine .inr ⟨q+1,m',ds,Dl,?_,by simpa using q2,q3,?_,q5,q6,?_,?_,λe' qy=> ?_⟩
    ·simp only[bu,h1,hs,hb];rw[q1,show i+1+q=i+(q+1)by omega]
    ·simp only[kO,hb,cond_false];exact q4
    ·intro CL ys2 e' r1 r2 r3;simp only[u6,hb,cond_false,Oy,MR];exact⟨m,_,rfl,h1,⟨ys,h2,h3⟩,q7 CL ys2 e' r1 r2 r3⟩
    ·simp only[Bx,hb,cond_false,List.eraseIdx_cons_succ,MR];exact⟨m,_,rfl,h1,⟨ys,h2,h3⟩,q8⟩
    ·simp only[Oy,bu,h1,hs,hb];rw[q9 e' qy,show i+1+q=i+(q+1)by omega]
def jT {P:ab} {kt:ac} {kd:TypeDesc} (hu:P.underlying kt=ap kd) {x:aa} (hk:IG kd x) (b:Bool) (w:af):(Instr.checkKey b 10000 kt x).run P w= .ok () w:=by
 rcases hk with⟨ik,k,n,rfl,rfl⟩|⟨s,rfl,rfl⟩<;>
  (unfold Instr.checkKey;simp only[bind,run_bind,Cv.run_underlying hu];rfl)
def wV {P:ab} {kt:ac} {kd:TypeDesc} (hu:P.underlying kt=ap kd) {x:aa} {fq:List aj} {r:Option (Nat×aa)} (h:bu kd x fq 0=ap r) (w:af):(Instr.findKey kt x fq).run P w= .ok r w:=by
 simp only[Instr.findKey,bind,run_bind,Cv.run_underlying hu,h];rfl
def hU {P:ab} {t:ac} {ke:ac×ac} (h:Gf P t=ap ke):P.underlying t=ap (.map ke.1 ke.2):=by
 unfold Gf at h;split at h
 ·rename_i k e hu;cases h;exact hu
 ·cases h
def Vo {P:ab} {E:Ev} {t:ac} {ds:List D} {v:V} (h:Gz P t ds=ap v) {ys:List aa} (hd:iz E.F ds ys):VR E v (pV ys):=by
 unfold Gz at h;split at h
 ·obtain⟨hb,h⟩:=yU h;cases h;simp only[kx,EB]at hb;have h1:=iX hb.1;have hl:ys.length=ds.length:=hd.length;have:pV ys= .agg ys.toArray:=by
   unfold pV;split
   ·rename_i y;rw[h1]at hl;simp only[iD,tp]at hl;rw[<- hl]at hb;exact absurd hb.2 (by decide)
   ·rfl
  rw[this];simp only[VR];exact⟨ys,rfl,hd.MV⟩
 ·obtain⟨hb,h⟩:=yU h;split at h<;>first|(cases h;done)|skip
  cases h;simp only[iz]at hd;obtain⟨x,xs,rfl,h1,rfl⟩:=hd;simpa only[VR,pV]using h1
def LZ (P:ab) (t:ac):Option (List D):=
 match nD P t with
 |some (.agg cs)=>(match DW P t with
  |some _=>bif okc (.agg cs)then ap (cs.toList.map .v)else aq
  |none=>aq)
 |some z=>(match DW P t with
  |some _=>aq
  |none=>bif z.nv then ap [.v z]else aq)
 |none=>aq
def yKk {P:ab} {E:Ev} {t:ac} {ds:List D} {v:V} (h:LZ P t=ap ds) (hm:Gz P t ds=ap v):∃z,nD P t=ap z/\VR E v z:=by
 unfold LZ at h;split at h
 ·rename_i cs hz;split at h<;>first|(cases h;done)|skip
  rename_i n hn;obtain⟨hb,h⟩:=yU h;cases h;refine⟨_,hz,?_⟩;simp only[Gz,hn]at hm;obtain⟨_,hm⟩:=yU hm;cases hm;simp only[VR];refine⟨cs.toList,by simp,?_⟩;rw[vu];exact Z7 hb
 ·rename_i z je hz;split at h<;>first|(cases h;done)|skip
  rename_i hn;obtain⟨hb,h⟩:=yU h;cases h;refine⟨_,hz,?_⟩;simp only[Gz,hn]at hm;obtain⟨_,hm⟩:=yU hm;cases hm;simp only[VR,DR];exact⟨trivial,hb⟩
 ·cases h
def Ke (s:St) (n:Nat):Option Nat:=
 match s.get n with
 |some (.jt _ _ _ _ l _)=>ap l.length
 |_=>aq
def WG {k:Ko} {L:List HP} {E:Ev} {s:St} {w:af} (R:Rel k L E s w) {n len:Nat} (h:Ke s n=ap len):
 ∃a c sub,E.fv[n]? =ap (.slice a len c,sub)/\sub.length=len/\(∀p∈sub,∃b oo,p= .pointer (ap ⟨b,oo,aq⟩))/\Sat w (EE 1 a len c sub):=by
 unfold Ke at h;split at h<;>first|(cases h;done)|skip
 rename_i t T m ix l hole hg;cases h;obtain⟨⟨v,sub⟩,x,h1,h2,h3⟩:=R.row hg (by simp);simp only[fi]at h2;obtain⟨a,c,e1,e2,e3,e4⟩:=h2;obtain⟨g,g',q1,q2,q3,rfl⟩:=e4;subst e1;exact⟨a,c,sub,h1,e2,e3,g,mQ q1,λb o e=>h3 b o (by simp[un,e])⟩
structure wg where
 q:Bool
 T:Nat
 sz:Nat
 eg:List (List D)
 i:Nat
 f:Nat
 b:Bool
 m:Option Nat
def mV (s:St) (n:Nat):Option wg:=
 match s.get n with
 |some (.vi q t sz eg i f b m)=>ap ⟨q,t,sz,eg,i,f,b,m⟩
 |_=>aq
def tY {s:St} {n:Nat} {x:wg} (h:mV s n=ap x):s.get n=ap (.vi x.q x.T x.sz x.eg x.i x.f x.b x.m):=by
 unfold mV at h;split at h<;>first|(cases h;done)|skip
 rename_i hg;cases h;exact hg
def wg.clear (x:wg) (i f k:Nat):Prop:=x.f<x.sz/\(x.b=ar->i=x.i->f+k<=x.f\/x.f<f)
def Rel.vi {k:Ko} {L:List HP} {E:Ev} {s:St} {w:af} (R:Rel k L E s w) {n:Nat} {x:wg} (h:mV s n=ap x):
 ∃a c sub ys xs,E.fv[n]? =ap (.slice a x.eg.length c,sub)/\iz E.F x.eg.flatten ys/\(∀el∈x.eg,el.length=x.sz)/\yz E.fv (x.i*x.sz+x.f) x.b ys xs x.m/\Sat w (EE x.sz a x.eg.length c xs):=by
 obtain⟨⟨hv,sub⟩,z,h1,h2,h3⟩:=R.row (tY h) (by simp);simp only[fi]at h2;obtain⟨a,c,ys,xs,rfl,q2,q3,q4,q5⟩:=h2;exact⟨a,c,sub,ys,xs,h1,q2,q3,q4,z,mQ q5,h3⟩
def Wz {fv:List Hd} {p:Nat} {b:Bool} {ys xs:List aa}:∀{m:Option Nat},yz fv p b ys xs m->xs.length=ys.length
 |some m,⟨y,l,h1,h2,h3⟩=>by cases b<;>simp[h3]
 |none,⟨y,h1,h3⟩=>by cases b<;>simp[h3]
def yFy {fv:List Hd} {p:Nat} {b:Bool} {ys xs:List aa}:∀{m:Option Nat},yz fv p b ys xs m->∀o n,(b=ar->o+n<=p\/p<o)->(xs.drop o).take n=(ys.drop o).take n:=by
 have key:∀{y:aa},xs=(bif b then ys.set p y else ys)->∀o n,(b=ar->o+n<=p\/p<o)->(xs.drop o).take n=(ys.drop o).take n:=by
  intro y h o n hc;cases b with
  |false=>rw[h];rfl
  |true=>
   rw[h,cond_true];apply He;intro j;rw[IU,IU];split
   ·rw[AQ,AQ,Gv,ej (by have:=hc rfl;omega)]
   ·rfl
 intro m;cases m with
 |none=>rintro⟨y,_,h⟩;exact key h
 |some m=>rintro⟨y,l,_,_,h⟩;exact key h
def yBf {sz i f i0 f0 k:Nat} (h1:f+k<=sz) (h2:f0<sz) (je:i=i0->f+k<=f0\/f0<f):i*sz+f+k<=i0*sz+f0\/i0*sz+f0<i*sz+f:=by
 rcases Nat.lt_trichotomy i i0 with h|h|h
 ·have:=wj sz (show i+1<=i0 by omega);rw[zd]at this;left;omega
 ·subst h;rcases je rfl with h|h
  ·left;omega
  ·right;omega
 ·have:=wj sz (show i0+1<=i by omega);rw[zd]at this;right;omega
def zSg {P:ab} {E:Ev} {w:af} {t sz i f:Nat} {eg:List (List D)} {b oo:Nat} {c:Nat} {xs:List aa} {ds:List D} {v:V} (hlen:xs.length=eg.length*sz) (hu:∀el∈eg,el.length=sz)
 (hs:Sat w (EE sz (ap ⟨b,oo,aq⟩) eg.length c xs)) (hp:zD eg i f ds.length=ap ds) (mn:iz E.F ds ((xs.drop (i*sz+f)).take ds.length)) (hm:Hn P t ds=ap v):∃y,VR E v y/\nC P t ⟨b,oo+i*sz+f,aq⟩ w y:=by
 unfold zD at hp;split at hp<;>first|(cases hp;done)|skip
 rename_i el oR;obtain⟨hb,hp⟩:=yU hp;have hb:=BA hb;have tf:=lr oR;have hi:i<eg.length:=(jl.1 oR).1;rw[hu el tf]at hb;obtain⟨b',o',l,T,fr,e1,e2,e3⟩:=Kd hs (by omega);cases e1;have vj:i*sz+sz<=eg.length*sz:=by
  have:=wj sz (show i+1<=eg.length by omega);rwa [zd]at this
 have nk:(l.drop (oo+i*sz+f)).take ds.length=(xs.drop (i*sz+f)).take ds.length:=by
  rw[<- e3,ay,ax,Cw,Dm oo];congr 1;rw[Gu];omega
 unfold Hn at hm;split at hm
 ·rename_i n hn;obtain⟨hq,hm⟩:=yU hm;have:=iX hq;cases hm;refine⟨.agg ((xs.drop (i*sz+f)).take ds.length).toArray,by simp only[VR];exact⟨_,rfl,mn.MV⟩,?_⟩;refine SW hn e2 (by rw[<- this];exact nk) ?_;rw[mn.length,this]
 ·obtain⟨hq,hm⟩:=yU hm;split at hm<;>first|(cases hm;done)|skip
  rename_i d;cases hm;simp only[iD,tp,iz]at mn nk;obtain⟨y,ys,e4,h4,h5⟩:=mn;subst h5;refine⟨y,by simpa only[VR]using h4,vF hq e2 ?_⟩;have:((l.drop (oo+i*sz+f)).take 1)[0]? =ap y:=by rw[nk,e4];rfl
  rw[IU,fc (by omega),AQ]at this;simpa using this
def Vi (P:ab) (t:ac) (x:wg) (sz i f:Nat) (K:V->Prop):Prop:=
 bif bc sz x.sz then(match x.q,x.m,gE P t with
  |true,ap c,ap _=>bif BO P t then(i=x.i/\f=x.f/\x.b=ar/\i<x.eg.length/\f<sz)/\K (.own c)else False
  |_,_,_=>Hi P t λds=>zD x.eg i f ds.length=ap ds/\x.clear i f ds.length/\iC (Hn P t ds) K)else False
def z5z {P:ab} {k:Ko} {L:List HP} {E:Ev} {s:St} {w:af} (R:Rel k L E s w) {t n sz i f:Nat} {x:wg} {K:V->Prop} (hx:mV s n=ap x) (h:Vi P t x sz i f K)
 {b oo m c:Nat} {l:List aa} (e1:E.fv[n]? =ap (.slice (ap ⟨b,oo,aq⟩) m c,l)):∃v y,K v/\VR E v y/\nC P t ⟨b,oo+i*sz+f,aq⟩ w y:=by
 unfold Vi at h;obtain⟨hb,h⟩:=zK h;have e:=iX hb;subst e;obtain⟨a,c',sub,ys,xs,q1,q2,q3,q4,q5⟩:=R.vi hx;rw[e1]at q1;cases q1;have CD:ys.length=x.eg.length*x.sz:=by rw[q2.length,jM q3]
 have AG:xs.length=x.eg.length*x.sz:=by rw[Wz q4,CD]
 split at h
 ·rename_i cc tt hq hm hs;obtain⟨OY,⟨rfl,rfl,hbt,hi,hf⟩,hk⟩:=zK h;rw[hm]at q4;obtain⟨y,ly,r1,⟨ya,yn,yc,r2⟩,r3⟩:=q4;rw[hbt,cond_true]at r3;have vj:x.i*x.sz+x.sz<=x.eg.length*x.sz:=by
   have:=wj x.sz (show x.i+1<=x.eg.length by omega);rwa [zd]at this
  obtain⟨b',o',l',T,fr,e2,e3,e4⟩:=Kd q5 (by omega);cases e2;refine⟨_,y,hk,by simp only[VR];exact⟨ly,r1,ya,yn,yc,r2⟩,vF OY e3 ?_⟩;have:xs[x.i*x.sz+x.f]? =ap y:=by rw[r3,Gv,fc rfl,fc (by omega)]
  rw[<- e4,IU,fc (by omega),AQ]at this;rw[show oo+x.i*x.sz+x.f=oo+(x.i*x.sz+x.f)by omega];exact this
 ·obtain⟨ds,hp,⟨wx,vz⟩,h⟩:=bX h;obtain⟨v,hm,hk⟩:=zM h;have Nc:=hp;unfold zD at Nc;split at Nc<;>first|(cases Nc;done)|skip
  rename_i el oR;obtain⟨Hy,Nc⟩:=yU Nc;have Hy:=BA Hy;rw[q3 el (lr oR)]at Hy;have mn:=(q2.drop (i*x.sz+f)).take ds.length;rw[Xu q3 oR Hy,ba Nc]at mn;rw[<- yFy q4 (i*x.sz+f) ds.length (λhb=>yBf Hy wx (vz hb))]at mn;obtain⟨y,hy,hh⟩:=zSg AG q3 q5 hp mn hm;exact⟨v,y,hk,hy,hh⟩
def sr (P:ab) (o:ak) (ρ:xA) (s:St) (K:V->Prop):Prop:=
 match o.op with
 | .load t x=>match lh ρ x with
   | .nm n off=>match s.get n with
     |some (.cells vs _)=>iC (TW P t vs off) K
     |_=>False
   | .el n sz i f=>match Ke s n with
     |some len=>bif bc sz 1 && bc f 0 && BO P t then i<len/\K (.sub n i)else False
     |none=>match mV s n with
     |some x=>Vi P t x sz i f K
     |none=>iC (eB s (.own n)) λse=>bif bc sz se.1 then Hi P t λds=>zD se.2 i f ds.length=ap ds/\iC (Hn P t ds) K else False
   | .re sz eg i f=>Hi P t λds=>zD eg i f ds.length=ap ds/\iC (Hn P t ds) K
   | .na n off i=>match s.get n with
     |some (.cells vs _)=>bif BO P t then Hi P t λds=>match ds with
      |[d]=>(vs.drop off)[i]?=ap (.d d)/\K (.d d)
      |_=>False else False
     |some (.vec es _)=>bif BO P t then Hi P t λds=>match ds with
      |[d]=>(es.drop off)[i]?=ap d/\K (.d d)
      |_=>False else False
     |_=>False
   |_=>False
 | .indexAddr t x i=>match lh ρ x with
   | .own n=>match lh ρ i with
     | .d (.v (.int _ i))=>iC (gE P t) λsz=>match Ke s n with
       |some len=>bif bc sz 1 then(0<=i/\i<len)/\K (.el n 1 i.toNat 0)else False
       |none=>match mV s n with
       |some x=>bif bc sz x.sz then(0<=i/\i<x.eg.length)/\K (.el n sz i.toNat 0)else False
       |none=>iC (eB s (.own n)) λse=>bif bc sz se.1 then(0<=i/\i<se.2.length)/\K (.el n sz i.toNat 0)else False
     |_=>False
   |_=>False
 | .binOp op t x y _=>match lh ρ x with
   | .own n=>bif RF y && G6 P t then iC (eB s (.own n)) λse=>Zw op se.2 K else False
   |_=>False
 | .convert st d x=>bif Ot P st && Ka P d then iC (eB s (lh ρ x)) λse=>∃b:ByteArray,se.1=1/\se.2=jF b/\K (.d (.v (.string b)))else False
 | .call c=>match c.callee with
   | .builtin .len=>match CJ ρ c.args.toList with
     |[.own n]=>iC c.argTypes[0]? λt=>bif G6 P t then(match Ke s n with
      |some len=>K (.d (.v (.int .i64 len)))
      |none=>iC (eB s (.own n)) λse=>K (.d (.v (.int .i64 se.2.length))))else False
     |[.mp n]=>iC c.argTypes[0]? λt=>bif Zl P t then(match s.get n with
      |some (.map es)=>K (.d (.v (.int .i64 es.length)))
      |_=>False)else False
     |_=>False
   |_=>False
 | .lookup t x i ok=>match lh ρ x with
   | .mp n=>match s.get n with
     |some (.map es)=>iC (Gf P t) λke=>iC (Gl (lh ρ i)) λkv=>bif MC P ke.1 kv then iC (LZ P ke.2) λz=>sC kv es/\∃b,Hi P ke.2 λds=>LK es kv z ds b/\iC (Gz P ke.2 ds) λv=>K (bif ok then .iW [v,.d (.v (.bool b))]else v)else False
     |_=>False
   |_=>False
 |_=>False
def y7w (P:ab) (E:Ev) (o:ak) (ρ:Env) (w:af) (K:V->Prop):Prop:=∃v y,K v/\VR E v y/\(ae (ev ρ) o).run P w=.ok (.value y) w
def z5v {P:ab} {F:PH} {b:ByteArray} {xs:List aa} (h:iz F (jF b).flatten xs):xs=(b.data.toList.map UInt8.toNat).map λ(n:Nat)=>Value.int .u8 (n:Int):=by
 unfold jF at h;revert h;generalize b.data.toList=l
 induction l generalizing xs with
 |nil=>intro h;simpa[iz]using h
 |cons a l ih=>
  intro h;simp only[jo,AD,tv,yh,iz,DR]at h;obtain⟨x,ys,rfl,⟨rfl,_⟩,h⟩:=h;simp only[jo];rw[ih h]
def VU {P:ab} {k:Ko} {L:List HP} {E:Ev} {s:St} {w:af} (R:Rel k L E s w) {ρS:xA} {ρ:Env} (he:ki E ρS ρ) {o:ak} {K:V->Prop} (h:sr P o ρS s K):y7w P E o ρ w K:=by
 cases ho:o.op
 case load t x=>
  simp only[sr,ho]at h;have hv:=he.ev x;split at h<;>first|exact h.elim|skip
  ·rename_i n off hx;rw[hx]at hv;simp only[VR]at hv;obtain⟨b,oo,l,e1,e2⟩:=hv;split at h<;>first|exact h.elim|skip
   rename_i vs T hg;obtain⟨v,hp,hk⟩:=zM h;obtain⟨b',l',sub,q1,q2,q3⟩:=R.cells hg;rw[e1]at q1;cases q1;obtain⟨y,hy,hh⟩:=zLr q2 q3 hp;refine⟨v,y,hk,hy,?_⟩;simp only[ae,ho,e2,nw];exact yF hh
  ·rename_i n sz i f hx;rw[hx]at hv;simp only[VR]at hv;obtain⟨b,oo,m,c,l,e1,e2⟩:=hv;split at h
   ·rename_i len I9;obtain⟨hb,hi,hk⟩:=zK h;simp only[kx]at hb;have b1:=iX hb.1.1;have b2:=iX hb.1.2;subst b1 b2;obtain⟨a,c',sub,q1,q2,q3,q4⟩:=WG R I9;rw[e1]at q1;cases q1;obtain⟨bb,o',ll,T,fr,r1,r2,r3⟩:=Kd q4 (by omega);cases r1;obtain⟨p,hp⟩:∃p,l[i]? =ap p:=⟨_,vd (by omega)⟩
    obtain⟨pb,po,rfl⟩:=q3 p (lr hp);refine⟨.sub n i,.pointer (ap ⟨pb,po,aq⟩),hk,by simp only[VR];exact⟨_,l,pb,po,e1,hp,rfl⟩,?_⟩;simp only[ae,ho,e2];refine yF (vF hb.2 r2 ?_);rw[<- r3,IU,fc (by omega),AQ]at hp;rw[show oo+i*1+0=oo+i by omega];exact hp
   split at h
   ·rename_i x hx;obtain⟨v,y,hk,hy,hh⟩:=z5z R hx h e1;refine⟨v,y,hk,hy,?_⟩;simp only[ae,ho,e2];exact yF hh
   obtain⟨⟨ot,eg⟩,hd,h⟩:=zM h;obtain⟨hb,h⟩:=zK h;have:=iX hb;simp only at this;subst this;obtain⟨ds,hp,h⟩:=bX h;obtain⟨v,hm,hk⟩:=zM h;obtain⟨a,c',xs,q1,q2,q3,q4,q5⟩:=aK R (v:= .own n) (y:= .slice (ap ⟨b,oo,aq⟩) m c) (by simp only[VR];exact⟨l,e1,_,_,_,rfl⟩) hd;cases q1;obtain⟨y,hy,hh⟩:=zLe q3 q4 q5 hp hm;refine⟨v,y,hk,hy,?_⟩;simp only[ae,ho,e2];exact yF hh
  ·rename_i sz eg i f hx;rw[hx]at hv;simp only[VR]at hv;obtain⟨e0,e1,b,oo,l,T,fr,e2,e3,e4⟩:=hv;obtain⟨ds,hp,h⟩:=bX h;obtain⟨v,hm,hk⟩:=zM h;obtain⟨a,c',xs,q1,q2,q3,q4,q5⟩:=Xt R (sz:=sz) (eg:=eg) (y:= .slice (ap ⟨b,oo,aq⟩) eg.length eg.length) (by
    simp only[DR];exact⟨_,_,rfl,km _,e1,.inr ⟨b,oo,l,T,fr,rfl,e3,e4⟩⟩)
   cases q1;obtain⟨y,hy,hh⟩:=zLe q3 q4 q5 hp hm;refine⟨v,y,hk,hy,?_⟩;simp only[ae,ho,e2];exact yF hh
  ·rename_i n off i hx;rw[hx]at hv;simp only[VR]at hv;obtain⟨b,oo,l,e1,e2⟩:=hv;split at h<;>first|exact h.elim|skip
   rename_i vs T hg;obtain⟨OY,h⟩:=zK h;obtain⟨ds,h⟩:=bX h;split at h<;>first|exact h.elim|skip
   rename_i d;obtain⟨hd,hk⟩:=h;obtain⟨b',l',sub,q1,q2,q3⟩:=R.cells hg;rw[e1]at q1;cases q1;obtain⟨y,hy,hh⟩:=(q2.drop off).get hd;rw[AQ]at hy;refine⟨.d d,y,hk,hh,?_⟩;simp only[ae,ho,e2,nw];exact yF (vF OY q3 hy);rename_i vs T hg;obtain⟨OY,h⟩:=zK h;obtain⟨ds,h⟩:=bX h;split at h<;>first|exact h.elim|skip
   rename_i d;obtain⟨hd,hk⟩:=h;obtain⟨b',l',sub,q1,q2,q3⟩:=R.vec hg;rw[e1]at q1;cases q1;obtain⟨y,hy,hh⟩:=(q2.drop off).get hd;rw[AQ]at hy;refine⟨.d d,y,hk,by simpa only[VR]using hh,?_⟩;simp only[ae,ho,e2,nw];exact yF (vF OY q3 hy)
 case indexAddr t x i=>
  simp only[sr,ho]at h;have hv:=he.ev x;split at h<;>first|exact h.elim|skip
  rename_i n hx;split at h<;>first|exact h.elim|skip
  rename_i kk i' hi;have AH:=he.ev i;rw[hi]at AH;have AH:=AH.DE;obtain⟨sz,hs,h⟩:=zM h;split at h
  ·rename_i len I9;obtain⟨hb,⟨h0,h1⟩,hk⟩:=zK h;have b1:=iX hb;subst b1;obtain⟨a,c',sub,q1,q2,q3,q4⟩:=WG R I9;rw[hx]at hv;simp only[VR]at hv;obtain⟨l,e1,_⟩:=hv;rw[q1]at e1;obtain⟨b,oo,ll,T,fr,rfl,r2,r3⟩:=Kd q4 (by omega);have e1:=ba e1;have e2:ev ρ x= .slice (ap ⟨b,oo,aq⟩) len c':=(congrArg Prod.fst e1).symm;refine⟨_,.pointer (ap ⟨b,oo+i'.toNat*1+0,aq⟩),hk,by simp only[VR];exact⟨_,_,_,_,_,q1,rfl⟩,?_⟩;simp only[ae,ho,e2,AH];refine yF ?_;rw[jX hs ⟨h0,by omega⟩,uD];rfl
  split at h
  ·rename_i xh hxh;obtain⟨hb,⟨h0,h1⟩,hk⟩:=zK h;have b1:=iX hb;subst b1;obtain⟨a,c',sub,ys,xs,q1,q2,q3,q4,q5⟩:=R.vi hxh;rw[hx]at hv;simp only[VR]at hv;obtain⟨l,e1,_⟩:=hv;rw[q1]at e1;obtain⟨b,oo,ll,T,fr,rfl,r2,r3⟩:=Kd q5 (by omega);have e1:=ba e1;have e2:ev ρ x= .slice (ap ⟨b,oo,aq⟩) xh.eg.length c':=(congrArg Prod.fst e1).symm;refine⟨_,.pointer (ap ⟨b,oo+i'.toNat*xh.sz+0,aq⟩),hk,by simp only[VR];exact⟨_,_,_,_,_,q1,rfl⟩,?_⟩;simp only[ae,ho,e2,AH];refine yF ?_;rw[jX hs ⟨h0,by omega⟩,uD];rfl
  obtain⟨⟨ot,eg⟩,hd,h⟩:=zM h;obtain⟨hb,⟨h0,h1⟩,hk⟩:=zK h;have:=iX hb;simp only at this;subst this;simp only at h1;rw[hx]at hv;have I4:=hv;simp only[VR]at I4;obtain⟨sub,e1,_⟩:=I4;obtain⟨a,c',xs,q1,q2,q3,q4,q5⟩:=aK R hv hd;obtain⟨b,oo,l,T,fr,rfl,e2,e3⟩:=Kd q5 (by omega);rw[q1]at e1;refine⟨_,.pointer (ap ⟨b,oo+i'.toNat*sz+0,aq⟩),hk,by simp only[VR];exact⟨_,_,_,_,_,e1,rfl⟩,?_⟩;simp only[ae,ho,q1,AH];refine yF ?_;rw[jX hs ⟨h0,by omega⟩,uD];rfl
 case binOp op t x y u=>
  simp only[sr,ho]at h;split at h<;>first|exact h.elim|skip
  rename_i n hx;obtain⟨hb,h⟩:=zK h;simp only[kx]at hb;obtain⟨⟨ot,eg⟩,hd,hk⟩:=zM h;have hv:=he.ev x;rw[hx]at hv;obtain⟨a,c',xs,q1,q2,q3,q4,q5⟩:=aK R hv hd;obtain⟨v,y',h1,h2,h3⟩:=zQf (E:=E) ho hb.1 hb.2 q1 (λha=>by
   obtain⟨z,hz,_⟩:=q5;rcases hz with⟨h1,_⟩|⟨_,_,_,_,_,h1,_⟩
   ·exact xu h1
   ·rw[ha]at h1;cases h1) hk
  exact⟨v,y',h1,h2,h3 w⟩
 case convert st d x=>
  simp only[sr,ho]at h;obtain⟨hb,h⟩:=zK h;simp only[kx]at hb;obtain⟨⟨ot,eg⟩,hd,h⟩:=zM h;obtain⟨b,rfl,rfl,hk⟩:=h;obtain⟨a,c',xs,q1,q2,q3,q4,q5⟩:=aK R (he.ev x) hd;refine⟨_,.string b,hk,jN rfl,?_⟩;obtain⟨e,hes,hu⟩:=yDc hb.1;simp only[ae,ho,q1];refine yF ?_;have vh:=z5v (P:=P) q3;obtain⟨r1,hfc,r3⟩:=NQ (P:=P) (.inl ⟨a,c',rfl,q5⟩);rcases a with _|ad
  ·obtain⟨x,hx,hs⟩:=q5;have hz:(jF b).length=0:=by
    rcases hx with⟨h1,_⟩|⟨_,_,_,_,_,h1,_⟩
    ·exact h1
    ·cases h1
   have hb0:b= .empty:=by
    unfold jF at hz;simp at hz;simpa using hz
   subst hb0;simp only[convert,bind,run_bind,Cv.run_underlying hes,Cv.run_underlying (nI hb.2),Cv.run_underlying hu];rfl
  ·simp only[ct,Nat.mul_one]at hfc;rw[vh]at hfc;simp only[convert,bind,run_bind,Cv.run_underlying hes,Cv.run_underlying (nI hb.2),Cv.run_underlying hu,Conv.bytesToString,hfc];rw[<- Array.forIn_toList];simp only[bind,pure];rw[zFn (P:=P) w (λ_ _=>rfl) _ .empty];simp only[cd];congr 2;rw[Cv.Gb];apply ByteArray.ext;simp
 case call c=>
  simp only[sr,ho]at h;split at h<;>first|exact h.elim|skip
  rename_i hc;obtain⟨ys,e1,e2⟩:=b6 he c.args;split at h<;>first|exact h.elim|skip
  ·rename_i n nh;obtain⟨t,ht,h⟩:=zM h;obtain⟨hs,h⟩:=zK h;split at h
   ·rename_i len I9;rw[nh]at e2;simp only[gp,VR]at e2;obtain⟨y,_,rfl,⟨l,hv,_⟩,rfl⟩:=e2;obtain⟨a,c',sub,q1,q2,q3,q4⟩:=WG R I9;rw[hv]at q1;have e3:y= .slice a len c':=congrArg Prod.fst (ba q1);subst e3;refine⟨_,.int .i64 len,h,jN rfl,?_⟩;rw[jQ ho hc,e1];obtain⟨e,KK⟩:=tQ hs;refine yF ?_;simp only[cr,ht,AF,Cx,bind,run_bind,Cv.run_underlying KK];rfl
   obtain⟨⟨ot,eg⟩,hd,hk⟩:=zM h;rw[nh]at e2;simp only[gp]at e2;obtain⟨y,_,rfl,hv,rfl⟩:=e2;obtain⟨a,c',xs,rfl,q2,q3,q4,q5⟩:=aK R hv hd;refine⟨_,.int .i64 eg.length,hk,jN rfl,?_⟩;rw[jQ ho hc,e1];obtain⟨e,KK⟩:=tQ hs;refine yF ?_;simp only[cr,ht,AF,Cx,bind,run_bind,Cv.run_underlying KK];rfl
  ·rename_i n nh;obtain⟨t,ht,h⟩:=zM h;obtain⟨hs,h⟩:=zK h;split at h<;>first|exact h.elim|skip
   rename_i es hg;rw[nh]at e2;simp only[gp,VR]at e2;obtain⟨y,_,rfl,⟨bm,sub,e3,rfl⟩,rfl⟩:=e2;obtain⟨hd,x,q1,q2,q3⟩:=R.row hg (by simp);rw[e3]at q1;cases q1;simp only[fi]at q2;obtain⟨b,fq,ck,e4,e5,e6,rfl⟩:=q2;cases e4;have hm:=q3 bm _ (by simp[one];rfl);have hl:fq.length=es.length:=by
    clear q3 hm hg h e6
    induction es generalizing fq with
    |nil=>simp only[MR]at e5;rw[e5];rfl
    |cons p es ih=>obtain⟨m,ms,rfl,_,_,e5⟩:=e5;simp[ih _ e5]
   refine⟨_,.int .i64 es.length,h,jN rfl,?_⟩;rw[jQ ho hc,e1];obtain⟨kt,e,KK⟩:=z1c hs;refine yF ?_;simp only[cr,ht,AF,Cx,bind,run_bind,Cv.run_underlying KK,qJ hm trivial];simp[pure,cd,goInt,hl]
 case lookup t x i ok=>
  simp only[sr,ho]at h;split at h<;>first|exact h.elim|skip
  rename_i n hx;split at h<;>first|exact h.elim|skip
  rename_i es hg;obtain⟨ke,BD,h⟩:=zM h;obtain⟨kv,Hv,h⟩:=zM h;obtain⟨Pa,h⟩:=zK h;obtain⟨z,hz,BG,b,h⟩:=zM h;obtain⟨ds,O8,h⟩:=bX h;obtain⟨v,hm,hk⟩:=zM h;have hv:=he.ev x;rw[hx]at hv;simp only[VR]at hv;obtain⟨bm,sub,e1,e2⟩:=hv;obtain⟨hd,x',q1,q2,q3⟩:=R.row hg (by simp);rw[e1]at q1;cases q1;simp only[fi]at q2;obtain⟨b',fq,ck,e4,e5,e6,rfl⟩:=q2;rw[e2]at e4;cases e4;have Nf:=q3 bm _ (by simp[one];rfl);have hi:ev ρ i=kv:=tU Hv (he.ev i);obtain⟨kd,hu,yo⟩:=S5 Pa;have D6:∀v,Gz P ke.2 z=ap v->∃zv,nD P ke.2=ap zv/\VR E v zv:=λv hv=>yKk hz hv
  refine⟨bif ok then .iW [v,.d (.v (.bool b))]else v,?_⟩;have run:∃y,VR E v y/\(bz t (.map (ap bm)) kv ok).run P w= .ok (if ok then .tuple #[y,.bool b]else y) w:=by
   rcases Mq yo 0 e5 BG with⟨r1,r2,r3,r4,_⟩|⟨q,m,CL,ys,r1,r2,r3,r4,r5,r6,r7,r8,_⟩
   ·rcases O8 with⟨l1,l2⟩|⟨l1,l2,l3⟩
    ·rw[r2]at l1;cases l1
    ·subst l2 l3;obtain⟨zv,z1,z2⟩:=D6 v hm;refine⟨zv,z2,?_⟩;simp only[bz,bind,run_bind,Cv.run_underlying (hU BD),qJ Nf trivial,pure,cd,jT hu yo,wV hu r1,lq (cI z1)]
   ·rcases O8 with⟨l1,l2⟩|⟨l1,l2,l3⟩
    ·rw[r4]at l1;cases l1;subst l2;refine⟨pV ys,Vo hm r5,?_⟩;simp only[bz,bind,run_bind,Cv.run_underlying (hU BD),qJ Nf trivial,pure,cd,jT hu yo,wV hu r1,r6]
    ·rw[r4]at l1;cases l1
  obtain⟨y,hy,jg⟩:=run;refine⟨if ok then .tuple #[y,.bool b]else y,hk,?_,?_⟩
  ·cases ok
   ·exact hy
   ·simp only[cond_true,if_true,VR,gp,DR];exact⟨[y,.bool b],rfl,y,_,rfl,hy,_,_,rfl,⟨rfl,rfl⟩,rfl⟩
  ·simp only[ae,ho,e2,hi];exact yF jg
 all_goals(simp only[sr,ho]at h)
variable {P:ab} {k:Ko} {L:List HP} {E:Ev} {s:St} {w:af}
def yIx {α:Type _} {w:af} {f g:α->HP} (h:∀a x,f a x->g a x):∀{l:List α} {M:List HP} {hs:List PH},Hs w (l.map f++M) hs->Hs w (l.map g++M) hs
 |[],M,hs,H=>H
 |a::l,M,hs,H=>by
  simp only[jo,tv]at H ⊢;cases H with
  |cons ha iS hd hr=>exact .cons (h _ _ ha) iS hd (yIx h hr)
def wO {α:Type _} {f g:α->HP} (h:∀a x,f a x->g a x) {l:List α} {M:List HP} (H:Hp k w (l.map f++M)):Hp k w (l.map g++M):=
 ⟨H.1,let⟨hs,hh⟩:=H.2;⟨hs,yIx h hh⟩⟩
def UY {A:HP} {F:PH} {M:List HP} (H:Hp k w (A::fz F::M)):∃x,A x/\Dj x F/\Sub x w/\Hp k w (fz (un x F)::M):=by
 obtain⟨hk,hs,hh⟩:=H;cases hh with
 |cons ha iS hd hr=>
  cases hr with
  |cons hf wx Pj hr=>
   simp only[fz]at hf;obtain⟨rfl,hgt⟩:=hf;refine⟨_,ha,hd _ ji,iS,hk,_,.cons ⟨rfl,hgt.mono (λb o e=>by
    rcases hd _ ji b with h|h
    ·simp[un,h,e]
    ·rw[e]at h;cases h)⟩ (yNe iS wx) (λg hg=>z8f (hd g (jw _ hg)) (Pj g hg)) hr⟩
def Y' {x F:PH} (d:Dj x F):wv F (un x F):=λb o e=>by
 rcases d b with h|h
 ·simp[un,h,e]
 ·rw[e]at h;cases h
def Rel.new (R:Rel k L E s w) {o:ff} {O:Obj} {hd:Hd} (h:fi E.F o (E.fv++[hd]) hd (one w.heap.size O)):E.le ⟨E.F,E.fv++[hd]⟩/\Rel k L ⟨E.F,E.fv++[hd]⟩ (s.new o) (w.alloc O)/\(E.fv++[hd])[s.nx]? =ap hd:=by
 have hle:E.le ⟨E.F,E.fv++[hd]⟩:=⟨wv.refl _,IT _ _⟩
 have jv:(E.fv++[hd])[s.nx]? =ap hd:=by rw[<- R.nx];simp
 refine⟨hle,⟨by simp[St.new,R.nx],?_⟩,jv⟩;have H:=R.hp.new O;have H1:Hp k (w.alloc O) (s.rows.map (gu E)++(pt w.heap.size O::fz E.F::L)):=H.perm (mg (l₁:=s.rows.map (gu E))).symm;have H2:=wO (λr x=>gu.mono hle r) H1;have H3:Hp k (w.alloc O) (pt w.heap.size O::(s.rows.map (gu ⟨E.F,E.fv++[hd]⟩)++fz E.F::L)):=H2.perm mg;exact H3.imp λx hx=> .inr ⟨hd,jv,by rw[show x=one w.heap.size O from hx];exact h⟩
def Rel.freeze (R:Rel k L E s w) {n t sz:Nat} {eg:List (List D)} (h:s.get n=ap (.own t sz eg)):∃E',E.le E'/\E'.fv=E.fv/\Rel k L E' (s.set n (.ja sz eg)) w:=by
 have H:Hp k w (gu E (n,.own t sz eg)::fz E.F::((vH n s.rows).map (gu E)++L)):=(R.focus h).cons mg;obtain⟨x,hx,hd,iS,H⟩:=UY H;rcases hx with⟨e,_⟩|⟨hv,h1,h2⟩
 ·cases e
 simp only[fi]at h2;obtain⟨a,c,xs,h3,h4,h5,h6⟩:=h2;have hle:E.le ⟨un x E.F,E.fv⟩:=⟨Y' hd,IN _⟩
 refine⟨⟨un x E.F,E.fv⟩,hle,rfl,?_⟩;have H1:Hp k w ((vH n s.rows).map (gu E)++fz (un x E.F)::L):=H.perm mg.symm;have H2:=wO (λr x=>gu.mono hle r) H1;have H3:Hp k w (gu ⟨un x E.F,E.fv⟩ (n,.ja sz eg)::((vH n s.rows).map (gu ⟨un x E.F,E.fv⟩)++fz (un x E.F)::L)):=by
  have:=(@hP k w True _).2 ⟨trivial,H2⟩;refine this.imp λy hy=> .inr ⟨hv,h1,?_⟩
  simp only[fi];refine⟨hy.2,?_⟩;simp only[DR];refine⟨a,c,h3,(R9 h6).2,h5,?_⟩;rcases h6 with⟨rfl,q2,rfl,rfl,rfl⟩|⟨b,r,rfl,rfl,q3,q4,q5⟩
  ·exact .inl (xu q2)
  ·refine .inr ⟨b,0,xs++r,t,(0,0),rfl,?_,oJ.2 ⟨xs,r,rfl,h4.mono hle.1⟩⟩;simp[un,one]
 refine⟨by simpa[St.set]using R.nx,H3.perm ?_⟩;have:=(((vQ h).2 (.ja sz eg)).map (gu ⟨un x E.F,E.fv⟩)).append_right (fz (un x E.F)::L);simpa[St.set]using this.symm
def Kq (s:St):V->Option (D×St)
 | .d d=>ap (d,s)
 | .own n=>match s.get n with
   |some (.own _ sz eg)=>ap (.ro sz eg,s.set n (.ja sz eg))
   |some (.ja sz eg)=>ap (.ro sz eg,s)
   |_=>aq
 |_=>aq
def Om (s:St):List V->Option (List D×St)
 |[]=>ap ([],s)
 |v::l=>match Kq s v with
  |some (d,s')=>match Om s' l with
   |some (ds,s2)=>ap (d::ds,s2)
   |none=>aq
  |none=>aq
def NZ (R:Rel k L E s w) {v:V} {d:D} {s':St} (h:Kq s v=ap (d,s')) {y:aa} (hv:VR E v y):∃E',E.le E'/\E'.fv=E.fv/\Rel k L E' s' w/\s'.nx=s.nx/\DR E'.F d y:=by
 unfold Kq at h;split at h<;>first|(cases h;done)|skip
 ·cases h;exact⟨E,Ev.le.refl _,rfl,R,rfl,by simpa only[VR]using hv⟩
 ·rename_i n;simp only[VR]at hv;obtain⟨sub,h1,_⟩:=hv;split at h<;>first|(cases h;done)|skip
  ·rename_i t sz eg hg;cases h;obtain⟨E',q1,q2,q3⟩:=R.freeze hg;refine⟨E',q1,q2,q3,rfl,?_⟩;have py:(s.set n (.ja sz eg)).get n=ap (.ja sz eg):=by
    simp only[St.get,St.set];have:∀l:List (Nat×ff),eQ n l≠aq->eQ n (eF n (.ja sz eg) l)=ap (.ja sz eg):=by
     intro l
     induction l with
     |nil=>intro h;exact absurd rfl h
     |cons p l ih=>
      obtain⟨m,o⟩:=p;intro h;simp only[eQ,eF]at h ⊢;cases hb:bc m n
      ·rw[hb]at h;simp only[eQ,hb,cond_false]at h ⊢;exact ih h
      ·simp only[eQ,hb,cond_true]
    exact this _ (by simp only[St.get]at hg;rw[hg];simp)
   obtain⟨hd,x,e1,e2,e3⟩:=q3.row py (by simp);rw[q2,h1]at e1;cases e1;simp only[fi]at e2;exact e2.2
  ·rename_i sz eg hg;cases h;obtain⟨hd,x,e1,e2,e3⟩:=R.row hg (by simp);rw[h1]at e1;cases e1;simp only[fi]at e2;exact⟨E,Ev.le.refl _,rfl,R,rfl,e2.2⟩
def z7s:∀{vs:List V} {s:St} {E:Ev} (R:Rel k L E s w) {ds:List D} {s':St} (h:Om s vs=ap (ds,s')) {ys:List aa} (hv:gp E vs ys),
 ∃E',E.le E'/\E'.fv=E.fv/\Rel k L E' s' w/\s'.nx=s.nx/\iz E'.F ds ys
 |[],s,E,R,ds,s',h,ys,hv=>by
  simp only[Om,az,cq]at h;obtain⟨rfl,rfl⟩:=h;simp only[gp]at hv;exact⟨E,Ev.le.refl _,rfl,R,rfl,by simpa only[iz]using hv⟩
 |v::vs,s,E,R,ds,s',h,ys,hv=>by
  simp only[Om]at h;simp only[gp]at hv;obtain⟨y,ys,rfl,h1,h2⟩:=hv;split at h<;>first|(cases h;done)|skip
  rename_i d s1 hd;split at h<;>first|(cases h;done)|skip
  rename_i ds s2 hds;cases h;obtain⟨E1,q1,q2,q3,q4,q5⟩:=NZ R hd h1;obtain⟨E2,r1,r2,r3,r4,r5⟩:=z7s q3 hds (h2.mono q1);exact⟨E2,q1.trans r1,r2.trans q2,r3,r4.trans q4,by simp only[iz];exact⟨_,_,rfl,q5.mono r1.1,r5⟩⟩
def YY:D->Bool
 | .v (.slice aq 0 0)=>ar
 |_=>au
def lS (P:ab):List ac->List D->List D
 |t::ts,d::ds=>(match gE P t with
  |some sz=>bif YY d then .ro sz []else d
  |none=>d)::lS P ts ds
 |_,ds=>ds
def WD {F:PH}:∀{ts:List ac} {ds:List D} {ys:List aa},iz F ds ys->iz F (lS P ts ds) ys
 |[],ds,ys,h=>by unfold lS;exact h
 |t::ts,[],ys,h=>by unfold lS;exact h
 |t::ts,d::ds,ys,h=>by
  unfold lS;simp only[iz]at h ⊢;obtain⟨x,xs,rfl,h1,h2⟩:=h;refine⟨x,xs,rfl,?_,WD h2⟩;split
  ·cases hb:YY d
   ·exact h1
   ·unfold YY at hb;split at hb
    ·simp only[DR]at h1;obtain⟨rfl,_⟩:=h1;simp only[cond_true,DR];exact⟨aq,0,rfl,km _,by simp,.inl trivial⟩
    ·cases hb
  ·exact h1
def zUf:∀(ts:List ac) (ds:List D),(lS P ts ds).length=ds.length
 |[],ds=>by unfold lS;rfl
 |t::ts,[]=>by unfold lS;rfl
 |t::ts,d::ds=>by unfold lS;simp[zUf ts ds]
def HA (P:ab) (s:St) (t:ac) (v:V):Option (List D×St):=
 bif lA v then(match Om s v.cl with
  |some (ds,s')=>ap (lS P (N0 P 6 t) ds,s')
  |none=>aq)else aq
def mU {α:Type _} {b:Bool} {x:Option α} {v:α} (h:(bif b then x else aq)=ap v):b=ar/\x=ap v:=by
 cases b
 ·cases h
 ·exact⟨rfl,h⟩
def Mb (R:Rel k L E s w) {t:ac} {v:V} {ds:List D} {s':St} (h:HA P s t v=ap (ds,s')) {y:aa} (hv:VR E v y):
 ∃E' ys,E.le E'/\E'.fv=E.fv/\Rel k L E' s' w/\s'.nx=s.nx/\y.cells=ys.toArray/\iz E'.F ds ys:=by
 unfold HA at h;obtain⟨hb,h⟩:=mU h;split at h<;>first|(cases h;done)|skip
 rename_i ds0 s0 hf;cases h;obtain⟨l,hl,M7⟩:=VR.cells hb hv;obtain⟨E',q1,q2,q3,q4,q5⟩:=z7s R hf M7;exact⟨E',l,q1,q2,q3,q4,hl,WD q5⟩
variable {P:ab} {k:Ko} {L:List HP} {E:Ev} {s:St} {w:af}
def Et (F:PH) (T:Type) (m:Nat) (ix:T->Nat->ff) (x:T) (p:aa) (l0:List aa):HP:=λh=>
 ∃jm:List Hd,jm[0]? =ap (p,l0)/\jm.length=m/\hS ((av m).map λj=>λh=>∃oE,jm[j]? =ap oE/\fi F (ix x j) jm oE h) h
def xS (F:PH) (T:Type) (m:Nat) (ix:T->Nat->ff) (l:List T) (sub:List aa) (hole:Option Nat) (i:Nat):HP:=λh=>
 if hole=ap i then h=pe else ∃x p l0,l[i]? =ap x/\sub[i]? =ap p/\Et F T m ix x p l0 h
def TF (sub:List aa):Prop:=∀p∈sub,∃b oo,p=.pointer (ap ⟨b,oo,aq⟩)
def qj {F:PH} {t:Nat} {T:Type} {m:Nat} {ix:T->Nat->ff} {l:List T} {hole:Option Nat} {fv:List Hd} {hd:Hd} {h:PH}:
 fi F (.jt t T m ix l hole) fv hd h↔∃a c,hd.1= .slice a l.length c/\hd.2.length=l.length/\TF hd.2/\Pr (oa t 1 a l.length c hd.2) (hS ((av l.length).map (xS F T m ix l hd.2 hole))) h:=by
 simp only[fi];constructor
 ·rintro⟨a,c,h1,h2,h3,g,g',h4,h5,h6,h7⟩;refine⟨a,c,h1,h2,h3,g,g',h4,Kf (λi x hx=> ?_) h5,h6,h7⟩;unfold xS;split
  ·rename_i hi;rwa [fc hi]at hx
  ·rename_i hi;rw[ej hi]at hx;obtain⟨x,p,l0,jm,r1,r2,r3,r4,r5⟩:=hx;exact⟨x,p,l0,r1,r2,jm,r3,r4,r5⟩
 ·rintro⟨a,c,h1,h2,h3,g,g',h4,h5,h6,h7⟩;refine⟨a,c,h1,h2,h3,g,g',h4,Kf (λi x hx=> ?_) h5,h6,h7⟩;unfold xS at hx;split
  ·rename_i hi;rwa [fc hi]at hx
  ·rename_i hi;rw[ej hi]at hx;obtain⟨x,p,l0,r1,r2,jm,r3,r4,r5⟩:=hx;exact⟨x,p,l0,jm,r1,r2,r3,r4,r5⟩
def SG (R:Rel k L E s w) {n t:Nat} {T:Type} {m:Nat} {ix:T->Nat->ff} {l:List T} {hole:Option Nat} (h:s.get n=ap (.jt t T m ix l hole)):
 ∃a c sub,E.fv[n]? =ap (.slice a l.length c,sub)/\sub.length=l.length/\TF sub/\
  Hp k w (oa t 1 a l.length c sub::((av l.length).map (xS E.F T m ix l sub hole)++((vH n s.rows).map (gu E)++fz E.F::L))):=by
 obtain⟨hk,hs,hh⟩:=R.focus h;cases hh with
 |cons ha iS hd hr=>
  rcases ha with⟨e,_⟩|⟨⟨hv,sub⟩,h1,h2⟩
  ·cases e
  ·obtain⟨a,c,rfl,q2,q3,q4⟩:=qj.1 h2;refine⟨a,c,sub,h1,q2,q3,?_⟩;have H:Hp k w (Pr (oa t 1 a l.length c sub) (hS ((av l.length).map (xS E.F T m ix l sub hole)))::((vH n s.rows).map (gu E)++fz E.F::L)):=⟨hk,_,.cons q4 iS hd hr⟩
   have H1:=ug.1 H;have H2:=qi.1 H1.swap;exact H2.perm mg
def Ws {n t:Nat} {T:Type} {m:Nat} {ix:T->Nat->ff} {l:List T} {hole:Option Nat} {a:Option am} {c:Nat} {sub:List aa} {M:List HP}
 (ht:E.fv[n]? =ap (.slice a l.length c,sub)) (hl:sub.length=l.length) (hp:TF sub)
 (H:Hp k w (oa t 1 a l.length c sub::((av l.length).map (xS E.F T m ix l sub hole)++M))):Hp k w (gu E (n,.jt t T m ix l hole)::M):=by
 have H1:Hp k w ((av l.length).map (xS E.F T m ix l sub hole)++oa t 1 a l.length c sub::M):=H.perm mg.symm;have H2:=(qi.2 H1).swap;exact(ug.2 H2).imp λx hx=> .inr ⟨_,ht,qj.2 ⟨a,c,rfl,hl,hp,hx⟩⟩
def zLj {n i:Nat} (h:i<n):∃B,av n=av i++i::B/\∀j∈B,j≠i:=by
 refine⟨(av (n-i-1)).map (λj=>i+1+j),?_,λj hj=> ?_⟩
 ·have:n=i+(1+(n-i-1)):=by omega
  conv=>lhs;rw[this]
  rw[List.range_add,List.range_add,jk];simp[Function.comp_def,Dm]
 ·obtain⟨q,_,rfl⟩:=pk.1 hj;omega
def yHo (H:Hp k w L):Hp k w ((λh=>h=pe)::L):=((@hP k w True L).2 ⟨trivial,H⟩).imp λx hx=>hx.2
def yWs (H:Hp k w ((λh=>h=pe)::L)):Hp k w L:=((@hP k w True L).1 (H.imp λx hx=>⟨trivial,hx⟩)).2
def yIp {F:PH} {T:Type} {m:Nat} {ix:T->Nat->ff} {l:List T} {sub:List aa} {M:List HP} {i:Nat} {x:T} {p:aa} (hx:l[i]? =ap x) (hp:sub[i]? =ap p)
 (H:Hp k w ((av l.length).map (xS F T m ix l sub aq)++M)):∃l0,Hp k w (Et F T m ix x p l0::((av l.length).map (xS F T m ix l sub (ap i))++M)):=by
 have hi:i<l.length:=(jl.1 hx).1;obtain⟨B,hB,je⟩:=zLj hi;have e1:∀j,j≠i->xS F T m ix l sub aq j=xS F T m ix l sub (ap i) j:=λj hj=>by
  funext h;unfold xS;rw[ej (by simp),ej (by simp only[az];omega)]
 have e2:xS F T m ix l sub (ap i) i=λh=>h=pe:=by funext h;unfold xS;rw[fc rfl]
 have ea:(av i).map (xS F T m ix l sub (ap i))=(av i).map (xS F T m ix l sub aq):=ui λj hj=>(e1 j (by have:=BT.1 hj;omega)).symm
 have eb:B.map (xS F T m ix l sub (ap i))=B.map (xS F T m ix l sub aq):=ui λj hj=>(e1 j (je j hj)).symm
 rw[hB,jk,jo]at H ⊢;rw[ea,eb,e2];have H1:Hp k w (xS F T m ix l sub aq i::((av i).map (xS F T m ix l sub aq)++(B.map (xS F T m ix l sub aq)++M))):=by
  rw[jd]at H;exact H.perm mg
 obtain⟨l0,H2⟩:∃l0,Hp k w (Et F T m ix x p l0::((av i).map (xS F T m ix l sub aq)++(B.map (xS F T m ix l sub aq)++M))):=by
  obtain⟨hk,hs,hh⟩:=H1;cases hh with
  |cons ha iS hd hr=>
   unfold xS at ha;rw[ej (by simp)]at ha;obtain⟨x',p',l0,r1,r2,r3⟩:=ha;rw[hx]at r1;rw[hp]at r2;cases r1;cases r2;exact⟨l0,hk,_,.cons r3 iS hd hr⟩
 have H3:=yHo H2;rw[jd];refine⟨l0,H3.swap.cons ?_⟩;exact mg.symm
def yQr {F:PH} {T:Type} {m:Nat} {ix:T->Nat->ff} {l:List T} {sub:List aa} {M:List HP} {i:Nat} {x:T} {p:aa} {l0:List aa} (hi:i<l.length) (hp:sub[i]? =ap p)
 (H:Hp k w (Et F T m ix x p l0::((av l.length).map (xS F T m ix l sub (ap i))++M))):Hp k w ((av l.length).map (xS F T m ix (l.set i x) sub aq)++M):=by
 obtain⟨B,hB,je⟩:=zLj hi;have e1:∀j,j≠i->xS F T m ix (l.set i x) sub aq j=xS F T m ix l sub (ap i) j:=λj hj=>by
  funext h;unfold xS;rw[ej (by simp),ej (by simp only[az];omega),List.getElem?_set_ne (by omega)]
 have e2:xS F T m ix l sub (ap i) i=λh=>h=pe:=by funext h;unfold xS;rw[fc rfl]
 have ea:(av i).map (xS F T m ix (l.set i x) sub aq)=(av i).map (xS F T m ix l sub (ap i)):=ui λj hj=>e1 j (by have:=BT.1 hj;omega)
 have eb:B.map (xS F T m ix (l.set i x) sub aq)=B.map (xS F T m ix l sub (ap i)):=ui λj hj=>e1 j (je j hj)
 rw[hB,jk,jo,jd]at H ⊢;rw[e2]at H;rw[ea,eb];have H1:Hp k w ((λh=>h=pe)::Et F T m ix x p l0::((av i).map (xS F T m ix l sub (ap i))++(B.map (xS F T m ix l sub (ap i))++M))):=
  H.perm ((cm _ mg).trans (.swap _ _ _))
 have H2:=yWs H1;have H3:Hp k w (xS F T m ix (l.set i x) sub aq i::((av i).map (xS F T m ix l sub (ap i))++(B.map (xS F T m ix l sub (ap i))++M))):=H2.imp λh hh=>by
  unfold xS;rw[ej (by simp)];exact⟨x,p,l0,by rw[List.getElem?_set_self hi],hp,hh⟩
 exact H3.perm mg.symm
def yGw {F:PH} {T:Type} {m:Nat} {ix:T->Nat->ff} {l l2:List T} {sub rz:List aa} (hl:sub.length=l.length) {M:List HP}
 (H:Hp k w ((av l.length).map (xS F T m ix l sub aq)++((av l2.length).map (xS F T m ix l2 rz aq)++M))):
 Hp k w ((av (l++l2).length).map (xS F T m ix (l++l2) (sub++rz) aq)++M):=by
 rw[im,List.range_add,jk,vu,jd];have ea:(av l.length).map (xS F T m ix (l++l2) (sub++rz) aq)=(av l.length).map (xS F T m ix l sub aq):=ui λj hj=>by
  have hj:=BT.1 hj;funext h;unfold xS;rw[ej (by simp),ej (by simp),EC hj,EC (by omega)]
 have eb:(av l2.length).map ((xS F T m ix (l++l2) (sub++rz) aq)∘(l.length+·))=(av l2.length).map (xS F T m ix l2 rz aq):=ui λj hj=>by
  funext h;simp only[Function.comp];unfold xS;rw[ej (by simp),ej (by simp),Cy (by omega),Cy (by omega)];rw[show l.length+j-l.length=j by omega,show l.length+j-sub.length=j by omega]
 rw[ea,eb];exact H
def zLv {n:Nat} {T:Type} {m:Nat} {ix:T->Nat->ff} {x:T} {p:aa} {l0:List aa} (ht:E.fv[n]? =ap (p,l0)) {h:PH} (H:gu E (n,.qq T m ix x) h):Et E.F T m ix x p l0 h:=by
 rcases H with⟨e,_⟩|⟨hd,h1,h2⟩
 ·cases e
 ·rw[ht]at h1;cases h1;simp only[fi]at h2;exact h2
def z3c {n:Nat} {T:Type} {m:Nat} {ix:T->Nat->ff} {x:T} {p:aa} {l0:List aa} (ht:E.fv[n]? =ap (p,l0)) {h:PH} (H:Et E.F T m ix x p l0 h):gu E (n,.qq T m ix x) h:=
 .inr ⟨_,ht,by simp only[fi];exact H⟩
def Rel.out {A:HP} {E:Ev} {s:St} (R:Rel k (A::L) E s w):Hp k w (A::(s.rows.map (gu E)++fz E.F::L)):=by
 refine R.hp.perm ?_;have:(fz E.F::A::L).Perm (A::fz E.F::L):= .swap _ _ _;exact(this.append_left _).trans mg
def Rel.I0 {A:HP} {E:Ev} {s:St} (hn:E.fv.length=s.nx) (H:Hp k w (A::(s.rows.map (gu E)++fz E.F::L))):Rel k (A::L) E s w:=by
 refine⟨hn,H.perm ?_⟩;have:(fz E.F::A::L).Perm (A::fz E.F::L):= .swap _ _ _;exact((this.append_left _).trans mg).symm
def Rel.qc {A B:HP} {E:Ev} {s:St} (R:Rel k (A::L) E s w) (h:∀x,A x->B x):Rel k (B::L) E s w:=Rel.I0 R.nx (R.out.imp h)
def Rel.take {E:Ev} {s:St} (R:Rel k L E s w) {n:Nat} {o:ff} (h:s.get n=ap o):Rel k (gu E (n,o)::L) E (s.del n) w:=Rel.I0 R.nx (R.focus h)
def Rel.gf {E:Ev} {s:St} (R:Rel k L E s w) {n:Nat} {o:ff} (h:s.get n=ap o):Rel k (gu E (n,o)::L) E (s.HV n o) w:=by
 cases o with
 |ja sz eg=>
  obtain⟨hd,x,h1,h2,h3⟩:=R.row h (by simp);refine⟨R.nx,?_⟩;have H:Hp k w ((λh=>h=pe)::(s.rows.map (gu E)++fz E.F::L)):=yHo R.hp;simp only[fi]at h2;have H1:Hp k w (gu E (n,.ja sz eg)::(s.rows.map (gu E)++fz E.F::L)):=H.imp λy hy=> .inr ⟨hd,h1,by simp only[fi];exact⟨hy,h2.2⟩⟩
  refine H1.perm ?_;have:(gu E (n,.ja sz eg)::fz E.F::L).Perm (fz E.F::gu E (n,.ja sz eg)::L):= .swap _ _ _;exact mg.symm.trans (this.append_left _)
 |_=>exact R.take h
def Rel.HW (R:Rel k L E s w) {n t i:Nat} {T:Type} {m:Nat} {ix:T->Nat->ff} {l:List T} (h:s.get n=ap (.jt t T m ix l aq)) {x:T} (hx:l[i]? =ap x) {y:aa} (hv:VR E (.sub n i) y):
 ∃E1,E.le E1/\Rel k L E1 ((s.set n (.jt t T m ix l (ap i))).new (.qq T m ix x)) w/\VR E1 (.nm s.nx 0) y/\∃l0,E1.fv[s.nx]? =ap (y,l0):=by
 obtain⟨a,c,sub,h1,h2,h3,H⟩:=SG R h;simp only[VR]at hv;obtain⟨hd,l',b,oo,e1,e2,e3⟩:=hv;rw[h1]at e1;cases e1;obtain⟨l0,H1⟩:=yIp hx e2 (H.perm mg.symm);have H2:Hp k w (oa t 1 a l.length c sub::((av l.length).map (xS E.F T m ix l sub (ap i))++(Et E.F T m ix x y l0::((vH n s.rows).map (gu E)++fz E.F::L)))):=
  H1.perm ((mg.symm.trans (cn _ (.swap _ _ _))).trans mg)
 have H3:=(Ws h1 h2 h3 H2).swap;have H4:Hp k w (Et E.F T m ix x y l0::((eF n (.jt t T m ix l (ap i)) s.rows).map (gu E)++fz E.F::L)):=by
  refine H3.cons ?_;have:=(((vQ h).2 (.jt t T m ix l (ap i))).map (gu E)).append_right (fz E.F::L);simpa using this.symm
 have H5:Hp k w ((eF n (.jt t T m ix l (ap i)) s.rows).map (gu E)++(Et E.F T m ix x y l0::fz E.F::L)):=H4.perm mg.symm;have hle:E.le ⟨E.F,E.fv++[(y,l0)]⟩:=⟨wv.refl _,IT _ _⟩
 have jv:(E.fv++[((y,l0):Hd)])[s.nx]? =ap (y,l0):=by rw[<- R.nx];simp
 have H6:=wO (λr x=>gu.mono hle r) H5;have H7:Hp k w (Et E.F T m ix x y l0::((eF n (.jt t T m ix l (ap i)) s.rows).map (gu ⟨E.F,E.fv++[(y,l0)]⟩)++fz E.F::L)):=H6.perm mg;refine⟨⟨E.F,E.fv++[(y,l0)]⟩,hle,⟨by simp[St.new,St.set,R.nx],?_⟩,by simp only[VR];exact⟨b,oo,l0,by rw[jv,e3],e3⟩,l0,jv⟩;exact H7.imp λz hz=>z3c (E:=⟨E.F,E.fv++[(y,l0)]⟩) jv hz
def Rel.H9 (R:Rel k L E s w) {n t i z:Nat} {T:Type} {m:Nat} {ix:T->Nat->ff} {l:List T} {x:T} (ha:s.get z=ap (.qq T m ix x)) (h:(s.del z).get n=ap (.jt t T m ix l (ap i))) (hi:i<l.length)
 {y:aa} {l0:List aa} (hz:E.fv[z]? =ap (y,l0)) (hs:∀v sub,E.fv[n]? =ap (v,sub)->sub[i]? =ap y):Rel k L E ((s.del z).set n (.jt t T m ix (l.set i x) aq)) w:=by
 have R1:=R.take ha;obtain⟨a,c,sub,h1,h2,h3,H⟩:=SG R1 h;have hp:=hs _ _ h1;have H1:Hp k w (gu E (z,.qq T m ix x)::((av l.length).map (xS E.F T m ix l sub (ap i))++(oa t 1 a l.length c sub::((vH n (s.del z).rows).map (gu E)++fz E.F::L)))):=by
  refine H.perm ?_;have p1:((vH n (s.del z).rows).map (gu E)++fz E.F::gu E (z,.qq T m ix x)::L).Perm (gu E (z,.qq T m ix x)::((vH n (s.del z).rows).map (gu E)++fz E.F::L)):=
   (cn _ (.swap _ _ _)).trans mg
  refine(cm _ ((cn _ p1).trans mg)).trans ((cp _ _ _).trans (cm _ mg.symm))
 have H2:=yQr hi hp (H1.imp λq hq=>zLv hz hq);have H3:Hp k w (gu E (n,.jt t T m ix (l.set i x) aq)::((vH n (s.del z).rows).map (gu E)++fz E.F::L)):=by
  refine Ws (a:=a) (c:=c) (sub:=sub) (by rw[qp];exact h1) (by rw[qp];exact h2) h3 ?_;rw[qp];exact H2.perm mg
 refine⟨by simpa[St.set,St.del]using R1.nx,H3.perm ?_⟩;have:=(((vQ h).2 (.jt t T m ix (l.set i x) aq)).map (gu E)).append_right (fz E.F::L);simpa[St.set]using this.symm
def WT {rows:List (Nat×ff)} {nx t:Nat} {T:Type} {m:Nat} {ix:T->Nat->ff} {l:List T} {a:Option am} {c:Nat} {sub:List aa} (hn:E.fv.length=nx) (hl:sub.length=l.length) (hp:TF sub)
 (H:Hp k w (oa t 1 a l.length c sub::((av l.length).map (xS E.F T m ix l sub aq)++(rows.map (gu E)++fz E.F::L)))):
 ∃E',E.le E'/\Rel k L E' ⟨(nx,.jt t T m ix l aq)::rows,nx+1⟩ w/\VR E' (.own nx) (.slice a l.length c):=by
 have hle:E.le ⟨E.F,E.fv++[(.slice a l.length c,sub)]⟩:=⟨wv.refl _,IT _ _⟩
 have jv:(E.fv++[((.slice a l.length c,sub):Hd)])[nx]? =ap (.slice a l.length c,sub):=by rw[<- hn];simp
 refine⟨⟨E.F,E.fv++[(.slice a l.length c,sub)]⟩,hle,⟨by simp[hn],?_⟩,by simp only[VR];exact⟨sub,jv,_,_,_,rfl⟩⟩;have H0:Hp k w (rows.map (gu E)++(oa t 1 a l.length c sub::((av l.length).map (xS E.F T m ix l sub aq)++fz E.F::L))):=by
  refine H.perm ?_;refine(cm _ ?_).trans mg.symm;rw[<- jd,<- jd];exact co _ AR
 have H1:=wO (λr x=>gu.mono hle r) H0;have H2:Hp k w (oa t 1 a l.length c sub::((av l.length).map (xS E.F T m ix l sub aq)++(rows.map (gu ⟨E.F,E.fv++[(.slice a l.length c,sub)]⟩)++fz E.F::L))):=by
  refine H1.perm (mg.trans (cm _ ?_));rw[<- jd,<- jd];exact co _ AR
 exact Ws (E:=⟨E.F,E.fv++[(.slice a l.length c,sub)]⟩) jv hl hp H2
def oU (k:Ko) (L:List HP) (E:Ev) (K:V->St->Prop) (y:aa) (w':af):Prop:=∃E' v s',E.le E'/\Rel k L E' s' w'/\VR E' v y/\K v s'
@[reducible] def AY:=FuncId->List V->St->(V->St->Prop)->Prop
def HE (P:ab) (H:AY):Prop:=∀f args s K,H f args s K->∀(k:Ko) (L:List HP) (E:Ev) (w:af) (ys:List aa),Rel k L E s w->gp E args ys->mo P (callFunc f ys.toArray) w (oU k L E K)
structure SlI where
 e:ac
 sz:Nat
 ou:Nat
 z:List D
def nE (P:ab) (t:ac):Option SlI:=
 match vT P t with
 |some (e,sz,ou,z)=>bif bc z.size sz && z.toList.all (·.nv)then ap ⟨e,sz,ou,lS P (N0 P 6 e) (z.toList.map .v)⟩else aq
 |none=>aq
def ZX {F:PH}:∀{l:List aa},(l.all (·.nv))=ar->iz F (l.map .v) l
 |[],_=>by simp[iz]
 |y::l,h=>by
  simp only[List.all_cons,kx]at h;simp only[jo,iz,DR];exact⟨y,l,rfl,⟨rfl,h.1⟩,ZX h.2⟩
def fX {P:ab} {t:ac} {i:SlI} (h:nE P t=ap i):∃z,vT P t=ap (i.e,i.sz,i.ou,z)/\z.size=i.sz/\i.z.length=i.sz/\∀F,iz F i.z z.toList:=by
 unfold nE at h;split at h<;>first|(cases h;done)|skip
 rename_i e sz ou z hz;obtain⟨hb,h⟩:=mU h;cases h;simp only[kx]at hb;have h1:=iX hb.1;exact⟨z,hz,h1,by rw[zUf,ia,IV,h1],λF=>WD (ZX hb.2)⟩
def Mx {α:Type} (l:List α) (o:Nat) (vs:List α):List α:=l.take o++(vs++l.drop (o+vs.length))
def z3f {α:Type} {sz:Nat}:∀{eg:List (List α)} (i:Nat) (ds:List α),(∀el∈eg,el.length=sz)->i<eg.length->ds.length=sz->
 (eg.set i ds).flatten=Mx eg.flatten (i*sz) ds
 |[],i,ds,_,h,_=>by simp at h
 |el::eg,0,ds,hu,h,hd=>by
  simp only[Oz,AD,Mx,bg,Hc,yh,nw];rw[hd,<- hu el ji,List.drop_left]
 |el::eg,i+1,ds,hu,h,hd=>by
  have ih:=z3f (eg:=eg) i ds (λe he=>hu e (jw _ he)) (by simpa using h) hd;simp only[Oy,AD,Mx]at ih ⊢;rw[ih];have e1:=hu el ji;rw[zd,Ha (i*sz) sz,List.take_append,KB,e1];rw[og (show el.length<=sz+i*sz by omega),show sz+i*sz-sz=i*sz by omega,Hh (show el.length<=sz+i*sz+ds.length by omega),show sz+i*sz+ds.length-sz=i*sz+ds.length by omega];simp
def NT {F:PH} {ds es:List D} {l m:List aa} (h1:iz F ds l) (h2:iz F es m) (o:Nat):iz F (ds.take o++(es++ds.drop (o+es.length))) (jz l o m):=by
 unfold jz;rw[jd];have:=h2.length;rw[this];exact(h1.take o).append (h2.append (h1.drop _))
def Nt (P:ab) (e sz:Nat):St->List (Nat×V)->List (List D)->Option (List (List D)×St)
 |s,[],eg=>ap (eg,s)
 |s,(i,v)::ps,eg=>match HA P s e v with
  |some (ds,s')=>bif bc ds.length sz && bo i eg.length then Nt P e sz s' ps (eg.set i ds)else aq
  |none=>aq
def yRv {α:Type} {sz:Nat} {eg:List (List α)} {i:Nat} {ds:List α} (hu:∀el∈eg,el.length=sz) (hd:ds.length=sz):∀el∈eg.set i ds,el.length=sz:=by
 intro el oR;rcases List.mem_or_eq_of_mem_set oR with h|rfl
 ·exact hu el h
 ·exact hd
def zZh {P:ab} {k:Ko} {L:List HP} {w:af} {e sz:Nat}:∀{ps:List (Nat×V)} {E:Ev} {s:St} (R:Rel k L E s w) {eg kq:List (List D)} {s':St} {qs:List (Nat×aa)} {cs:List aa},
 Nt P e sz s ps eg=ap (kq,s')->BK E ps qs->(∀el∈eg,el.length=sz)->iz E.F eg.flatten cs->
 ∃E' B1,E.le E'/\E'.fv=E.fv/\Rel k L E' s' w/\s'.nx=s.nx/\(∀el∈kq,el.length=sz)/\kq.length=eg.length/\iz E'.F kq.flatten B1/\Instr.fill (λi=>ap (i*sz,sz)) cs.toArray qs=ap B1.toArray
 |[],E,s,R,eg,kq,s',qs,cs,h,hp,hu,hc=>by
  simp only[Nt,az,cq]at h;obtain⟨rfl,rfl⟩:=h;simp only[BK]at hp;subst hp;exact⟨E,cs,Ev.le.refl _,rfl,R,rfl,hu,rfl,hc,rfl⟩
 |(i,v)::ps,E,s,R,eg,kq,s',qs,cs,h,hp,hu,hc=>by
  simp only[Nt]at h;simp only[BK]at hp;obtain⟨y,qs,rfl,hv,hp⟩:=hp;split at h<;>first|(cases h;done)|skip
  rename_i ds s1 hd;obtain⟨hb,h⟩:=mU h;simp only[kx]at hb;have hlen:=iX hb.1;have hi:i<eg.length:=by simpa[xv]using hb.2
  obtain⟨E1,ys,q1,q2,q3,q4,q5,q6⟩:=Mb R hd hv;have UD:BK E1 ps qs:=by
   have:∀{ps:List (Nat×V)} {qs:List (Nat×aa)},BK E ps qs->BK E1 ps qs:=by
    intro ps
    induction ps with
    |nil=>intro qs h;exact h
    |cons p ps ih=>obtain⟨i,v⟩:=p;intro qs h;obtain⟨y,ys,h1,h2,h3⟩:=h;exact⟨y,ys,h1,h2.mono q1,ih h3⟩
   exact this hp
  have B0:iz E1.F (eg.set i ds).flatten (jz cs (i*sz) ys):=by
   rw[z3f i ds hu hi hlen];exact NT (hc.mono q1.1) q6 (i*sz)
  obtain⟨E2,B1,r1,r2,r3,r4,r5,r6,r7,r8⟩:=zZh q3 h UD (yRv hu hlen) B0;refine⟨E2,B1,q1.trans r1,r2.trans q2,r3,r4.trans q4,r5,by rw[r6,qp],r7,?_⟩;have CD:ys.length=sz:=by rw[q6.length,hlen]
  have vz:cs.length=eg.length*sz:=by rw[hc.length,jM hu]
  have vj:i*sz+sz<=eg.length*sz:=by
   have:=wj sz (show i+1<=eg.length by omega);rwa [zd]at this
  have aay:y.cells.size=sz:=by rw[q5,IQ,CD]
  have Hy:(decide (y.cells.size≠sz)||decide (i*sz+y.cells.size>cs.toArray.size))=au:=by
   rw[aay,IQ];simp;omega
  have Fh:y.cells.zipIdx.foldl (λ(cs:Array aa) (p:aa×Nat)=>cs.setIfInBounds (i*sz+p.2) p.1) cs.toArray=(jz cs (i*sz) ys).toArray:=by
   have hz:ys.toArray.zipIdx=(ys.zipIdx).toArray:=by
    apply cu;simp
   rw[q5,hz,List.foldl_toArray];rw[VY (off:=i*sz) ys 0 cs (by omega)];rfl
  simp only[Instr.fill];rw[ej (by rw[Hy];simp),Fh];exact r8
def sJ {z:List aa}:∀n,(Gq z.toArray (n*z.length)).toList=(aw n z).flatten
 |0=>by simp[Gq]
 |n+1=>by
  have ih:=sJ (z:=z) n;simp only[Gq,IQ]at ih ⊢;rw[KE,AD,<- ih,zd,Ha,List.range_add,jk];congr 1
  ·apply He;intro i;rw[uq];by_cases hi:i<z.length
   ·rw[KD hi];simp only[vw,Nat.mod_eq_of_lt hi];rw[np];rw[vd hi];rfl
   ·rw[tx (by simpa using Nat.not_lt.1 hi),tx (Nat.not_lt.1 hi)];rfl
  ·rw[vu];refine ui λj _=> ?_
   simp only[Function.comp,Nat.add_mod_left]
def Vh {F:PH} {ds:List D} {l:List aa} (h:iz F ds l):∀n,iz F (aw n ds).flatten (aw n l).flatten
 |0=>by simp[iz]
 |n+1=>by simp only[KE,AD];exact h.append (Vh h n)
def N7 {α:Type} {ds:List α} {n sz:Nat} (h:ds.length=sz):∀el∈aw n ds,el.length=sz:=by
 intro el oR;rw[(List.mem_replicate.1 oR).2];exact h
def zV (eg:List (List D)) (i f:Nat) (ds:List D):List (List D):=eg.modify i λel=>el.take f++(ds++el.drop (f+ds.length))
def TU:V->Bool
 | .top=>au
 | .agg _=>au
 | .iW _=>au
 |_=>ar
def Og:List V->Bool
 |[]=>ar
 |v::l=>bif TU v then Og l else au
def z2y {E:Ev}:∀{vs:List V} {l:List aa},Og vs=ar->gp E vs l->∀y∈l,y.nv=ar
 |[],l,_,h=>by simp only[gp]at h;subst h;simp
 |v::vs,l,hb,h=>by
  simp only[gp]at h;obtain⟨x,xs,rfl,h1,h2⟩:=h;simp only[Og]at hb;obtain⟨pz,mr⟩:TU v=ar/\Og vs=ar:=by
   revert hb;generalize TU v=b;cases b<;>simp
  intro y hy;rcases mf.1 hy with rfl|hy
  ·cases v<;>simp only[TU,oD]at pz<;>simp only[VR]at h1
   ·rename_i d;exact iz.one (F:=E.F) (vs:=[d]) (l:=[y]) (by simp only[iz];exact⟨_,_,rfl,h1,rfl⟩) y (by simp)
   ·obtain⟨_,_,_,_,rfl⟩:=h1;rfl
   ·obtain⟨_,_,_,_,_,_,rfl⟩:=h1;rfl
   ·obtain⟨_,_,_,_,_,_,_,rfl,_⟩:=h1;rfl
   ·obtain⟨_,_,_,_,rfl⟩:=h1;rfl
   ·obtain⟨_,_,_,_,_,rfl⟩:=h1;rfl
   ·obtain⟨_,_,_,rfl⟩:=h1;rfl
   ·obtain⟨_,_,_,_,_,_,rfl⟩:=h1;rfl
   ·obtain⟨_,_,rfl,_⟩:=h1;rfl
   ·obtain⟨_,rfl,_⟩:=h1;rfl
  ·exact z2y mr h2 y hy
def U4 (s:St) (sz:Nat):V->Option (List (List D))
 | .d (.v (.slice aq 0 0))=>ap []
 | .d (.v (.string b))=>bif bc sz 1 then ap (jF b)else aq
 |v=>match eB s v with
  |some (ot,eg)=>bif bc sz ot then ap eg else aq
  |none=>aq
def Vg (P:ab) (t1 t2:ac) (s:St) (x y:V) (K:V->St->Prop):Prop:=
 iC (nE P t1) λi=>bif Kg P t2 && bo 0 i.ou then iC (U4 s i.sz y) λys=>
  match x with
  | .d (.v (.slice aq 0 0))=>ys.length*i.ou<=140737488355328/\K (.own s.nx) (s.new (.own i.e i.sz ys))
  | .own n=>match s.get n with
    |some (.own T sz eg)=>bif bc T i.e && bc sz i.sz then(eg.length+ys.length)*i.ou<=140737488355328/\K (.own s.nx) ((s.del n).new (.own i.e i.sz (eg++ys)))else False
    |_=>False
  |_=>False else False
def TM:V->Bool
 | .agg l=> !(bc l.length 1)
 | .d _=>ar
 |_=>au
def L9:List V->St->(List V->St->Prop)->Prop
 |[],s,K=>K [] s
 |v::l,s,K=>match v with
  | .d (.ro sz eg)=>L9 l (s.new (.ja sz eg)) λl' s'=>K (.own s.nx::l') s'
  |v=>L9 l s λl' s'=>K (v::l') s'
def VW (P:ab) (t1 t2:ac) (s:St) (x y:V) (K:V->St->Prop):Prop:=
 match y with
 | .own n2=>(match s.get n2 with
   |some (.jt _ T2 m2 ux l2 aq)=>iC (nE P t1) λi=>bif Kg P t2 && bo 0 i.ou && bc i.sz 1 then(match x with
    | .d (.v (.slice aq 0 0))=>l2.length*i.ou<=140737488355328/\K (.own s.nx) ((s.del n2).new (.jt i.e T2 m2 ux l2 aq))
    | .own n=>(match(s.del n2).get n with
      |some (.jt t1' T1 m1 PG l1 aq)=>∃yl:List T2,ff.jt t1' T1 m1 PG l1 aq=ff.jt i.e T2 m2 ux yl aq/\(yl.length+l2.length)*i.ou<=140737488355328/\K (.own s.nx) (((s.del n2).del n).new (.jt i.e T2 m2 ux (yl++l2) aq))
      |_=>False)
    |_=>False)else False
   |_=>False)
 |_=>False
def yHg (s:St):V->Bool
 | .own n=>match Ke s n with
   |some _=>ar
   |none=>au
 |_=>au
def yTs (n i a:Nat) (v:V) (s:St) (K:V->St->Prop):Prop:=
 match s.get a with
 |some o=>(match(s.del a).get n with
  |some (.jt t T m ix l (ap j))=>∃x:T,o=.qq T m ix x/\j=i/\i<l.length/\K v ((s.del a).set n (.jt t T m ix (l.set i x) aq))
  |_=>False)
 |none=>False
def ZU (H:AY) (f:FuncId) (args:List V) (s:St) (K:V->St->Prop):Prop:=
 match args with
 | .sub n i::rest=>(match s.get n with
   |some (.jt t T m ix l aq)=>∃x:T,l[i]?=ap x/\H f (.nm s.nx 0::rest) ((s.set n (.jt t T m ix l (ap i))).new (.qq T m ix x)) λv s'=>yTs n i s.nx v s' K
   |_=>False)
 |args=>H f args s K
def TK (P:ab) (t:ac):Option ac:=
 match P.underlying t with
 |some (.slice e)=>(match P.underlying e with
  |some (.int .u8)=>ap e
  |_=>aq)
 |_=>aq
def zUz {P:ab} {t e:ac} (h:TK P t=ap e):P.underlying t=ap (.slice e)/\P.underlying e=ap (.int .u8):=by
 unfold TK at h;split at h<;>first|(cases h;done)|skip
 rename_i e' he;split at h<;>first|(cases h;done)|skip
 rename_i hu;cases h;exact⟨he,hu⟩
def U2:List (Nat×V)->Option Nat
 |[(0,.nm m 0)]=>ap m
 |_=>aq
def Wh (P:ab) (t:ac) (x:wg) (n sz i f:Nat) (v:V) (s:St) (K:V->St->Prop):Prop:=
 bif bc sz x.sz then(match v,gE P t with
  | .own c,ap _=>(match s.get c with
    |some (.own _ _ _)=>iC (nS P t) λm=>bif bc m 1 && !(bc n c)then(i<x.eg.length/\f<sz)/\(match x.q with
     |true=>(i=x.i/\f=x.f)/\K (.iW []) (s.set n (.vi ar x.T sz x.eg x.i x.f ar (ap c)))
     |false=>(i=x.i->f=x.f->K (.iW []) (s.set n (.vi au x.T sz x.eg x.i x.f ar (ap c))))/\(x.f<sz/\(¬(i=x.i/\f=x.f)->match HA P s t (.own c)with
      |some (ds,s')=>(match mV s' n with
       |some y=>bif bc ds.length 1 then y=x/\K (.iW []) (s'.set n (.vi x.q x.T sz (zV x.eg i f ds) x.i x.f x.b x.m))else False
       |none=>False)
      |none=>False)))else False
    |_=>False)
  |v,_=>(match HA P s t v with
   |some (ds,s')=>(match mV s' n with
    |some y=>iC (nS P t) λm=>bif bc ds.length m then(y=x/\i<x.eg.length/\f+m<=sz/\x.clear i f m)/\K (.iW []) (s'.set n (.vi x.q x.T sz (zV x.eg i f ds) x.i x.f x.b x.m))else False
    |none=>False)
   |none=>False))else False
def se (P:ab) (H:AY) (o:ak) (ρ:xA) (s:St) (K:V->St->Prop):Prop:=
 match o.op with
 | .alloc e=>iC (nD P e) λz=>bif lA (Cz z)then K (.nm s.nx 0) (s.new (.cells (Cz z).cl e))else False
 | .box e x=>bif lA (lh ρ x)then L9 (lh ρ x).cl s λvs s=>K (.nm s.nx 0) (s.new (.cells vs e))else False
 | .buildSlice t len ps=>match U2 (Kb ρ ps.toList)with
   |some m=>(match s.get m with
    |some (.qq T mm ix x)=>iC (nE P t) λi=>bif bc i.sz 1 && bc len 1 then K (.own s.nx) ((s.del m).new (.jt i.e T mm ix [x] aq))else False
    |_=>False)
   |none=>iC (nE P t) λi=>bif be (len*i.sz) 16777216 then match Nt P i.e i.sz s (Kb ρ ps.toList) (aw len i.z)with
   |some (eg,s')=>K (.own s'.nx) (s'.new (.own i.e i.sz eg))
   |none=>False else False
 | .makeMap _ aq=>K (.mp s.nx) (s.new (.map []))
 | .makeSlice t l c=>match lh ρ l,lh ρ c with
   | .d (.v (.int _ l)),.d (.v (.int _ c))=>iC (nE P t) λi=>(0<=l/\l<=c/\c<=9223372036854775807/\(i.ou:Int)*c<=2 ^ 48)/\K (.own s.nx) (s.new (.own i.e i.sz (aw l.toNat i.z)))
   |_,_=>False
 | .store t x v=>match lh ρ x with
   | .nm n off=>bif lA (lh ρ v)then L9 (lh ρ v).cl s λus s=>match s.get n with
     |some (.cells vs T)=>iC (nS P t) λm=>bif bc us.length m && be (off+m) vs.length && Og us then
       K (.iW []) (s.set n (.cells (vs.take off++(us++vs.drop (off+m))) T))else False
     |_=>False
     else False
   | .el n sz i f=>match mV s n with
     |some x=>Wh P t x n sz i f (lh ρ v) s K
     |none=>match HA P s t (lh ρ v)with
     |some (ds,s')=>match s'.get n with
      |some (.own T ot eg)=>iC (nS P t) λm=>bif bc sz ot && bc ds.length m && be (f+m) sz then i<eg.length/\K (.iW []) (s'.set n (.own T sz (zV eg i f ds)))else False
      |some (.Gy T eg)=>iC (nS P t) λm=>bif bc sz 1 && bc ds.length 1 && bc m 1 && bc f 0 then i<eg.length/\K (.iW []) (s'.set n (.Gy T (zV eg i 0 ds)))else False
      |_=>False
     |none=>False
   | .na n off i=>match lh ρ v with
     | .d (.v u)=>(match s.get n with
       |some (.cells vs T)=>iC (nS P t) λm=>bif bc m 1 then i<(vs.drop off).length/\K (.iW []) (s.set n (.cells (vs.take off++(vs.drop off).set i (.d (.v u))) T))else False
       |some (.vec ds T)=>iC (nS P t) λm=>bif bc m 1 then i<(ds.drop off).length/\K (.iW []) (s.set n (.vec (ds.take off++(ds.drop off).set i (.v u)) T))else False
       |_=>False)
     |_=>False
   |_=>False
 | .slice t x lo hi aq=>match lh ρ x with
   | .own n=>match s.get n with
     |some (.own T sz eg)=>iC (gE P t) λot=>bif bc sz ot then DS (Gg ρ lo) (Gg ρ hi) λl h=>match l,h with
      |none,aq=>K (.own n) s
      |none,ap h=>(0<=h/\h<=eg.length)/\K (.own s.nx) ((s.del n).new (.own T sz (eg.take h.toNat)))
      |some l,h=>Mv sz eg (ap l) h λv=>K v (s.set n (.ja sz eg))else False
     |some (.ja sz eg)=>iC (gE P t) λot=>bif bc sz ot then DS (Gg ρ lo) (Gg ρ hi) λl h=>Mv sz eg l h λv=>K v s else False
     |_=>False
   |_=>False
 | .mapUpdate t x i v=>match lh ρ x with
   | .mp n=>iC (Gf P t) λke=>iC (Gl (lh ρ i)) λkv=>bif MC P ke.1 kv && TM (lh ρ v)then(match HA P s ke.2 (lh ρ v)with
     |some (ds,s')=>(match s'.get n with
      |some (.map es)=>sC kv es/\K (.iW []) (s'.set n (.map (u6 kv ds es)))
      |_=>False)
     |none=>False)else False
   |_=>False
 | .mapEntry t x i=>match lh ρ x with
   | .mp n=>iC (Gf P t) λke=>iC (Gl (lh ρ i)) λkv=>bif MC P ke.1 kv then iC (LZ P ke.2) λz=>(match s.get n with
     |some (.map es)=>sC kv es/\∃b,Hi P ke.2 λds=>LK es kv z ds b/\iC (Gz P ke.2 ds) λv=>∀x:Int,K (.iW [v,.d (.v (.int .i64 x))]) (s.set n (.B8 (u6 kv ds es) kv x))
     |_=>False)else False
   |_=>False
 | .entryStore t x st v=>match lh ρ x with
   | .mp n=>(match lh ρ st with
     | .d (.v (.int _ b))=>iC (Gf P t) λke=>bif TM (lh ρ v)then(match HA P s ke.2 (lh ρ v)with
       |some (ds,s')=>(match s'.get n with
        |some (.B8 es kv b')=>b=b'/\sC kv es/\K (.iW []) (s'.set n (.map (u6 kv ds es)))
        |_=>False)
       |none=>False)else False
     |_=>False)
   |_=>False
 | .convert st d x=>match lh ρ x with
   | .d (.v (.string b))=>bif Ka P st then iC (TK P d) λe=>K (.own s.nx) (s.new (.Gy e (jF b)))else False
   | .own n=>match s.get n with
     |some (.own T sz eg)=>bif bc st d && bc sz 1 then iC (TK P d) λe=>bif bc T e then 1<=eg.length/\K (.own n) (s.set n (.ja sz eg))else False else False
     |_=>False
   |_=>False
 | .range t x=>match lh ρ x with
   | .d (.v (.string b))=>bif Ka P t then K (.nm s.nx 0) (s.new (.iter b 0))else False
   |_=>False
 | .next x ar=>match lh ρ x with
   | .nm n 0=>match s.get n with
     |some (.iter b pos)=>dp (bo pos b.size)
       (K (.iW [.d (.v (.bool ar)),.d (.v (.int .i64 (pos:Nat))),.d (.v (.int .i32 (Utf8.decode b pos).1))]) (s.set n (.iter b (pos+(Utf8.decode b pos).2))))
       (K (.iW [.d (.v (.bool au))]) s)
     |_=>False
   |_=>False
 | .call c=>match c.callee with
   | .value x=>match lh ρ x with
     | .fn f a b=>ZU H f (a++(CJ ρ c.args.toList++b)) s K
     |_=>False
   | .builtin .append=>match c.argTypes.toList with
     |[t1,t2]=>match CJ ρ c.args.toList with
      |[x,y]=>bif yHg s y then VW P t1 t2 s x y K else Vg P t1 t2 s x y K
      |_=>False
     |_=>False
   | .builtin .delete=>match CJ ρ c.args.toList with
     |[.mp n,y]=>iC c.argTypes[0]? λt=>iC (Gf P t) λke=>iC (Gl y) λkv=>bif MC P ke.1 kv then(match s.get n with
      |some (.map es)=>sC kv es/\K (.iW []) (s.set n (.map (Bx kv es)))
      |_=>False)else False
     |_=>False
   |_=>False
 |_=>False
def uG {P:ab} {w:af} {r:Nat} {O O':Obj} (h:w.heap[r]? =ap O') (hO:match O' with| .cells _ _ _=>False|_=>True):(setObj r O).run P w= .ok () (World.iR w r O):=by
 simp only[setObj,cd,h];cases O'<;>first|exact hO.elim|rfl
def mL {sz:Nat}:∀{eg:List (List D)} (i f:Nat) (ds:List D),(∀el∈eg,el.length=sz)->i<eg.length->f+ds.length<=sz->
 (zV eg i f ds).flatten=Mx eg.flatten (i*sz+f) ds/\∀el∈zV eg i f ds,el.length=sz
 |[],i,f,ds,_,h,_=>by simp at h
 |el::eg,0,f,ds,hu,h,hd=>by
  have e1:=hu el ji;constructor
  ·simp only[zV,List.modify_zero_cons,AD,Mx,bg,nw];rw[xq (by omega),ED (by omega)];simp
  ·intro e he;simp only[zV,List.modify_zero_cons,mf]at he;rcases he with rfl|he
   ·simp only[im,oe,oV];omega
   ·exact hu e (jw _ he)
 |el::eg,i+1,f,ds,hu,h,hd=>by
  have e1:=hu el ji;obtain⟨Ur,Uq⟩:=mL (eg:=eg) i f ds (λe he=>hu e (jw _ he)) (by simpa using h) hd;constructor
  ·simp only[zV,OE,AD,Mx]at Ur ⊢;rw[Ur,zd,List.take_append,KB,e1];rw[og (show el.length<=i*sz+sz+f by omega),show i*sz+sz+f-sz=i*sz+f by omega,Hh (show el.length<=i*sz+sz+f+ds.length by omega),show i*sz+sz+f+ds.length-sz=i*sz+f+ds.length by omega];simp
  ·intro e he;simp only[zV,OE,mf]at he Uq;rcases he with rfl|he
   ·exact e1
   ·exact Uq e he
def zSp {P:ab} {w:af} {t b o:Nat} {v y:aa} {l:List aa} {T:ac} (hz:nS P t=ap 1) (hc:v.cells= #[y]) (ho:o<l.length) (h1:y.nv=ar)
 (hb:w.heap[b]? =ap (.cells l.toArray T (l.length,l.length+1))):Gp P (storeVar t ⟨b,o,aq⟩ v) w (World.iR w b (.cells (l.set o y).toArray T (l.length,l.length+1))):=by
 have Rg:w.cell? ⟨b,o,aq⟩=ap l[o]:=by rw[SX hb];exact vd ho
 have hf:w.frozen? ⟨b,o,aq⟩=au:=by
  simp only[World.frozen?,hb];simp;omega
 have qd:w.setCell ⟨b,o,aq⟩ y=World.iR w b (.cells (l.set o y).toArray T (l.length,l.length+1)):=by
  unfold World.setCell World.iR;congr 1;apply OA;intro i;rw[Array.getElem?_modify,OL];have gr:b<w.heap.size:=by
   rcases uo b w.heap.size with h|h
   ·exact h
   ·rw[Gx h]at hb;cases hb
  by_cases hi:b=i
  ·subst hi;have mr:w.heap[b]= .cells l.toArray T (l.length,l.length+1):=by rw[OJ gr]at hb;exact ba hb
   simp[gr,mr]
  ·simp[hi]
 have h0:(store ⟨b,o,aq⟩ y).run P w= .ok () (World.iR w b (.cells (l.set o y).toArray T (l.length,l.length+1))):=by
  unfold store;cases y<;>first|(cases h1;done)|(simp only[cd,Rg,hf,oD,if_false,qd])
 unfold nS at hz;split at hz<;>first|(cases hz;done)|skip
 rename_i i hi;have hz:i.size=1:=ba hz;unfold Gp storeVar;simp only[bind,run_bind,run_sizeOf hi,hc,hz];simp only[IQ,iD,tp];have e:(storeCells ⟨b,o,aq⟩ [y] 0).run P w= .ok () (World.iR w b (.cells (l.set o y).toArray T (l.length,l.length+1))):=by
  unfold storeCells;simp only[bind,run_bind,uD,Ey,h0];unfold storeCells;rfl
 simpa using e
def u7 {P:ab} {w:af} {t b o n:Nat} {v:aa} {l vs:List aa} {T:ac} (hz:nS P t=ap n) (hc:v.cells=vs.toArray) (hn:vs.length=n) (ho:o+n<=l.length) (h1:∀y∈vs,y.nv=ar)
 (hb:w.heap[b]? =ap (.cells l.toArray T)):Gp P (storeVar t ⟨b,o,aq⟩ v) w (World.iR w b (.cells (jz l o vs).toArray T)):=by
 unfold nS at hz;split at hz<;>first|(cases hz;done)|skip
 rename_i i hi;cases hz;unfold Gp storeVar;have:=wP (P:=P) vs 0 o l w hb (by omega) h1;simp only[Ey]at this;simp only[bind,run_bind,run_sizeOf hi,hc,IQ,hn];simpa using this
end Sx
