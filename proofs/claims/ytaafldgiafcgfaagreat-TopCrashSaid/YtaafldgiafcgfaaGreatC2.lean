/- Texts of ours. No condition. -/
import Derived.Laws.Cover1
import Derived.Laws.StructEq
import Derived.MapKept
import Derived.Test.YtaafldgiafcgfaaGreatC1
set_option linter.all false
open Go renaming Value->aa,Program->ab,TypeId->ac,execOp->ae,World->af,Operand->ag,MapEntry->aj,Oper->ak,Addr->am,IntKind->ao
open Option renaming some->ap,none->aq
open Bool renaming true->ar,false->au
open List renaming range->av,replicate->aw,take_append->ax,drop_take->ay
open Option.some renaming injEq->az,inj->ba
open Nat renaming beq->bc,ble->be,zero_mul->bg,blt->bo
open Go.Instr renaming findNow->bu,typeAssert->bv,lookup->bz
open Go.Sem renaming run->cd,bind->ce,pure->cf
open Go.Op renaming operands->cg,equalIn->ci
open List.Perm renaming cons->cm,append_left->cn,append_right->co,swap->cp
open Prod.mk renaming injEq->cq
open Go.Builtin renaming len_->cr,firstCells->ct
open Array renaming ext'->cu
namespace Sx
open Go Go.RowKit Cv
def VRL.length {E:Ev}:∀{vs:List V} {l:List aa},VRL E vs l->l.length=vs.length
 |[],l,h=>by simp only[VRL]at h;subst h;rfl
 |v::vs,l,h=>by simp only[VRL]at h;obtain⟨x,xs,rfl,h1,h2⟩:=h;simp[h2.length]
def VRL.get {E:Ev}:∀{vs:List V} {l:List aa},VRL E vs l->∀{i:Nat} {v:V},vs[i]? =ap v->∃y,l[i]? =ap y/\VR E v y
 |[],l,h,i,v,e=>by simp at e
 |v::vs,l,h,i,u,e=>by
  simp only[VRL]at h;obtain⟨x,xs,rfl,h1,h2⟩:=h;cases i with
  |zero=>simp at e;subst e;exact⟨x,rfl,h1⟩
  |succ i=>simp at e ⊢;exact h2.get e
def VRL.take {E:Ev}:∀{vs:List V} {l:List aa},VRL E vs l->∀(n:Nat),VRL E (vs.take n) (l.take n)
 |[],l,h,n=>by simp only[VRL]at h;subst h;simp[VRL]
 |v::vs,l,h,n=>by
  simp only[VRL]at h;obtain⟨x,xs,rfl,h1,h2⟩:=h;cases n with
  |zero=>simp[VRL]
  |succ n=>simp only[y6l,VRL];exact⟨_,_,rfl,h1,h2.take n⟩
def VRL.drop {E:Ev}:∀{vs:List V} {l:List aa},VRL E vs l->∀(n:Nat),VRL E (vs.drop n) (l.drop n)
 |[],l,h,n=>by simp only[VRL]at h;subst h;simp[VRL]
 |v::vs,l,h,n=>by
  have h0:=h;simp only[VRL]at h;obtain⟨x,xs,rfl,h1,h2⟩:=h;cases n with
  |zero=>exact h0
  |succ n=>simp only[List.drop_succ_cons];exact h2.drop n
def VRL.append {E:Ev}:∀{vs:List V} {l:List aa},VRL E vs l->∀{us:List V} {m:List aa},VRL E us m->VRL E (vs++us) (l++m)
 |[],l,h,us,m,h'=>by simp only[VRL]at h;subst h;exact h'
 |v::vs,l,h,us,m,h'=>by
  simp only[VRL]at h;obtain⟨x,xs,rfl,h1,h2⟩:=h;simp only[y6t,VRL];exact⟨_,_,rfl,h1,h2.append h'⟩
def VRL.one {E:Ev} {v:V} {y:aa} (h:VR E v y):VRL E [v] [y]:=by simp only[VRL];exact⟨_,_,rfl,h,rfl⟩
def VRL.nil {E:Ev}:VRL E [] []:=by simp only[VRL]
def DRL.length {F:PH}:∀{vs:List D} {l:List aa},DRL F vs l->l.length=vs.length
 |[],l,h=>by simp only[DRL]at h;subst h;rfl
 |v::vs,l,h=>by simp only[DRL]at h;obtain⟨x,xs,rfl,h1,h2⟩:=h;simp[h2.length]
def DRL.append {F:PH}:∀{vs:List D} {l:List aa},DRL F vs l->∀{us:List D} {m:List aa},DRL F us m->DRL F (vs++us) (l++m)
 |[],l,h,us,m,h'=>by simp only[DRL]at h;subst h;exact h'
 |v::vs,l,h,us,m,h'=>by
  simp only[DRL]at h;obtain⟨x,xs,rfl,h1,h2⟩:=h;simp only[y6t,DRL];exact⟨_,_,rfl,h1,h2.append h'⟩
def DRL.split {F:PH}:∀{vs us:List D} {l:List aa},DRL F (vs++us) l->∃l1 l2,l=l1++l2/\DRL F vs l1/\DRL F us l2
 |[],us,l,h=>⟨[],l,rfl,by simp only[DRL],h⟩
 |v::vs,us,l,h=>by
  simp only[y6t,DRL]at h;obtain⟨x,xs,rfl,h1,h2⟩:=h;obtain⟨l1,l2,rfl,h3,h4⟩:=h2.split;exact⟨x::l1,l2,rfl,by simp only[DRL];exact⟨_,_,rfl,h1,h3⟩,h4⟩
def DRL.take {F:PH}:∀{vs:List D} {l:List aa},DRL F vs l->∀(n:Nat),DRL F (vs.take n) (l.take n)
 |[],l,h,n=>by simp only[DRL]at h;subst h;simp[DRL]
 |v::vs,l,h,n=>by
  simp only[DRL]at h;obtain⟨x,xs,rfl,h1,h2⟩:=h;cases n with
  |zero=>simp[DRL]
  |succ n=>simp only[y6l,DRL];exact⟨_,_,rfl,h1,h2.take n⟩
def DRL.drop {F:PH}:∀{vs:List D} {l:List aa},DRL F vs l->∀(n:Nat),DRL F (vs.drop n) (l.drop n)
 |[],l,h,n=>by simp only[DRL]at h;subst h;simp[DRL]
 |v::vs,l,h,n=>by
  have h0:=h;simp only[DRL]at h;obtain⟨x,xs,rfl,h1,h2⟩:=h;cases n with
  |zero=>exact h0
  |succ n=>simp only[List.drop_succ_cons];exact h2.drop n
def DRL.one {F:PH}:∀{vs:List D} {l:List aa},DRL F vs l->∀v∈l,v.oneC=ar
 |[],l,h=>by simp only[DRL]at h;subst h;simp
 |v::vs,l,h=>by
  simp only[DRL]at h;obtain⟨x,xs,rfl,h1,h2⟩:=h;intro u hu;rcases y5w.1 hu with rfl|hu
  ·cases v with
   |v y=>simp only[DR]at h1;rw[h1.1];exact h1.2
   |ro sz els=>simp only[DR]at h1;obtain⟨a,c,rfl,_⟩:=h1;rfl
  ·exact h2.one u hu
def DRL.get {F:PH}:∀{vs:List D} {l:List aa},DRL F vs l->∀{i:Nat} {v:D},vs[i]? =ap v->∃y,l[i]? =ap y/\DR F v y
 |[],l,h,i,v,e=>by simp at e
 |v::vs,l,h,i,u,e=>by
  simp only[DRL]at h;obtain⟨x,xs,rfl,h1,h2⟩:=h;cases i with
  |zero=>simp at e;subst e;exact⟨x,rfl,h1⟩
  |succ i=>simp at e ⊢;exact h2.get e
def DRL.vrl {E:Ev}:∀{vs:List D} {l:List aa},DRL E.F vs l->VRL E (vs.map .d) l
 |[],l,h=>by simp only[DRL]at h;subst h;simp[VRL]
 |v::vs,l,h=>by
  simp only[DRL]at h;obtain⟨x,xs,rfl,h1,h2⟩:=h;simp only[y5p,VRL,VR];exact⟨_,_,rfl,h1,h2.vrl⟩
def DRS_iff {F:PH}:∀{els:List (List D)} {l:List aa},DRS F els l↔∃xs r,l=xs++r/\DRL F els.flatten xs
 |[],l=>by simp only[DRS,List.flatten_nil,true_iff,DRL];exact⟨[],l,rfl,rfl⟩
 |el::els,l=>by
  simp only[DRS,y7o];constructor
  ·rintro⟨l1,l2,rfl,h1,h2⟩;obtain⟨xs,r,rfl,h3⟩:=DRS_iff.1 h2;exact⟨l1++xs,r,by simp,h1.append h3⟩
  ·rintro⟨xs,r,rfl,h⟩;obtain⟨l1,l2,rfl,h1,h2⟩:=h.split;exact⟨l1,l2++r,by simp,h1,DRS_iff.2 ⟨l2,r,rfl,h2⟩⟩
def jN {α:Type} {sz:Nat}:∀{els:List (List α)},(∀el∈els,el.length=sz)->els.flatten.length=els.length*sz
 |[],_=>by simp
 |el::els,h=>by
  rw[y7o,y5a,h el y5h,jN (λe he=>h e (y5j _ he)),y5g,y8a];omega
def nT {α:Type} {sz:Nat}:∀{els:List (List α)} (i:Nat),(∀el∈els,el.length=sz)->els.flatten.drop (i*sz)=(els.drop i).flatten
 |[],i,_=>by simp
 |el::els,0,h=>by simp
 |el::els,i+1,h=>by
  rw[y7o,List.drop_succ_cons,<- nT i (λe he=>h e (y5j _ he)),y8a,xAj,<- y8l];rw[show(el++els.flatten).drop sz=els.flatten by rw[<- h el y5h,List.drop_left]]
def pD {α:Type} {sz:Nat}:∀{els:List (List α)} (i:Nat),(∀el∈els,el.length=sz)->els.flatten.take (i*sz)=(els.take i).flatten
 |[],i,_=>by simp
 |el::els,0,h=>by simp
 |el::els,i+1,h=>by
  rw[y7o,y6l,y7o,<- pD i (λe he=>h e (y5j _ he)),y8a,xAj,ax,h el y5h];simp[h el y5h];rw[y5n (by rw[h el y5h];omega)]
def zHy {α:Type} {sz:Nat} {els:List (List α)} {i f n:Nat} {el:List α} (h:∀el∈els,el.length=sz) (hi:els[i]? =ap el) (hf:f+n<=sz):(els.flatten.drop (i*sz+f)).take n=(el.drop f).take n:=by
 have hm:=y5m hi;have hlt:i<els.length:=(y5f.1 hi).1;rw[<- y8l,nT i h];have:els.drop i=el::els.drop (i+1):=by
  rw[y7j hlt];congr 1;exact(y5f.1 hi).2
 rw[this,y7o,y7t (by rw[h el hm];omega),y5y (by rw[y5z,h el hm];omega)]
def okc:aa->Bool
 | .agg cs=>cs.toList.all (·.oneC)
 | .tuple cs=>cs.toList.all (·.oneC)
 |_=>ar
def toV (x:aa):V:=
 bif okc x then(match x with
 | .agg cs=> .agg (cs.toList.map λy=> .d (.v y))
 | .tuple cs=> .tup (cs.toList.map λy=> .d (.v y))
 |x=> .d (.v x))else .top
def yFw {E:Ev}:∀{l:List aa},(l.all (·.oneC))=ar->VRL E (l.map λy=> .d (.v y)) l
 |[],_=>by simp[VRL]
 |y::l,h=>by
  simp only[List.all_cons,y5o]at h;simp only[y5p,VRL,VR,DR];exact⟨y,l,rfl,⟨rfl,h.1⟩,yFw h.2⟩
def zPl (E:Ev) (x:aa):VR E (toV x) x:=by
 unfold toV;cases h:okc x
 ·simp[VR]
 ·cases x<;>simp only[cond_true,VR,DR]<;>first|exact⟨rfl,rfl⟩|exact⟨trivial,rfl⟩|(rename_i cs;exact⟨cs.toList,by simp,yFw h⟩)
@[reducible] def y8:=Nat->V
def sev (ρ:y8):ag->V
 | .tmp t=>ρ t
 | .const x=>toV x
 | .func f=> .fn f [] []
 | .global _=> .top
def lD (ρ:y8):Option Nat->V->y8
 |none,_=>ρ
 |some d,v=>λi=>bif bc i d then v else ρ i
def EnvR (E:Ev) (ρS:y8) (ρ:Env):Prop:=∀t,VR E (ρS t) (ρ t)
def EnvR.ev {E:Ev} {ρS:y8} {ρ:Env} (h:EnvR E ρS ρ) (x:ag):VR E (sev ρS x) (ev ρ x):=by
 cases x with
 |tmp t=>exact h t
 |const v=>exact zPl E v
 |func f=>simp only[sev,Cv.ev,VR];exact⟨[],[],rfl,VRL.nil,VRL.nil⟩
 |global g=>simp only[sev,VR]
def EnvR.put {E:Ev} {ρS:y8} {ρ:Env} (h:EnvR E ρS ρ) (d:Option Nat) {v:V} {y:aa} (hv:VR E v y):EnvR E (lD ρS d v) (Cv.put ρ d y):=by
 cases d with
 |none=>exact h
 |some d=>
  intro t;simp only[lD,Cv.put];cases bc t d
  ·exact h t
  ·exact hv
def EnvR.mono {E E':Ev} (h:E.le E') {ρS:y8} {ρ:Env} (e:EnvR E ρS ρ):EnvR E' ρS ρ:=λt=>(e t).mono h
def evs (ρ:y8):List ag->List V
 |[]=>[]
 |x::l=>sev ρ x::evs ρ l
def yFm {E:Ev} {ρS:y8} {ρ:Env} (h:EnvR E ρS ρ):∀(l:List ag),VRL E (evs ρS l) (l.map (ev ρ))
 |[]=>by simp[evs,VRL]
 |x::l=>by simp only[evs,y5p,VRL];exact⟨_,_,rfl,h.ev x,yFm h l⟩
def bD {E:Ev} {ρS:y8} {ρ:Env} (h:EnvR E ρS ρ) (l:Array ag):∃ys:List aa,l.map (ev ρ)=ys.toArray/\VRL E (evs ρS l.toList) ys:=
 ⟨l.toList.map (ev ρ),by apply cu;simp,yFm h _⟩
def zZr:List V->Option (List aa)
 |[]=>ap []
 | .d (.v x)::l=>match zZr l with
   |some r=>ap (x::r)
   |none=>aq
 |_::_=>aq
def zQi:V->Option aa
 | .d (.v x)=>ap x
 | .agg l=>match zZr l with
   |some r=>ap (.agg r.toArray)
   |none=>aq
 | .fn f [] []=>ap (.func (.func f) #[] #[])
 |_=>aq
def zYs {E:Ev}:∀{l:List V} {r ys:List aa},zZr l=ap r->VRL E l ys->ys=r
 |[],r,ys,h,e=>by simp only[zZr,az]at h;subst h;simpa only[VRL]using e
 |v::l,r,ys,h,e=>by
  simp only[VRL]at e;obtain⟨x,xs,rfl,h1,h2⟩:=e;unfold zZr at h;split at h
  ·rename_i heq;cases heq
  ·rename_i x' l' heq;cases heq;simp only[VR,DR]at h1;split at h<;>first|(cases h;done)|skip
   rename_i r' hr;cases h;rw[h1.1,zYs hr h2]
  ·cases h
def rN {E:Ev} {v:V} {x y:aa} (h:zQi v=ap x) (e:VR E v y):y=x:=by
 unfold zQi at h;split at h
 ·cases h;simp only[VR,DR]at e;exact e.1
 ·rename_i l;split at h<;>first|(cases h;done)|skip
  rename_i r hr;cases h;simp only[VR]at e;obtain⟨ys,rfl,h2⟩:=e;rw[zYs hr h2]
 ·cases h;simp only[VR]at e;obtain⟨as,bs,rfl,h2,h3⟩:=e;simp only[VRL]at h2 h3;subst h2 h3;rfl
 ·cases h
def lfy (ρ:y8):ag->Bool
 | .tmp t=>match zQi (ρ t)with
   |some _=>ar
   |none=>au
 |_=>ar
def yKz (ρ:y8):List ag->Bool
 |[]=>ar
 |x::l=>bif lfy ρ x then yKz ρ l else au
def yPj (ρ:y8):Env:=λt=>match zQi (ρ t)with
 |some x=>x
 |none=>undef
def ySj {E:Ev} {ρS:y8} {ρ:Env} (h:EnvR E ρS ρ) {x:ag} (hl:lfy ρS x=ar):ev (yPj ρS) x=ev ρ x:=by
 cases x with
 |tmp t=>
  simp only[lfy]at hl;split at hl<;>first|(cases hl;done)|skip
  rename_i y hy;simp only[Cv.ev,yPj,hy];exact(rN hy (h t)).symm
 |_=>rfl
def z5r {E:Ev} {ρS:y8} {ρ:Env} (h:EnvR E ρS ρ):∀{l:List ag},yKz ρS l=ar->∀x∈l,ev (yPj ρS) x=ev ρ x
 |[],_,x,hx=>by cases hx
 |y::l,hl,x,hx=>by
  simp only[yKz]at hl;cases hy:lfy ρS y with
  |false=>rw[hy]at hl;cases hl
  |true=>
   rw[hy]at hl;rcases y5w.1 hx with rfl|hx
   ·exact ySj h hy
   ·exact z5r h hl x hx
def zFz:Op->Bool
 | .binOp _ _ _ _ _=>ar
 | .unOp _ _ _=>ar
 | .convert _ _ _=>ar
 | .index _ _ _=>ar
 | .nilCheck _=>ar
 | .slice _ _ _ _ aq=>ar
 | .call {callee:= .builtin _,..}=>ar
 |_=>au
def yBj {ρ ρ':Env} {o:ak} (hp:zFz o.op=ar) (h:∀x∈o.op.operands.toList,ev ρ x=ev ρ' x):ae (ev ρ) o=ae (ev ρ') o:=by
 obtain⟨dst,op,ty,pos,after,gd⟩:=o;cases op<;>simp only[zFz,y5v]at hp
 case binOp a b x y c=>simp only[cg,y5w,xAr,or_false,forall_eq_or_imp,forall_eq]at h;simp only[ae,h]
 case unOp a b x=>simp only[cg,y5w,xAr,or_false,forall_eq]at h;simp only[ae,h]
 case convert a b x=>simp only[cg,y5w,xAr,or_false,forall_eq]at h;simp only[ae,h]
 case index a x y=>simp only[cg,y5w,xAr,or_false,forall_eq_or_imp,forall_eq]at h;simp only[ae,h]
 case nilCheck x=>simp only[cg,y5w,xAr,or_false,forall_eq]at h;simp only[ae,h]
 case slice a x lo hi mx=>
  cases mx with
  |some m=>simp[zFz]at hp
  |none=>
   have hl:lo.map (ev ρ)=lo.map (ev ρ'):=by
    cases lo with
    |none=>rfl
    |some z=>simp only[y7e];rw[h z (by simp[cg])]
   have hh:hi.map (ev ρ)=hi.map (ev ρ'):=by
    cases hi with
    |none=>rfl
    |some z=>simp only[y7e];rw[h z (by simp[cg])]
   simp only[ae,hl,hh,h x (by simp[cg])];rfl
 case call c=>
  obtain⟨callee,args,ats⟩:=c;cases callee<;>simp only[zFz,y5v]at hp
  have ha:args.map (ev ρ)=args.map (ev ρ'):=by
   apply Array.map_congr_left;intro x hx;exact h x (by simp[cg,Call.operands,hx])
  simp only[ae,resolve,ha]
def z2b (P:ab) (t:ac) (x y:aa):Option Bool:=
 match P.underlying t with
 |some (.int _)=>match x with
  | .int k a=>match y with
    | .int k' b=>bif keq k k' then ap (a==b)else aq
    |_=>aq
  |_=>aq
 |some .string=>match x with
  | .string a=>match y with
    | .string b=>ap (a==b)
    |_=>aq
  |_=>aq
 |some .bool=>match x with
  | .bool a=>match y with
    | .bool b=>ap (a==b)
    |_=>aq
  |_=>aq
 |_=>aq
def z1x (P:ab) (xs ys:List aa):List Field->Option Bool
 |[]=>ap ar
 | f :: fs => bif f.name == "_" then none else match xs[f.offset]?, ys[f.offset]? with
   |some x,ap y=>match z2b P f.type x y with
    |some a=>match z1x P xs ys fs with
     |some b=>ap (a && b)
     |none=>aq
    |none=>aq
   |_,_=>aq
def yLk (P:ab) (f:Field) (xs ys:List aa):Option Bool:=
 match P.underlying f.type with
 |some (.struct gs)=>match zKn P f.type with
  |some n=>bif P.stoodInHeld f.type then aq else z1x P ((xs.drop f.offset).take n) ((ys.drop f.offset).take n) gs.toList
  |none=>aq
 |_=>match xs[f.offset]?,ys[f.offset]? with
  |some x,ap y=>z2b P f.type x y
  |_,_=>aq
def zQr (P:ab) (xs ys:List aa):List Field->Option Bool
 |[]=>ap ar
 | f :: fs => bif f.name == "_" then none else match yLk P f xs ys with
   |some a=>match zQr P xs ys fs with
    |some b=>ap (a && b)
    |none=>aq
   |none=>aq
def yGw (P:ab) (t:ac) (xs ys:List aa):Option Bool:=
 match P.underlying t with
 |some (.struct fs)=>bif P.stoodInHeld t then aq else zQr P xs ys fs.toList
 |_=>aq
def zAu {P:ab} {t:ac} {x y:aa} {b:Bool} (h:z2b P t x y=ap b):zDd P t=ar:=by
 unfold z2b at h;unfold zDd;split at h<;>first|(cases h;done)|skip
 all_goals(rename_i he;rw[he])
def zWz {P:ab} {t:ac} {x y:aa} {b:Bool} {d:Nat} (h:z2b P t x y=ap b) (w:af):(ci (d+1) t x y).run P w= .ok b w:=by
 unfold z2b at h;split at h<;>first|(cases h;done)|skip
 all_goals
  rename_i he;split at h<;>first|(cases h;done)|skip
  split at h<;>first|(cases h;done)|skip
  unfold ci;simp only[bind,pure,run_bind,Cv.run_underlying he]
 ·obtain⟨hk,hb⟩:=yT h;clear h;have:=zRv hk;subst this;cases hb;simp only[if_true,cd]
 ·cases h;rfl
 ·cases h;rfl
def zEt {P:ab} {t off:Nat} {cs:List aa} {v:aa} (hs:zDd P t=ar) (h:cs[off]? =ap v) (w:af):(part t cs.toArray off).run P w= .ok v w:=by
 unfold part;have:cs.toArray[off]? =ap v:=by simp[h]
 simp only[bind,run_bind,mB hs w,y5v,if_false,this];rfl
def zTe {P:ab} (w:af) {xs ys:List aa} {σ:Type} {s0:σ} {fin:σ} {F:Field->σ->Sem (ForInStep σ)}
 (hF : ∀ f x y b, (f.name == "_") = false -> xs[f.offset]? = some x -> ys[f.offset]? = some y -> z2b P f.type x y = some b -> (F f s0).run P w = .ok (if b then .yield s0 else .done fin) w) :
 ∀{fs:List Field} {b:Bool},z1x P xs ys fs=ap b->((forIn fs s0 F):Sem σ).run P w= .ok (if b then s0 else fin) w
 |[],b,h=>by
  simp only[z1x,az]at h;subst h;rfl
 |f::fs,b,h=>by
  simp only[z1x]at h;have hn : (f.name == "_") = false := by
   cases hb : (f.name == "_")
   ·rfl
   ·rw[hb]at h;cases h
  rw[hn]at h;simp only[cond_false]at h;split at h<;>first|(cases h;done)|skip
  rename_i x y hx hy;split at h<;>first|(cases h;done)|skip
  rename_i a ha;split at h<;>first|(cases h;done)|skip
  rename_i b' hb;cases h;have h1:=hF f x y a hn hx hy ha;have ih:=zTe (P:=P) w hF hb;simp only[List.forIn_cons,bind,run_bind,h1];cases a
  ·rfl
  ·simpa using ih
def zUu {P:ab} {t:ac} {fs:Array Field} {xs ys:List aa} {b:Bool} {d:Nat} (hfs:P.underlying t=ap (.struct fs)) (hst:P.stoodInHeld t=au) (h:z1x P xs ys fs.toList=ap b) (w:af):
 (ci (d+2) t (.agg xs.toArray) (.agg ys.toArray)).run P w= .ok b w:=by
 unfold ci;simp only[bind,pure,run_bind,Cv.run_underlying hfs,program,cd,ce,hst,y5v,if_false];rw[<- Array.forIn_toList];have := zTe (P := P) (xs := xs) (ys := ys) w (σ := Option Bool × Unit) (s0 := (none, ())) (fin := (some false, ())) (F := λf __s => if f.name ≠ "_" then
  (part f.type xs.toArray f.offset).bind λx=>(part f.type ys.toArray f.offset).bind λy=>(ci (d+1) f.type x y).bind λc=>
    if(!c)=ar then cf (ForInStep.done (ap au,()))else cf (ForInStep.yield (aq,()))
  else cf (ForInStep.yield (aq,()))) (by
  intro f x y c hn hx hy hc;have hne : f.name ≠ "_" := by simpa using hn
  simp only[hne,ne_eq,not_false_eq_true,if_true,run_bind,zEt (zAu hc) hx,zEt (zAu hc) hy,zWz (d:=d) hc];cases c<;>rfl) h
 rw[this];cases b<;>rfl
def zFx {P:ab} {t off n:Nat} {cs:List aa} (hs:zKn P t=ap n) (w:af):(part t cs.toArray off).run P w= .ok (.agg ((cs.drop off).take n).toArray) w:=by
 obtain⟨h1,h2⟩:=cD hs w;unfold part;have e:cs.toArray.extract off (off+n)=((cs.drop off).take n).toArray:=by
  rw[List.extract_toArray,List.extract_eq_take_drop];simp
 simp only[bind,pure,run_bind,h1,if_true,h2,cd,e]
def zMm {P:ab} (w:af) {xs ys:List aa} {σ:Type} {s0:σ} {fin:σ} {F:Field->σ->Sem (ForInStep σ)}
 (hF : ∀ f b, (f.name == "_") = false -> yLk P f xs ys = some b -> (F f s0).run P w = .ok (if b then .yield s0 else .done fin) w) :
 ∀{fs:List Field} {b:Bool},zQr P xs ys fs=ap b->((forIn fs s0 F):Sem σ).run P w= .ok (if b then s0 else fin) w
 |[],b,h=>by
  simp only[zQr,az]at h;subst h;rfl
 |f::fs,b,h=>by
  simp only[zQr]at h;have hn : (f.name == "_") = false := by
   cases hb : (f.name == "_")
   ·rfl
   ·rw[hb]at h;cases h
  rw[hn]at h;simp only[cond_false]at h;split at h<;>first|(cases h;done)|skip
  rename_i a ha;split at h<;>first|(cases h;done)|skip
  rename_i b' hb;cases h;have h1:=hF f a hn ha;have ih:=zMm (P:=P) w hF hb;simp only[List.forIn_cons,bind,run_bind,h1];cases a
  ·rfl
  ·simpa using ih
def yJd {P:ab} {f:Field} {xs ys:List aa} {b:Bool} (h:yLk P f xs ys=ap b) (w:af):
 ∃x y,(part f.type xs.toArray f.offset).run P w= .ok x w/\(part f.type ys.toArray f.offset).run P w= .ok y w/\(ci 9999 f.type x y).run P w= .ok b w:=by
 unfold yLk at h;split at h
 ·rename_i gs hgs;split at h<;>first|(cases h;done)|skip
  rename_i n hn;have hst:P.stoodInHeld f.type=au/\z1x P ((xs.drop f.offset).take n) ((ys.drop f.offset).take n) gs.toList=ap b:=by
   revert h;cases P.stoodInHeld f.type<;>intro h
   ·exact⟨rfl,h⟩
   ·cases h
  exact⟨_,_,zFx hn w,zFx hn w,zUu (d:=9997) hgs hst.1 hst.2 w⟩
 ·split at h<;>first|(cases h;done)|skip
  rename_i x y hx hy;exact⟨x,y,zEt (zAu h) hx w,zEt (zAu h) hy w,zWz (d:=9998) h w⟩
def yAo {P:ab} {t:ac} {xs ys:List aa} {b:Bool} (h:yGw P t xs ys=ap b) (w:af):(Op.equal t (.agg xs.toArray) (.agg ys.toArray)).run P w= .ok b w:=by
 unfold yGw at h;split at h<;>first|(cases h;done)|skip
 rename_i fs hfs;have hst:P.stoodInHeld t=au/\zQr P xs ys fs.toList=ap b:=by
  revert h;cases P.stoodInHeld t<;>intro h
  ·exact⟨rfl,h⟩
  ·cases h
 rw[mI];unfold ci;simp only[bind,pure,run_bind,Cv.run_underlying hfs,program,cd,ce,hst.1,y5v,if_false];rw[<- Array.forIn_toList];have := zMm (P := P) (xs := xs) (ys := ys) w (σ := Option Bool × Unit) (s0 := (none, ())) (fin := (some false, ())) (F := λf __s => if f.name ≠ "_" then
  (part f.type xs.toArray f.offset).bind λx=>(part f.type ys.toArray f.offset).bind λy=>(ci 9999 f.type x y).bind λc=>
    if(!c)=ar then cf (ForInStep.done (ap au,()))else cf (ForInStep.yield (aq,()))
  else cf (ForInStep.yield (aq,()))) (by
  intro f c hn hc;have hne : f.name ≠ "_" := by simpa using hn
  obtain⟨x,y,r1,r2,r3⟩:=yJd hc w;simp only[hne,ne_eq,not_false_eq_true,if_true,run_bind,r1,r2,r3];cases c<;>rfl) hst.2
 rw[this];cases b<;>rfl
def V.cl:V->List V
 | .agg l=>l
 |v=>[v]
def z8k (P:ab) (t:ac) (cs:List V) (off:Nat):Option V:=
 match zKn P t with
 |some sz=>ap (.agg ((cs.drop off).take sz))
 |none=>bif zDd P t then cs[off]? else aq
def optK {α:Type} (x:Option α) (K:α->Prop):Prop:=
 match x with
 |some v=>K v
 |none=>False
def zL {α:Type} {x:Option α} {K:α->Prop} (h:optK x K):∃v,x=ap v/\K v:=by
 cases x with
 |none=>exact h.elim
 |some v=>exact⟨v,rfl,h⟩
def zJi {P:ab} {E:Ev} {t:ac} {cs:List V} {ys:List aa} {off:Nat} {v:V} (hr:VRL E cs ys) (h:z8k P t cs off=ap v):∃y,VR E v y/\∀w,(part t ys.toArray off).run P w= .ok y w:=by
 unfold z8k at h;split at h
 ·rename_i sz hs;simp only[az]at h;subst h;refine⟨.agg ((ys.drop off).take sz).toArray,?_,λw=> ?_⟩
  ·simp only[VR];exact⟨_,rfl,(hr.drop off).take sz⟩
  obtain⟨h1,h2⟩:=cD hs w;unfold part;simp only[bind,run_bind,h1,h2,if_true,pure,cd];congr 3;simp[List.extract_eq_take_drop]
 ·rename_i hs;obtain⟨hb,h⟩:=yT h;obtain⟨y,h1,h2⟩:=hr.get h;refine⟨y,h2,λw=> ?_⟩;unfold part;have:ys.toArray[off]? =ap y:=by simp[h1]
  simp only[bind,run_bind,mB hb w,y5v,if_false,this];rfl
def zRt (place:Nat->Option (Nat×Nat)):List (Nat×V)->List V->Option (List V)
 |[],cs=>ap cs
 |(i,v)::rest,cs=>
  match place i with
  |none=>aq
  |some (off,size)=>bif bc v.cl.length size && be (off+size) cs.length then zRt place rest (cs.take off++(v.cl++cs.drop (off+size)))else aq
def PRL (E:Ev):List (Nat×V)->List (Nat×aa)->Prop
 |[],l=>l=[]
 |(i,v)::ps,l=>∃y ys,l=(i,y)::ys/\VR E v y/\PRL E ps ys
def eZ:V->Bool
 | .top=>au
 |_=>ar
def VR.cells {E:Ev} {v:V} {y:aa} (ht:eZ v=ar) (h:VR E v y):∃l,y.cells=l.toArray/\VRL E v.cl l:=by
 cases v
 case agg l=>simp only[VR]at h;obtain⟨ys,rfl,h⟩:=h;exact⟨ys,rfl,h⟩
 case top=>cases ht
 case d x=>
  have h0:=h;simp only[VR]at h;refine⟨[y],?_,VRL.one h0⟩;cases x with
  |v x=>simp only[DR]at h;obtain⟨rfl,h⟩:=h;cases y<;>first|rfl|cases h
  |ro sz els=>simp only[DR]at h;obtain⟨a,c,rfl,_⟩:=h;rfl
 case nm n o=>have h0:=h;simp only[VR]at h;obtain⟨b,oo,l,h1,rfl⟩:=h;exact⟨[_],rfl,VRL.one h0⟩
 case el n sz i f=>have h0:=h;simp only[VR]at h;obtain⟨b,oo,m,c,l,h1,rfl⟩:=h;exact⟨[_],rfl,VRL.one h0⟩
 case re sz els i f=>have h0:=h;simp only[VR]at h;obtain⟨_,_,b,o,l,T,fr,rfl,_⟩:=h;exact⟨[_],rfl,VRL.one h0⟩
 case na n o i=>have h0:=h;simp only[VR]at h;obtain⟨b,oo,l,h1,rfl⟩:=h;exact⟨[_],rfl,VRL.one h0⟩
 case own n=>have h0:=h;simp only[VR]at h;obtain⟨l,h1,a,m,c,rfl⟩:=h;exact⟨[_],rfl,VRL.one h0⟩
 case mp n=>have h0:=h;simp only[VR]at h;obtain⟨b,l,h1,rfl⟩:=h;exact⟨[_],rfl,VRL.one h0⟩
 case sub n i=>have h0:=h;simp only[VR]at h;obtain⟨hd,l,b,oo,h1,h2,rfl⟩:=h;exact⟨[_],rfl,VRL.one h0⟩
 case tup l=>have h0:=h;simp only[VR]at h;obtain⟨ys,rfl,h⟩:=h;exact⟨[_],rfl,VRL.one h0⟩
 case fn f a b=>have h0:=h;simp only[VR]at h;obtain⟨as,bs,rfl,h⟩:=h;exact⟨[_],rfl,VRL.one h0⟩
 case ifc t x=>have h0:=h;simp only[VR]at h;obtain⟨z,rfl,h⟩:=h;exact⟨[_],rfl,VRL.one h0⟩
def z9h:List (Nat×V)->Bool
 |[]=>ar
 |p::l=>bif eZ p.2 then z9h l else au
def eH {E:Ev} {place:Nat->Option (Nat×Nat)}:∀{ps:List (Nat×V)} {cs r:List V} {qs:List (Nat×aa)} {ys:List aa},z9h ps=ar->zRt place ps cs=ap r->PRL E ps qs->VRL E cs ys->
 ∃zs,Instr.fill place ys.toArray qs=ap zs.toArray/\VRL E r zs
 |[],cs,r,qs,ys,_,h,hp,hc=>by
  simp only[zRt,az]at h;simp only[PRL]at hp;subst h hp;exact⟨ys,rfl,hc⟩
 |(i,v)::ps,cs,r,qs,ys,ht,h,hp,hc=>by
  simp only[zRt]at h;simp only[PRL]at hp;obtain⟨y,qs,rfl,hv,hp⟩:=hp;simp only[z9h]at ht;cases hnt:eZ v<;>rw[hnt]at ht<;>simp only[cond_false,cond_true,y5v]at ht
  obtain⟨l,hl,hvl⟩:=VR.cells hnt hv;split at h<;>first|(cases h;done)|skip
  rename_i off size hpl;obtain⟨hb,h⟩:=yT h;simp only[y5o]at hb;have h1:=y5e hb.1;have h2:=y7i hb.2;have e1:=hvl.length;have e2:=hc.length;have hsz:y.cells.size=size:=by rw[hl,y9j,e1,h1]
  have hbb:(decide (y.cells.size≠size)||decide (off+y.cells.size>ys.toArray.size))=au:=by
   rw[hsz,y9j];simp;omega
  have hc':VRL E (cs.take off++(v.cl++cs.drop (off+size))) (ys.take off++(l++ys.drop (off+size))):=(hc.take off).append (hvl.append (hc.drop _));obtain⟨zs,q1,q2⟩:=eH ht h hp hc';refine⟨zs,?_,q2⟩;simp only[Instr.fill,hpl];have hfold:y.cells.zipIdx.foldl (λ(cs:Array aa) (p:aa×Nat)=>cs.setIfInBounds (off+p.2) p.1) ys.toArray=(ys.take off++(l++ys.drop (off+size))).toArray:=by
   have hz:l.toArray.zipIdx=(l.zipIdx).toArray:=by
    apply cu;simp
   rw[hl,hz,List.foldl_toArray];rw[zNw (off:=off) l 0 ys (by omega)];simp only[spl,y9n,e1,h1,y5i]
  rw[y5b (by rw[hbb];simp),hfold];exact q1
def mU (P:ab) (t:ac):Option aa:=
 match P.info? t with
 |some i=>i.zero
 |none=>aq
def z3r (P:ab) (t:ac) (ps:List (Nat×V)):Option V:=
 match mU P t with
 |some z=>bif eZ (toV z) && z9h ps then(match yJg P t with
  |some pl=>match yHx pl with
   |some _=>match zRt (zUn pl) ps (toV z).cl with
    |some cs=>ap (.agg cs)
    |none=>aq
   |none=>aq
  |none=>match zKt P t with
   |some (_,_,sz)=>match zRt (λi=>ap (i*sz,sz)) ps (toV z).cl with
    |some cs=>ap (.agg cs)
    |none=>aq
   |none=>aq)else aq
 |none=>aq
def dQ {P:ab} {t:ac} {z:aa} (h:mU P t=ap z):zero? P t=ap z:=by
 unfold mU at h;unfold zero?;split at h
 ·rename_i i hi;rw[hi];exact h
 ·cases h
def zUh {P:ab} {E:Ev} {t:ac} {ps:List (Nat×V)} {qs:List (Nat×aa)} {v:V} (hp:PRL E ps qs) (h:z3r P t ps=ap v):
 ∃y,VR E v y/\∀w,(Instr.build t qs.toArray).run P w= .ok y w:=by
 unfold z3r at h;split at h<;>first|(cases h;done)|skip
 rename_i z hz;have hzr:=λw=>zero_run (dQ hz) w
 obtain⟨hb,h⟩:=yT h;simp only[y5o]at hb;obtain⟨zl,hzl,hzv⟩:=VR.cells (E:=E) hb.1 (zPl E z);split at h
 ·rename_i pl hpl;split at h<;>first|(cases h;done)|skip
  rename_i L hL;split at h<;>first|(cases h;done)|skip
  rename_i cs hcs;simp only[az]at h;subst h;have hpl':=zSy hL;subst hpl';unfold yJg at hpl;split at hpl<;>first|(cases hpl;done)|skip
  rename_i fs hfs;simp only[az]at hpl;have hpa:(λi=>L.toArray[i]?)=zUn (L.map ap):=by
   funext i;unfold zUn;simp only[y7d,y6q];cases L[i]? <;>rfl
  obtain⟨zs,hf,hzs⟩:=eH hb.2 hcs hp hzv;refine⟨.agg zs.toArray,by simp only[VR];exact⟨zs,rfl,hzs⟩,λw=> ?_⟩;have hm:=zMn w hpl;have hmA:((fs.mapM λf=>(do pure (f.offset,<- Go.sizeOf f.type):Sem (Nat×Nat))):Sem (Array (Nat×Nat))).run P w= .ok L.toArray w:=by
   rw[Array.mapM_eq_mapM_toList,map_eq_pure_bind];simp only[bind,pure,run_bind]at hm ⊢;rw[hm];rfl
  unfold Instr.build;simp only[bind]at hmA;simp only[bind,run_bind,hzr,Cv.run_underlying hfs,hmA,hzl,hpa,hf];rfl
 ·split at h<;>first|(cases h;done)|skip
  rename_i n e sz hap;split at h<;>first|(cases h;done)|skip
  rename_i cs hcs;simp only[az]at h;subst h;obtain⟨i,h1,h2,rfl⟩:=zEf hap;obtain⟨zs,hf,hzs⟩:=eH hb.2 hcs hp hzv;refine⟨.agg zs.toArray,by simp only[VR];exact⟨zs,rfl,hzs⟩,λw=> ?_⟩;unfold Instr.build;simp only[bind,run_bind,hzr,Cv.run_underlying h1,run_sizeOf h2,hzl,hf];rfl
def zCb (ρ:y8):List (Nat×ag)->List (Nat×V)
 |[]=>[]
 |(i,x)::l=>(i,sev ρ x)::zCb ρ l
def zAm {E:Ev} {ρS:y8} {ρ:Env} (h:EnvR E ρS ρ):∀(l:List (Nat×ag)),PRL E (zCb ρS l) (l.map λp=>(p.1,ev ρ p.2))
 |[]=>by simp[zCb,PRL]
 |(i,x)::l=>by simp only[zCb,y5p,PRL];exact⟨_,_,rfl,h.ev x,zAm h l⟩
def cU (P:ab) (t:ac):Bool:=
 match P.underlying t with
 |some (.interface _)=>ar
 |none=>ar
 |_=>au
def yMz:V->Bool
 | .nm _ _=>ar
 | .el _ _ _ _=>ar
 | .re _ _ _ _=>ar
 | .sub _ _=>ar
 |_=>au
def z5l {E:Ev} {v:V} {y:aa} (hp:yMz v=ar) (h:VR E v y):∃a,y= .pointer (ap a):=by
 cases v<;>simp only[yMz,y5v]at hp<;>simp only[VR]at h
 ·obtain⟨b,oo,l,h1,rfl⟩:=h;exact⟨_,rfl⟩
 ·obtain⟨b,oo,m,c,l,h1,rfl⟩:=h;exact⟨_,rfl⟩
 ·obtain⟨_,_,b,o,l,T,fr,rfl,_⟩:=h;exact⟨_,rfl⟩
 ·obtain⟨hd,l,b,oo,h1,h2,rfl⟩:=h;exact⟨_,rfl⟩
def zPz (ρ:y8):Option ag->Option (Option Int)
 |none=>ap aq
 |some x=>match sev ρ x with
  | .d (.v (.int _ n))=>ap (ap n)
  |_=>aq
def yAz (sz:Nat) (els:List (List D)) (lo hi:Option Int) (K:V->Prop):Prop:=
 match lo,hi with
 |none,aq=>K (.d (.ro sz els))
 |some l,aq=>(0<=l/\l<=els.length)/\K (.d (.ro sz (els.drop l.toNat)))
 |none,ap h=>(0<=h/\h<=els.length)/\K (.d (.ro sz (els.take h.toNat)))
 |some l,ap h=>(0<=l/\l<=h/\h<=els.length)/\K (.d (.ro sz ((els.take h.toNat).drop l.toNat)))
def zWk:ag->Bool
 | .const (.slice aq 0 0)=>ar
 |_=>au
def z2j (op:BinOp) (els:List (List D)) (K:V->Prop):Prop:=
 ∀b:Bool,(b=ar->els=[])->match op with
  | .eql=>K (.d (.v (.bool b)))
  | .neq=>K (.d (.v (.bool !b)))
  |_=>False
def z1n:V->V->Bool
 | .nm n o,.nm m p=>bc n m && bc o p
 |_,_=>au
def z7n (P:ab) (t:ac):Bool:=
 match P.underlying t with
 |some (.pointer e)=>(mX P e).isSome
 |_=>au
def z3t {P:ab} {t:ac} (h:z7n P t=ar):∃e i,P.underlying t=ap (.pointer e)/\P.info? e=ap i:=by
 unfold z7n at h;split at h<;>first|(cases h;done)|skip
 rename_i e he;unfold mX at h;split at h<;>first|(cases h;done)|skip
 rename_i i hi;exact⟨e,i,he,hi⟩
def yCb {E:Ev} {u v:V} {x y:aa} (h:z1n u v=ar) (hx:VR E u x) (hy:VR E v y):∃a,x= .pointer (ap a)/\y= .pointer (ap a):=by
 unfold z1n at h;split at h<;>first|(cases h;done)|skip
 simp only[y5o]at h;have h1:=y5e h.1;have h2:=y5e h.2;subst h1 h2;simp only[VR]at hx hy;obtain⟨b,oo,l,e1,rfl⟩:=hx;obtain⟨b',oo',l',e2,rfl⟩:=hy;rw[e1]at e2;cases e2;exact⟨_,rfl,rfl⟩
def zKe {P:ab} {t:ac} (h:z7n P t=ar) (a:am) (w:af):(Op.equal t (.pointer (ap a)) (.pointer (ap a))).run P w= .ok ar w:=by
 obtain⟨e,i,h1,h2⟩:=z3t h;rw[mI];generalize 9999=d;unfold ci;simp only[bind,pure,Cv.run_bind,Cv.run_underlying h1,Cv.run_sizeOf h2];split
 ·simp only[sameAddr,bind,pure,beq_self_eq_true,if_true];rfl
 ·simp only[beq_self_eq_true,if_true];rfl
def mpV (P:ab) (t:ac) (v:V) (y:ag):Bool:=
 match v,y with
 | .mp _,.const (.map aq)=>(match P.underlying t with
   |some (.map _ _)=>ar
   |_=>au)
 |_,_=>au
def yGz {P:ab} {t:ac} {v:V} {y:ag} (h:mpV P t v y=ar):(∃n,v= .mp n)/\y= .const (.map aq)/\∃a b,P.underlying t=ap (.map a b):=by
 unfold mpV at h;split at h<;>first|(cases h;done)|skip
 rename_i n;split at h<;>first|(cases h;done)|skip
 rename_i a b hu;exact⟨⟨n,rfl⟩,rfl,a,b,hu⟩
def sqL (P:ab) (o:ak) (ρ:y8) (K:V->Prop):Prop:=
 bif zFz o.op then(bif yKz ρ o.op.operands.toList then cA P o (yPj ρ) (λx=>K (toV x))else False)else False
def sq (P:ab) (o:ak) (ρ:y8) (K:V->Prop):Prop:=
 match o.op with
 | .move x=>K (sev ρ x)
 | .assign x=>K (sev ρ x)
 | .pick c a b=>match sev ρ c with
   | .d (.v (.bool t))=>cnd t (K (sev ρ a)) (K (sev ρ b))
   |_=>False
 | .nilCheck x=>bif yMz (sev ρ x)then K (sev ρ x)else sqL P o ρ K
 | .fieldAddr s x f=>optK (zPu P s f) λoff=>match sev ρ x with
   | .nm n o=>K (.nm n (o+off))
   | .el n sz i g=>K (.el n sz i (g+off))
   | .re sz els i g=>K (.re sz els i (g+off))
   |_=>False
 | .indexAddr t x i=>match sev ρ i with
   | .d (.v (.int _ i))=>match sev ρ x with
     | .d (.ro sz els)=>optK (uT P t) λsz'=>bif bc sz sz' then(0<=i/\i<els.length)/\K (.re sz els i.toNat 0)else False
     | .nm n o=>optK (c8 P t) λns=>bif be 32 ns.1 && bc ns.2 1 then(0<=i/\i<ns.1)/\K (.na n o i.toNat)else optK (zNy i ns.1) λj=>K (.nm n (o+j*ns.2))
     | .el n sz k g=>optK (c8 P t) λns=>optK (zNy i ns.1) λj=>K (.el n sz k (g+j*ns.2))
     | .re sz els k g=>optK (c8 P t) λns=>optK (zNy i ns.1) λj=>K (.re sz els k (g+j*ns.2))
     |_=>False
   |_=>False
 | .index t x i=>match sev ρ x with
   | .agg cs=>match sev ρ i with
     | .d (.v (.int _ i))=>optK (zKt P t) λns=>optK (zNy i ns.1) λj=>optK (z8k P ns.2.1 cs (j*ns.2.2)) K
     |_=>False
   |_=>sqL P o ρ K
 | .field t x f=>match sev ρ x with
   | .agg cs=>optK (zIh P t f) λfo=>optK (z8k P fo.1 cs fo.2) K
   |_=>False
 | .extract x i=>match sev ρ x with
   | .tup l=>optK l[i]? K
   |_=>False
 | .build t ps=>optK (z3r P t (zCb ρ ps.toList)) K
 | .makeFunc (.func f) a b=>K (.fn f (evs ρ a.toList) (evs ρ b.toList))
 | .makeInterface t x=>bif cU P t then False else K (.ifc t (sev ρ x))
 | .typeAssert x _ a au=>bif cU P a then False else(match sev ρ x with
   | .ifc t v=>bif bc t a then K v else False
   |_=>False)
 | .typeAssert x _ a ar=>bif cU P a then False else(match sev ρ x with
   | .ifc t v=>bif bc t a then K (.tup [v,.d (.v (.bool ar))])else optK (mU P a) λz=>K (.tup [toV z,.d (.v (.bool au))])
   | .d (.v .nilIface)=>optK (mU P a) λz=>K (.tup [toV z,.d (.v (.bool au))])
   |_=>False)
 | .binOp op t x y _=>bif z1n (sev ρ x) (sev ρ y) && z7n P t then(match op with
    | .eql=>K (.d (.v (.bool ar)))
    | .neq=>K (.d (.v (.bool au)))
    |_=>False)else bif mpV P t (sev ρ x) y then(match op with
    | .eql=>K (.d (.v (.bool au)))
    | .neq=>K (.d (.v (.bool ar)))
    |_=>False)else bif yMz (sev ρ x) && zWi P t && zMx y then(match op with
    | .eql=>K (.d (.v (.bool au)))
    | .neq=>K (.d (.v (.bool ar)))
    |_=>False)else bif zWk y && zFp P t then(match sev ρ x with
     | .d (.ro _ els)=>z2j op els K
     |_=>sqL P o ρ K)else match zQi (sev ρ x)with
    |some (.agg xs)=>match zQi (sev ρ y)with
     |some (.agg ys)=>bif P.eqGuardType P.depth t then False else optK (yGw P t xs.toList ys.toList) λb=>match op with
      | .eql=>K (.d (.v (.bool b)))
      | .neq=>K (.d (.v (.bool !b)))
      |_=>False
     |_=>False
    |_=>sqL P o ρ K
 | .call c=>match c.callee with
   | .builtin .len=>match evs ρ c.args.toList with
     |[.d (.ro _ els)]=>optK c.argTypes[0]? λt=>bif zFp P t then K (.d (.v (.int .i64 els.length)))else False
     |_=>sqL P o ρ K
   | .builtin .min=>match evs ρ c.args.toList with
     |[.d (.v (.int k x)),.d (.v (.int _ y))]=>K (.d (.v (.int k (min x y))))
     |[.d (.v (.int k x)),.d (.v (.int _ y)),.d (.v (.int _ z))]=>K (.d (.v (.int k (min (min x y) z))))
     |_=>sqL P o ρ K
   |_=>sqL P o ρ K
 | .slice t x lo hi aq=>match sev ρ x with
   | .d (.ro sz els)=>optK (uT P t) λsz'=>bif bc sz sz' then zKo (zPz ρ lo) (zPz ρ hi) λl h=>yAz sz els l h K else False
   |_=>sqL P o ρ K
 | .unOp _ _ _=>sqL P o ρ K
 | .convert _ _ _=>sqL P o ρ K
 |_=>False
def fG {b:Bool} {A B:Prop} (h:bif b then A else B):(b=ar/\A)\/(b=au/\B):=by
 cases b
 ·exact .inr ⟨rfl,h⟩
 ·exact .inl ⟨rfl,h⟩
def z7g {b:Bool} {A B:Prop} (h:cnd b A B):(b=ar/\A)\/(b=au/\B):=by
 cases b
 ·exact .inr ⟨rfl,h⟩
 ·exact .inl ⟨rfl,h⟩
def yVu (P:ab) (E:Ev) (o:ak) (ρ:Env) (K:V->Prop):Prop:=∃v y,K v/\VR E v y/\zNq P (ae (ev ρ) o) y
def wZ {P:ab} {E:Ev} {ρS:y8} {ρ:Env} (he:EnvR E ρS ρ) {o:ak} {K:V->Prop} (h:sqL P o ρS K):yVu P E o ρ K:=by
 unfold sqL at h;obtain⟨hp,h⟩:=zK h;obtain⟨hl,h⟩:=zK h;obtain⟨y,hk,hf⟩:=gL h;exact⟨_,y,hk,zPl E y,by rw[<- yBj hp (z5r he hl)];exact hf⟩
def VR.intv {E:Ev} {k:ao} {i:Int} {y:aa} (h:VR E (.d (.v (.int k i))) y):y= .int k i:=by
 simp only[VR,DR]at h;exact h.1
def jJ {E:Ev} {x:aa} (h:x.oneC=ar):VR E (.d (.v x)) x:=by
 simp only[VR,DR];exact⟨trivial,h⟩
def gY {E:Ev} {ρS:y8} {ρ:Env} (he:EnvR E ρS ρ) {x:Option ag} {r:Option Int} (h:zPz ρS x=ap r):bnd ρ x=ap r:=by
 cases x with
 |none=>exact h
 |some x=>
  simp only[zPz]at h;split at h<;>first|(cases h;done)|skip
  rename_i k n hx;have:=he.ev x;rw[hx]at this;simp only[bnd,this.intv];exact h
def DR.ro_sl {F:PH} {sz lo hi:Nat} {els:List (List D)} {a:Option am} {c:Nat} (h:DR F (.ro sz els) (.slice a els.length c)) (h1:lo<=hi) (h2:hi<=els.length):
 DR F (.ro sz ((els.take hi).drop lo)) (.slice (if c=lo then a else a.map (·.add (lo*sz))) (hi-lo) (c-lo)):=by
 simp only[DR]at h ⊢;obtain⟨a',c',e,hc,hs,hm⟩:=h;cases e;have hlen:((els.take hi).drop lo).length=hi-lo:=by rw[y5z,y5t];omega
 refine⟨_,c-lo,by rw[hlen],by rw[hlen];omega,λel hel=>hs el (y8x (y8y hel)),?_⟩;by_cases h0:lo=hi
 ·left;exact y6d (by omega)
 ·right;rcases hm with hm|⟨b,o,l,T,fr,rfl,h4,h5⟩
  ·subst hm;simp at h2;omega
  ·refine⟨b,o+lo*sz,l,T,fr,?_,h4,?_⟩
   ·rw[y5b (by omega)];simp[vU]
   ·obtain⟨xs,r,e,hx⟩:=DRS_iff.1 h5;refine DRS_iff.2 ⟨(xs.drop (lo*sz)).take ((hi-lo)*sz),(xs.drop (lo*sz)).drop ((hi-lo)*sz)++r,?_,?_⟩
    ·rw[<- y5i,y7g,<- y8l,e,y7t];rw[hx.length,jN hs];exact y6o _ (by omega)
    ·have:=(hx.drop (lo*sz)).take ((hi-lo)*sz);rw[nT lo hs,pD (hi-lo) (λel hel=>hs el (y8y hel)),List.take_drop]at this;rw[show lo+(hi-lo)=hi by omega]at this;exact this
def DR.ro_cut {F:PH} {sz:Nat} {els:List (List D)} {y:aa} (h:DR F (.ro sz els) y) {lo hi:Option Int} {K:V->Prop} (hk:yAz sz els lo hi K):
 ∃a c v,y= .slice a els.length c/\K v/\slN a els.length c lo hi sz λp n c=>∀E:Ev,E.F=F->VR E v (.slice p n c):=by
 have h0:=h;simp only[DR]at h0;obtain⟨a,c,rfl,hc,_⟩:=h0;unfold yAz at hk;split at hk
 ·exact⟨a,c,_,rfl,hk,by simp only[slN];exact⟨hc,λE hE=>by subst hE;simpa only[VR]using h⟩⟩
 ·rename_i l;obtain⟨⟨h1,h2⟩,hk⟩:=hk;refine⟨a,c,_,rfl,hk,?_⟩;simp only[slN];refine⟨⟨h1,h2,hc⟩,λE hE=> ?_⟩;subst hE;have:=h.ro_sl (lo:=l.toNat) (hi:=els.length) (by omega) (y5x _);rw[y5n (y5x _)]at this;simpa only[VR]using this
 ·rename_i u;obtain⟨⟨h1,h2⟩,hk⟩:=hk;refine⟨a,c,_,rfl,hk,?_⟩;simp only[slN];refine⟨⟨h1,by omega⟩,λE hE=> ?_⟩;subst hE;have:=h.ro_sl (lo:=0) (hi:=u.toNat) (by omega) (by omega);simp only[bg,sB,ite_self,Nat.sub_zero,y8q]at this;simpa only[VR]using this
 ·rename_i l u;obtain⟨⟨h1,h2,h3⟩,hk⟩:=hk;refine⟨a,c,_,rfl,hk,?_⟩;simp only[slN];refine⟨⟨h1,h2,by omega⟩,λE hE=> ?_⟩;subst hE;have:=h.ro_sl (lo:=l.toNat) (hi:=u.toNat) (by omega) (by omega);simpa only[VR]using this
def z0y {p:Option am} {n c:Nat} {lo hi:Option Int} {sz:Nat} {K K':Option am->Nat->Nat->Prop} (h:∀p n c,K p n c->K' p n c) (hk:slN p n c lo hi sz K):slN p n c lo hi sz K':=by
 unfold slN at*;cases lo<;>cases hi<;>exact⟨hk.1,h _ _ _ hk.2⟩
def zPf {P:ab} {t:ac} (h:zWi P t=ar) (a:am):f9 P t (.pointer (ap a))=ap au:=by
 obtain⟨e,he⟩:=zYk h;unfold f9;rw[he];rfl
def z9y {y:ag} (h:zMx y=ar):y= .const (.pointer aq):=by
 unfold zMx at h;split at h
 ·rfl
 ·cases h
def zLw {P:ab} {E:Ev} {ρ:Env} {o:ak} {op:BinOp} {t u:ac} {x y:ag} {els:List (List D)} {K:V->Prop} {a:Option am} {n c:Nat} (ho:o.op= .binOp op t x y u) (hy:zWk y=ar) (ht:zFp P t=ar)
 (hx:ev ρ x= .slice a n c) (ha:a=aq->els=[]) (h:z2j op els K):yVu P E o ρ K:=by
 have hy':y= .const (.slice aq 0 0):=by
  unfold zWk at hy;split at hy
  ·rfl
  ·cases hy
 subst hy';obtain⟨e,he⟩:=sS ht;have hn:f9 P t (.slice a n c)=ap a.isNone:=by unfold f9;rw[he]
 have hk:=h a.isNone (λhb=>ha (by simpa using hb));split at hk<;>first|exact hk.elim|skip
 ·refine⟨_,.bool a.isNone,hk,jJ rfl,?_⟩;have:=xN (P:=P) (neg:=au) (r:=a.isNone) (ρ:=ρ) ho (by rw[hx];trivial) trivial (λw=>by rw[hx];exact y7 trivial w) (λw=>by rw[hx];exact gA hn w);simpa using this
 ·refine⟨_,.bool (!a.isNone),hk,jJ rfl,?_⟩;have:=xN (P:=P) (neg:=ar) (r:=a.isNone) (ρ:=ρ) ho (by rw[hx];trivial) trivial (λw=>by rw[hx];exact y7 trivial w) (λw=>by rw[hx];exact gA hn w);simpa using this
def zWw {P:ab} {E:Ev} {ρS:y8} {ρ:Env} (he:EnvR E ρS ρ) {o:ak} {K:V->Prop} (h:sq P o ρS K):yVu P E o ρ K:=by
 cases ho:o.op
 case move x=>simp only[sq,ho]at h;exact⟨_,_,h,he.ev x,λw=>by simp only[ae,ho];rfl⟩
 case assign x=>simp only[sq,ho]at h;exact⟨_,_,h,he.ev x,λw=>by simp only[ae,ho];rfl⟩
 case pick c a b=>
  simp only[sq,ho]at h;split at h<;>first|exact h.elim|skip
  rename_i t hc;have hv:=he.ev c;rw[hc]at hv;simp only[VR,DR]at hv;rcases z7g h with⟨rfl,h⟩|⟨rfl,h⟩
  ·exact⟨_,_,h,he.ev a,λw=>by simp only[ae,ho,hv.1,asBool,bind,pure,ce,cd];rfl⟩
  ·exact⟨_,_,h,he.ev b,λw=>by simp only[ae,ho,hv.1,asBool,bind,pure,ce,cd];rfl⟩
 case nilCheck x=>
  simp only[sq,ho]at h;rcases fG h with⟨hp,h⟩|⟨_,h⟩
  ·obtain⟨a,ha⟩:=z5l hp (he.ev x);exact⟨_,_,h,he.ev x,λw=>by simp only[ae,ho,ha];rfl⟩
  ·exact wZ he h
 case fieldAddr s x f=>
  simp only[sq,ho]at h;obtain⟨off,hf,h⟩:=zL h;obtain⟨fs,fd,i,h1,h2,h3,h4,rfl⟩:=zPy hf;have hv:=he.ev x;have run:∀b oo,ev ρ x= .pointer (ap ⟨b,oo,aq⟩)->zNq P (ae (ev ρ) o) (.pointer (ap ⟨b,oo+fd.offset,aq⟩)):=by
   intro b oo hx;simp only[ae,ho,hx];refine yB λw=> ?_
   simp only[Instr.fieldAt,Instr.sureAddr,fieldPlace,bind,pure,run_bind,ce,cd,Cv.run_underlying h1,h2,run_sizeOf h3,y5b h4,vU]
  split at h<;>first|exact h.elim|skip
  ·rename_i n o' hx;rw[hx]at hv;simp only[VR]at hv;obtain⟨b,oo,l,e1,e2⟩:=hv;exact⟨_,_,h,by simp only[VR];exact⟨b,oo,l,e1,rfl⟩,by have:=run _ _ e2;rw[y8s]at this;exact this⟩
  ·rename_i n sz i g hx;rw[hx]at hv;simp only[VR]at hv;obtain⟨b,oo,m,c,l,e1,e2⟩:=hv;exact⟨_,_,h,by simp only[VR];exact⟨b,oo,m,c,l,e1,rfl⟩,by have:=run _ _ e2;rw[y8s _ g]at this;exact this⟩
  ·rename_i sz els i g hx;rw[hx]at hv;simp only[VR]at hv;obtain⟨e0,e1,b,oo,l,T,fr,e2,e3,e4⟩:=hv;exact⟨_,_,h,by simp only[VR];exact⟨e0,e1,b,oo,l,T,fr,rfl,e3,e4⟩,by have:=run _ _ e2;rw[y8s _ g]at this;exact this⟩
 case indexAddr t x i=>
  simp only[sq,ho]at h;split at h<;>first|exact h.elim|skip
  rename_i k i' hi;have hiv:=he.ev i;rw[hi]at hiv;have hiv:=hiv.intv;have hv:=he.ev x;have arr:∀{b oo:Nat} {ns:Nat×Nat} {j:Nat},c8 P t=ap ns->zNy i' ns.1=ap j->ev ρ x= .pointer (ap ⟨b,oo,aq⟩)->zNq P (ae (ev ρ) o) (.pointer (ap ⟨b,oo+j*ns.2,aq⟩)):=by
   intro b oo ns j hsz hj hx;obtain⟨rfl,hlt⟩:=zPg hj;simp only[ae,ho,hx,hiv];refine yB λw=> ?_
   rw[fJ hsz ⟨by omega,by omega⟩,vU];simp
  split at h<;>first|exact h.elim|skip
  ·rename_i sz els hx;obtain⟨sz',hs,h⟩:=zL h;obtain⟨hb,⟨h0,h1⟩,hk⟩:=zK h;have:=y5e hb;subst this;rw[hx]at hv;simp only[VR,DR]at hv;obtain⟨a,c,e1,e2,e3,e4⟩:=hv;rcases e4 with e4|⟨b,oo,l,T,fr,rfl,e5,e6⟩
   ·subst e4;simp at h1;omega
   refine⟨_,.pointer (ap ⟨b,oo+i'.toNat*sz,aq⟩),hk,?_,?_⟩
   ·simp only[VR];exact⟨by omega,e3,b,oo,l,T,fr,rfl,e5,e6⟩
   ·simp only[ae,ho,e1,hiv];refine yB λw=> ?_
    rw[jL hs ⟨h0,by omega⟩,vU]
  ·rename_i n o' hx;obtain⟨ns,hs,h⟩:=zL h;rcases fG h with⟨hb,⟨h0,h1⟩,h⟩|⟨_,h⟩
   ·simp only[y5o]at hb;have hb2:=y5e hb.2;rw[hx]at hv;simp only[VR]at hv;obtain⟨b,oo,l,e1,e2⟩:=hv;refine⟨_,.pointer (ap ⟨b,oo+(o'+i'.toNat),aq⟩),h,by simp only[VR];exact⟨b,oo,l,e1,rfl⟩,?_⟩;simp only[ae,ho,e2,hiv];refine yB λw=> ?_
    rw[fJ hs ⟨h0,h1⟩,vU,hb2,Nat.mul_one,y8s]
   obtain⟨j,hj,h⟩:=zL h;rw[hx]at hv;simp only[VR]at hv;obtain⟨b,oo,l,e1,e2⟩:=hv;exact⟨_,_,h,by simp only[VR];exact⟨b,oo,l,e1,rfl⟩,by have:=arr hs hj e2;rw[y8s]at this;exact this⟩
  ·rename_i n sz i g hx;obtain⟨ns,hs,h⟩:=zL h;obtain⟨j,hj,h⟩:=zL h;rw[hx]at hv;simp only[VR]at hv;obtain⟨b,oo,m,c,l,e1,e2⟩:=hv;exact⟨_,_,h,by simp only[VR];exact⟨b,oo,m,c,l,e1,rfl⟩,by have:=arr hs hj e2;rw[y8s _ g]at this;exact this⟩
  ·rename_i sz els i g hx;obtain⟨ns,hs,h⟩:=zL h;obtain⟨j,hj,h⟩:=zL h;rw[hx]at hv;simp only[VR]at hv;obtain⟨e0,e1,b,oo,l,T,fr,e2,e3,e4⟩:=hv;exact⟨_,_,h,by simp only[VR];exact⟨e0,e1,b,oo,l,T,fr,rfl,e3,e4⟩,by have:=arr hs hj e2;rw[y8s _ g]at this;exact this⟩
 case index t x i=>
  simp only[sq,ho]at h;split at h
  ·rename_i cs hx;split at h<;>first|exact h.elim|skip
   rename_i k i' hi;obtain⟨⟨n,e,sz⟩,hs,h⟩:=zL h;obtain⟨j,hj,h⟩:=zL h;obtain⟨v,hp,hk⟩:=zL h;have hiv:=he.ev i;rw[hi]at hiv;have hiv:=hiv.intv;have hv:=he.ev x;rw[hx]at hv;simp only[VR]at hv;obtain⟨ys,e1,e2⟩:=hv;obtain⟨y,hy,hr⟩:=zJi e2 hp;obtain⟨rfl,hlt⟩:=zPg hj;obtain⟨inf,q1,q2,q3⟩:=zEf hs;refine⟨v,y,hk,hy,?_⟩;simp only[ae,ho,e1,hiv];refine yB λw=> ?_
   have hb:(0:Int)<=(j:Int)/\(j:Int)<n:=⟨by omega,by omega⟩
   simp only[Instr.index,asIntOf,bind,pure,run_bind,ce,cd,Cv.run_underlying q1,y5d hb,run_sizeOf q2,q3];exact hr w
  ·exact wZ he h
 case field t x f=>
  simp only[sq,ho]at h;split at h<;>first|exact h.elim|skip
  rename_i cs hx;obtain⟨⟨ft,off⟩,hf,h⟩:=zL h;obtain⟨v,hp,hk⟩:=zL h;have hv:=he.ev x;rw[hx]at hv;simp only[VR]at hv;obtain⟨ys,e1,e2⟩:=hv;obtain⟨y,hy,hr⟩:=zJi e2 hp;obtain⟨fs,fd,h1,h2,rfl,rfl⟩:=zNu hf;refine⟨v,y,hk,hy,?_⟩;simp only[ae,ho,e1];refine yB λw=> ?_
  simp only[Instr.field,asAgg,bind,pure,run_bind,ce,cd,Cv.run_underlying h1,h2];exact hr w
 case extract x i=>
  simp only[sq,ho]at h;split at h<;>first|exact h.elim|skip
  rename_i l hx;obtain⟨v,hl,h⟩:=zL h;have hv:=he.ev x;rw[hx]at hv;simp only[VR]at hv;obtain⟨ys,e1,e2⟩:=hv;obtain⟨y,hy,hr⟩:=e2.get hl;refine⟨v,y,h,hr,?_⟩;simp only[ae,ho,e1];refine yB λw=> ?_
  have:ys.toArray[i]? =ap y:=by simp[hy]
  simp only[Instr.extract,this];rfl
 case build t ps=>
  simp only[sq,ho]at h;obtain⟨v,hb,h⟩:=zL h;obtain⟨y,hy,hr⟩:=zUh (zAm he ps.toList) hb;refine⟨v,y,h,hy,?_⟩;simp only[ae,ho];refine yB λw=> ?_
  have:(ps.map λ(i,x)=>(i,ev ρ x))=(ps.toList.map λp=>(p.1,ev ρ p.2)).toArray:=by
   apply cu;simp
  rw[this];exact hr w
 case makeFunc fn a b=>
  cases fn<;>simp only[sq,ho]at h
  rename_i f;obtain⟨as,e1,e2⟩:=bD he a;obtain⟨bs,e3,e4⟩:=bD he b;refine⟨_,.func (.func f) as.toArray bs.toArray,h,by simp only[VR];exact⟨as,bs,rfl,e2,e4⟩,?_⟩;simp only[ae,ho,e1,e3];exact yB λw=>rfl
 case makeInterface t x=>
  simp only[sq,ho]at h;obtain⟨hb,h⟩:cU P t=au/\K (.ifc t (sev ρS x)):=by
   revert h;cases cU P t<;>intro h
   ·exact⟨rfl,h⟩
   ·exact h.elim
  refine⟨_,.iface t (ev ρ x),h,by simp only[VR];exact⟨_,rfl,he.ev x⟩,?_⟩;simp only[ae,ho];refine yB λw=> ?_
  unfold cU at hb;cases hd:P.underlying t with
  |none=>rw[hd]at hb;cases hb
  |some d=>
   rw[hd]at hb;unfold Instr.makeInterface;simp only[bind,run_bind,Cv.run_underlying hd];cases d<;>first|rfl|cases hb
 case typeAssert x xt a ok=>
  cases ok with
  |true=>
   simp only[sq,ho]at h;obtain⟨hb,h⟩:cU P a=au/\(match sev ρS x with
    | .ifc t v=>bif bc t a then K (.tup [v,.d (.v (.bool ar))])else optK (mU P a) λz=>K (.tup [toV z,.d (.v (.bool au))])
    | .d (.v .nilIface)=>optK (mU P a) λz=>K (.tup [toV z,.d (.v (.bool au))])
    |_=>False):=by
    revert h;cases cU P a<;>intro h
    ·exact⟨rfl,h⟩
    ·exact h.elim
   have hne:∃d,P.underlying a=ap d/\∀ms,d≠.interface ms:=by
    unfold cU at hb;split at hb<;>first|(cases hb;done)|skip
    rename_i hne1 hne2;cases hu:P.underlying a with
    |none=>exact absurd hu hne2
    |some d=>exact⟨d,rfl,λms e=>hne1 ms (by rw[hu,e])⟩
   obtain⟨d,hu,hd⟩:=hne;have hfail:∀z,mU P a=ap z->VR E (.tup [toV z,.d (.v (.bool au))]) (.tuple #[z,.bool au]):=λz hz=>by
    simp only[VR,VRL,DR];exact⟨[z,.bool au],rfl,_,_,rfl,zPl E z,_,_,rfl,⟨rfl,rfl⟩,rfl⟩
   split at h<;>first|exact h.elim|skip
   ·rename_i t v hx;have hv:=he.ev x;rw[hx]at hv;simp only[VR]at hv;obtain⟨z,e1,e2⟩:=hv;rcases fG h with⟨ht,hk⟩|⟨ht,hk⟩
    ·have:=y5e ht;subst this;refine⟨_,.tuple #[z,.bool ar],hk,?_,?_⟩
     ·simp only[VR,VRL,DR];exact⟨[z,.bool ar],rfl,_,_,rfl,e2,_,_,rfl,⟨rfl,rfl⟩,rfl⟩
     ·simp only[ae,ho,e1];refine yB λw=> ?_
      simp only[bv,bind,run_bind,Cv.run_underlying hu];cases d<;>first|rfl|exact absurd rfl (hd _)|(simp only[if_true];rfl)
    ·obtain⟨z0,hz,hk⟩:=zL hk;have hta:¬t=a:=λe=>by subst e;rw[Nat.beq_refl]at ht;cases ht
     refine⟨_,.tuple #[z0,.bool au],hk,hfail z0 hz,?_⟩;simp only[ae,ho,e1];refine yB λw=> ?_
     simp only[bv,bind,run_bind,Cv.run_underlying hu];cases d<;>first|exact absurd rfl (hd _)|(simp only[y5b hta,if_true,bind,run_bind,Cv.zero_run (dQ hz) w];rfl)
   ·rename_i hx;have hv:=he.ev x;rw[hx]at hv;simp only[VR,DR]at hv;obtain⟨z0,hz,hk⟩:=zL h;refine⟨_,.tuple #[z0,.bool au],hk,hfail z0 hz,?_⟩;simp only[ae,ho,hv.1];refine yB λw=> ?_
    simp only[bv,bind,run_bind,Cv.run_underlying hu];cases d<;>first|exact absurd rfl (hd _)|(simp only[if_true,bind,run_bind,Cv.zero_run (dQ hz) w];rfl)
  |false=>
   simp only[sq,ho]at h;obtain⟨hb,h⟩:cU P a=au/\(match sev ρS x with
    | .ifc t v=>bif bc t a then K v else False
    |_=>False):=by
    revert h;cases cU P a<;>intro h
    ·exact⟨rfl,h⟩
    ·exact h.elim
   split at h<;>first|exact h.elim|skip
   rename_i t v hx;obtain⟨ht,hk⟩:=zK h;have:=y5e ht;subst this;have hv:=he.ev x;rw[hx]at hv;simp only[VR]at hv;obtain⟨z,e1,e2⟩:=hv;refine⟨v,z,hk,e2,?_⟩;simp only[ae,ho,e1];refine yB λw=> ?_
   unfold cU at hb;split at hb<;>first|(cases hb;done)|skip
   rename_i hne1 hne2;cases hu:P.underlying t with
   |none=>exact absurd hu hne2
   |some d=>
    simp only[bv,bind,run_bind,Cv.run_underlying hu];cases d<;>first|rfl|exact absurd hu (hne1 _)|(simp only[if_true];rfl)
 case binOp op t x y u=>
  simp only[sq,ho]at h;rcases fG h with⟨hp,hk⟩|⟨_,h⟩
  ·simp only[y5o]at hp;obtain⟨a,hx,hy⟩:=yCb hp.1 (he.ev x) (he.ev y);clear h;split at hk<;>first|exact hk.elim|skip
   ·refine⟨_,.bool ar,hk,jJ rfl,?_⟩;have:=xN (P:=P) (neg:=au) (r:=ar) (ρ:=ρ) ho (by rw[hx];trivial) (by rw[hy];trivial) (λw=>by rw[hx,hy];exact y7 trivial w) (λw=>by rw[hx,hy];exact zKe hp.2 a w);simpa using this
   ·refine⟨_,.bool au,hk,jJ rfl,?_⟩;have:=xN (P:=P) (neg:=ar) (r:=ar) (ρ:=ρ) ho (by rw[hx];trivial) (by rw[hy];trivial) (λw=>by rw[hx,hy];exact y7 trivial w) (λw=>by rw[hx,hy];exact zKe hp.2 a w);simpa using this
  rcases fG h with⟨hp,hk⟩|⟨_,h⟩
  ·obtain⟨⟨n,hx⟩,rfl,ka,kb,hu⟩:=yGz hp;have hv:=he.ev x;rw[hx]at hv;simp only[VR]at hv;obtain⟨b,l,_,ha⟩:=hv;have hr:f9 P t (.map (ap b))=ap au:=by simp[f9,hu]
   clear h;split at hk<;>first|exact hk.elim|skip
   ·refine⟨_,.bool au,hk,jJ rfl,?_⟩;have:=xN (P:=P) (neg:=au) (r:=au) (ρ:=ρ) ho (by rw[ha];trivial) trivial (λw=>by rw[ha];exact y7 trivial w) (λw=>by rw[ha];exact cF hr w);simpa using this
   ·refine⟨_,.bool ar,hk,jJ rfl,?_⟩;have:=xN (P:=P) (neg:=ar) (r:=au) (ρ:=ρ) ho (by rw[ha];trivial) trivial (λw=>by rw[ha];exact y7 trivial w) (λw=>by rw[ha];exact cF hr w);simpa using this
  rcases fG h with⟨hp,hk⟩|⟨_,h⟩
  ·simp only[y5o]at hp;obtain⟨⟨hp1,hp2⟩,hp3⟩:=hp;obtain⟨a,ha⟩:=z5l hp1 (he.ev x);have hy:=z9y hp3;subst hy;clear h;split at hk<;>first|exact hk.elim|skip
   ·refine⟨_,.bool au,hk,jJ rfl,?_⟩;have:=xN (P:=P) (neg:=au) (r:=au) (ρ:=ρ) ho (by rw[ha];trivial) trivial (λw=>by rw[ha];exact y7 trivial w) (λw=>by rw[ha];exact cH (zPf hp2 a) w);simpa using this
   ·refine⟨_,.bool ar,hk,jJ rfl,?_⟩;have:=xN (P:=P) (neg:=ar) (r:=au) (ρ:=ρ) ho (by rw[ha];trivial) trivial (λw=>by rw[ha];exact y7 trivial w) (λw=>by rw[ha];exact cH (zPf hp2 a) w);simpa using this
  ·rcases fG h with⟨hp,hk⟩|⟨_,h⟩
   ·simp only[y5o]at hp;clear h;split at hk
    ·rename_i sz els hx;have hv:=he.ev x;rw[hx]at hv;simp only[VR,DR]at hv;obtain⟨a,c,e1,_,_,e4⟩:=hv;exact zLw ho hp.1 hp.2 e1 (λha=>by
      rcases e4 with e4|⟨_,_,_,_,_,e5,_⟩
      ·exact e4
      ·rw[ha]at e5;cases e5) hk
    ·exact wZ he hk
   ·split at h
    ·rename_i xs hxs;split at h<;>first|exact h.elim|skip
     rename_i ys hys;rcases fG h with⟨_,hk⟩|⟨hgt,hk⟩
     ·exact hk.elim
     clear h;obtain⟨b,hb,hk⟩:=zL hk;have ex:=rN hxs (he.ev x);have ey:=rN hys (he.ev y);have hrun:=λw=>yAo (P:=P) hb w
     simp only[xAn]at hrun;have hg:∀(op:BinOp) w,(eqGuard op t x y (.agg xs) (.agg ys)).run P w= .ok () w:=by
      intro op w;unfold eqGuard;cases op<;>first|rfl|(simp[bind,pure,run_bind,program,cd,ce,hgt])
     split at hk<;>first|exact hk.elim|skip
     ·refine⟨_,.bool b,hk,jJ rfl,?_⟩;have:=xN (P:=P) (neg:=au) (r:=b) (ρ:=ρ) ho (by rw[ex];trivial) (by rw[ey];trivial) (λw=>by rw[ex,ey];exact hg _ w) (λw=>by rw[ex,ey];exact hrun w);simpa using this
     ·refine⟨_,.bool (!b),hk,jJ rfl,?_⟩;have:=xN (P:=P) (neg:=ar) (r:=b) (ρ:=ρ) ho (by rw[ex];trivial) (by rw[ey];trivial) (λw=>by rw[ex,ey];exact hg _ w) (λw=>by rw[ex,ey];exact hrun w);simpa using this
    ·exact wZ he h
 case call c=>
  simp only[sq,ho]at h;split at h
  ·rename_i hc;split at h
   ·rename_i sz els hargs;obtain⟨t,ht,h⟩:=zL h;obtain⟨hs,h⟩:=zK h;obtain⟨ys,e1,e2⟩:=bD he c.args;rw[hargs]at e2;simp only[VRL,VR,DR]at e2;obtain⟨y,_,rfl,⟨a,k,rfl,_⟩,rfl⟩:=e2;refine⟨_,.int .i64 els.length,h,jJ rfl,?_⟩;rw[jM ho hc,e1];obtain⟨e,hse⟩:=sS hs;refine yB λw=> ?_
    simp only[cr,ht,y7d,y7m,bind,run_bind,Cv.run_underlying hse];rfl
   ·exact wZ he h
  ·rename_i hc;split at h
   ·rename_i kk x k2 y hargs;obtain⟨ys,e1,e2⟩:=bD he c.args;rw[hargs]at e2;simp only[VRL,VR,DR]at e2;obtain⟨_,_,rfl,⟨rfl,_⟩,_,_,rfl,⟨rfl,_⟩,rfl⟩:=e2;refine⟨_,.int kk (min x y),h,jJ rfl,?_⟩;rw[jM ho hc,e1];refine yB λw=> ?_
    rw[show min x y=if y<x then y else x by rw[Int.min_def];split<;>split<;>omega];apply run_min_int2
   ·rename_i kk x k2 y k3 z hargs;obtain⟨ys,e1,e2⟩:=bD he c.args;rw[hargs]at e2;simp only[VRL,VR,DR]at e2;obtain⟨_,_,rfl,⟨rfl,_⟩,_,_,rfl,⟨rfl,_⟩,_,_,rfl,⟨rfl,_⟩,rfl⟩:=e2;refine⟨_,.int kk (min (min x y) z),h,jJ rfl,?_⟩;rw[jM ho hc,e1];refine yB λw=> ?_
    rw[show min (min x y) z=if z<(if y<x then y else x)then z else(if y<x then y else x)by rw[Int.min_def,Int.min_def];repeat' split<;>omega];apply run_min_int3
   ·exact wZ he h
  ·exact wZ he h
 case slice t x lo hi mx=>
  cases mx with
  |some m=>simp only[sq,ho]at h
  |none=>
   simp only[sq,ho]at h;split at h
   ·rename_i sz els hx;obtain⟨sz',hs,h⟩:=zL h;obtain⟨hb,hh⟩:=zK h;have:=y5e hb;subst this;obtain⟨l,u,h1,h2,hh⟩:=nP hh;have hv:=he.ev x;rw[hx]at hv;simp only[VR]at hv;obtain⟨a,c,v,e1,hk,hsl⟩:=hv.ro_cut hh;have hp:cA P o ρ (λy=>VR E v y):=by
     simp only[cA,ho,e1,hs,gY he h1,gY he h2,zKo];exact z0y (λp n c hh=>hh E rfl) hsl
    obtain⟨y,hy,hf⟩:=gL hp;exact⟨v,y,hk,hy,hf⟩
   ·exact wZ he h
 case unOp op t x=>simp only[sq,ho]at h;exact wZ he h
 case convert s d x=>simp only[sq,ho]at h;exact wZ he h
 all_goals(simp only[sq,ho]at h)
end Sx
namespace Cv
open Go Go.RowKit
def yBh {φ:Phi} {b:Nat} {xs:List V} {t:ac} {opn:Option Nat} {O:Obj} (h:coT φ b (.cells xs t opn) O):∃r,O= .cells (cvl φ xs++r).toArray t/\(∀sz,opn=ap sz->xs.length+r.length=(φ b).2*sz)/\(opn=aq->r=[]):=by
 cases opn with
 |none=>
  have h':O= .cells (cvl φ xs).toArray t:=h;exact⟨[],by rw[h',y6a],by simp,λ_=>rfl⟩
 |some sz=>
  obtain⟨r,h1,h2⟩:=h;exact⟨r,h1,λs hs=>(by cases hs;exact h2),by simp⟩
def Rel.cells {φ:Phi} {s:St} {w:af} (R:Rel φ s w) {b:Nat} {xs:List V} {t:ac} {opn:Option Nat} (h:s.get b=ap (.cells xs t opn)):
 ∃r,w.heap[(φ b).1]? =ap (.cells (cvl φ xs++r).toArray t)/\(∀sz,opn=ap sz->xs.length+r.length=(φ b).2*sz)/\(opn=aq->r=[]):=by
 obtain⟨O,h1,h2⟩:=R.obj b _ h;obtain⟨r,rfl,h3,h4⟩:=yBh h2;exact⟨r,h1,h3,h4⟩
def uC {P:ab} {t k e:ac} (h:zQa P t=ap (k,e)):P.underlying t=ap (.map k e):=by
 unfold zQa at h;split at h
 ·simp only[az,cq]at h;obtain⟨rfl,rfl⟩:=h;assumption
 ·cases h
def qG {P:ab} {w:af} {r:Nat} {O:Obj} (h:w.heap[r]? =ap O) (hO:match O with| .cells _ _ _=>False|_=>True):(getObj r).run P w= .ok O w:=by
 simp only[getObj,cd,h];cases O<;>first|exact hO.elim|rfl
def z9s {P:ab} {t:ac} (h:yJo P t=ar):∃e,P.underlying t=ap (.slice e)/\P.underlying e=ap (.int .u8):=by
 unfold yJo at h;split at h<;>first|(cases h;done)|skip
 rename_i e he;split at h<;>first|(cases h;done)|skip
 exact⟨e,he,by assumption⟩
def zEj {P:ab} (w:af) {F:aa->ByteArray->Sem (ForInStep ByteArray)} (hF:∀(n:Nat) (s:ByteArray),F (.int .u8 (n:Int)) s= .pure (.yield (s.push (UInt8.ofNat n)))):∀(l:List Nat) (acc:ByteArray),
 ((forIn (l.map λ(n:Nat)=>Value.int .u8 (n:Int)) acc F):Sem ByteArray).run P w= .ok (acc++bs l) w
 |[],acc=>by
  have:acc++bs []=acc:=by apply ByteArray.ext;simp[bs]
  rw[this];rfl
 |n::l,acc=>by
  have ih:=zEj (P:=P) w hF l (acc.push (UInt8.ofNat n));simp only[y5p,List.forIn_cons,bind,hF,ce];rw[ih];congr 1;apply ByteArray.ext;simp[bs,Nat.toUInt8]
end Cv
namespace Sx
open Go Go.RowKit Cv
def Rel.focus {k:Ko} {L:List HP} {E:Ev} {s:St} {w:af} (R:Rel k L E s w) {n:Nat} {o:AObj} (h:s.get n=ap o):
 Hp k w (rHP E (n,o)::((wX n s.rows).map (rHP E)++fz E.F::L)):=by
 refine R.hp.perm ?_;have:=((vD h).1.map (rHP E)).append_right (fz E.F::L);simpa using this
def Rel.unfocus {k:Ko} {L:List HP} {E:Ev} {s:St} {w w':af} (R:Rel k L E s w) {n:Nat} {o:AObj} (h:s.get n=ap o) {o':AObj}
 (H:Hp k w' (rHP E (n,o')::((wX n s.rows).map (rHP E)++fz E.F::L))):Rel k L E (s.set n o') w':=by
 refine⟨R.nx,H.perm ?_⟩;have:=(((vD h).2 o').map (rHP E)).append_right (fz E.F::L);simpa[St.set]using this.symm
def Rel.frozen {k:Ko} {L:List HP} {E:Ev} {s:St} {w:af} (R:Rel k L E s w):∀b o,E.F b=ap o->w.heap[b]? =ap o:=by
 have H:Hp k w (fz E.F::(s.rows.map (rHP E)++L)):=R.hp.perm y5r;obtain⟨h,⟨rfl,_⟩,hs⟩:=H.sat;exact hs
def Rel.row {k:Ko} {L:List HP} {E:Ev} {s:St} {w:af} (R:Rel k L E s w) {n:Nat} {o:AObj} (h:s.get n=ap o) (hg:o≠.gone):
 ∃hd x,E.tab[n]? =ap hd/\rowHP E.F o E.tab hd x/\Sub x w:=by
 obtain⟨x,hx,hs⟩:=(R.focus h).sat;rcases hx with⟨e,_⟩|⟨hd,h1,h2⟩
 ·exact absurd e hg
 ·exact⟨hd,x,h1,h2,hs⟩
def Rel.cells {k:Ko} {L:List HP} {E:Ev} {s:St} {w:af} (R:Rel k L E s w) {n:Nat} {vs:List V} {t:ac} (h:s.get n=ap (.cells vs t)):
 ∃b l sub,E.tab[n]? =ap (.pointer (ap ⟨b,0,aq⟩),sub)/\VRL E vs l/\w.heap[b]? =ap (.cells l.toArray t):=by
 obtain⟨⟨hv,sub⟩,x,h1,h2,h3⟩:=R.row h (by simp);simp only[rowHP]at h2;obtain⟨b,l,rfl,h4,rfl⟩:=h2;exact⟨b,l,sub,h1,h4,h3 b _ (by simp[one])⟩
def Rel.vec {k:Ko} {L:List HP} {E:Ev} {s:St} {w:af} (R:Rel k L E s w) {n:Nat} {ds:List D} {t:ac} (h:s.get n=ap (.vec ds t)):
 ∃b l sub,E.tab[n]? =ap (.pointer (ap ⟨b,0,aq⟩),sub)/\DRL E.F ds l/\w.heap[b]? =ap (.cells l.toArray t):=by
 obtain⟨⟨hv,sub⟩,x,h1,h2,h3⟩:=R.row h (by simp);simp only[rowHP]at h2;obtain⟨b,l,rfl,h4,rfl⟩:=h2;exact⟨b,l,sub,h1,h4,h3 b _ (by simp[one])⟩
def sE (s:St):V->Option (Nat×List (List D))
 | .d (.ro sz els)=>ap (sz,els)
 | .own n=>match s.get n with
   |some (.own _ sz els)=>ap (sz,els)
   |some (.fro sz els)=>ap (sz,els)
   |some (.mrk _ els)=>ap (1,els)
   |_=>aq
 |_=>aq
def zHv {k:Ko} {L:List HP} {E:Ev} {s:St} {w:af} (R:Rel k L E s w) {sz:Nat} {els:List (List D)} {y:aa} (h:DR E.F (.ro sz els) y):
 ∃a c xs,y= .slice a els.length c/\els.length<=c/\DRL E.F els.flatten xs/\(∀el∈els,el.length=sz)/\Sat w (slR sz a els.length c xs):=by
 simp only[DR]at h;obtain⟨a,c,rfl,h1,h2,h3⟩:=h;rcases h3 with rfl|⟨b,o,l,T,fr,rfl,h4,h5⟩
 ·exact⟨a,c,[],rfl,h1,by simp[DRL],h2,pe,.inl ⟨rfl,rfl,rfl⟩,Sub.pe w⟩
 ·obtain⟨xs,r,e,hx⟩:=DRS_iff.1 h5;have hl:xs.length=els.length*sz:=by rw[hx.length,jN h2]
  refine⟨_,c,xs,rfl,h1,hx,h2,one b (.cells l.toArray T fr),.inr ⟨b,o,l,T,fr,rfl,rfl,?_,hl,h1⟩,?_⟩
  ·rw[e,y5y (by omega),y5n (by omega)]
  ·intro b' o' e';simp only[one]at e';split at e'
   ·rename_i hb;subst hb;cases e';exact R.frozen _ _ h4
   ·cases e'
def bY {k:Ko} {L:List HP} {E:Ev} {s:St} {w:af} (R:Rel k L E s w) {v:V} {y:aa} (hv:VR E v y) {sz:Nat} {els:List (List D)} (h:sE s v=ap (sz,els)):
 ∃a c xs,y= .slice a els.length c/\els.length<=c/\DRL E.F els.flatten xs/\(∀el∈els,el.length=sz)/\Sat w (slR sz a els.length c xs):=by
 unfold sE at h;split at h
 ·simp only[az,cq]at h;obtain⟨rfl,rfl⟩:=h;simp only[VR]at hv;exact zHv R hv
 ·rename_i n;simp only[VR]at hv;obtain⟨sub,h1,h2⟩:=hv;split at h<;>first|(cases h;done)|skip
  ·rename_i t sz' els' hg;simp only[az,cq]at h;obtain⟨rfl,rfl⟩:=h;obtain⟨hd,x,q1,q2,q3⟩:=R.row hg (by simp);rw[h1]at q1;cases q1;simp only[rowHP]at q2;obtain⟨a,c,xs,rfl,q4,q5,q6⟩:=q2;exact⟨a,c,xs,rfl,(zLb q6).2,q4,q5,x,aR q6,q3⟩
  ·rename_i sz' els' hg;simp only[az,cq]at h;obtain⟨rfl,rfl⟩:=h;obtain⟨hd,x,q1,q2,q3⟩:=R.row hg (by simp);rw[h1]at q1;cases q1;simp only[rowHP]at q2;exact zHv R q2.2
  ·rename_i t els' hg;simp only[az,cq]at h;obtain⟨rfl,rfl⟩:=h;obtain⟨hd,x,q1,q2,q3⟩:=R.row hg (by simp);rw[h1]at q1;cases q1;simp only[rowHP]at q2;obtain⟨b,c,xs,r,rfl,q4,q5,q6,q7⟩:=q2;have hl:xs.length=els'.length*1:=by rw[q4.length,jN q5]
   exact⟨_,c,xs,rfl,q6,q4,q5,x,.inr ⟨b,0,xs++r,t,_,rfl,q7,by rw[y8q,y5y (by omega),y5n (by omega)],hl,q6⟩,q3⟩
 ·cases h
def zE (els:List (List D)) (i f n:Nat):Option (List D):=
 match els[i]? with
 |some el=>bif be (f+n) el.length then ap ((el.drop f).take n)else aq
 |none=>aq
def shC:aa->(D->Prop)->Prop
 | .int k _,K=>∃n:Int,K (.v (.int k n))
 | .bool _,K=>∃b:Bool,K (.v (.bool b))
 | .string _,K=>∃s:ByteArray,K (.v (.string s))
 | .slice _ _ _,K=>∃(sz:Nat) (els:List (List D)),K (.ro sz els)
 |_,K=>∃d:D,K d
def shL:List aa->(List D->Prop)->Prop
 |[],K=>K []
 |z::zs,K=>shC z λd=>shL zs λds=>K (d::ds)
def zEu (P:ab):Nat->ac->List ac
 |0,t=>[t]
 |f+1,t=>match P.underlying t with
  |some (.struct fs)=>(fs.toList.map λfd=>zEu P f fd.type).flatten
  |some (.array n e)=>(aw n (zEu P f e)).flatten
  |_=>[t]
def z2p (P:ab):List ac->List aa->(List D->Prop)->Prop
 |t::ts,z::zs,K=>match uT P t with
  |some sz=>∃els:List (List D),z2p P ts zs λds=>K (.ro sz els::ds)
  |none=>shC z λd=>z2p P ts zs λds=>K (d::ds)
 |_,zs,K=>shL zs K
def shT (P:ab) (t:ac) (K:List D->Prop):Prop:=
 match mU P t with
 |some z=>z2p P (zEu P 6 t) z.cells.toList K
 |none=>False
def z9k {z:aa} {K:D->Prop} (h:shC z K):∃d,K d:=by
 cases z<;>simp only[shC]at h<;>first|(obtain⟨n,h⟩:=h;exact⟨_,h⟩)|(obtain⟨a,n,h⟩:=h;exact⟨_,h⟩)
def zTx:∀{zs:List aa} {K:List D->Prop},shL zs K->∃ds,K ds
 |[],_,h=>⟨_,h⟩
 |_::_,_,h=>let⟨_,h1⟩:=z9k h;let⟨_,h2⟩:=zTx h1;⟨_,h2⟩
def zPk {P:ab}:∀{ts:List ac} {zs:List aa} {K:List D->Prop},z2p P ts zs K->∃ds,K ds
 |t::ts,z::zs,K,h=>by
  unfold z2p at h;split at h
  ·obtain⟨els,h⟩:=h;obtain⟨ds,h⟩:=zPk h;exact⟨_,h⟩
  ·obtain⟨d,h⟩:=z9k h;obtain⟨ds,h⟩:=zPk h;exact⟨_,h⟩
 |[],zs,K,h=>by unfold z2p at h;exact zTx h
 |t::ts,[],K,h=>by unfold z2p at h;exact zTx h
def bC {P:ab} {t:ac} {K:List D->Prop} (h:shT P t K):∃ds,K ds:=by
 unfold shT at h;split at h
 ·exact zPk h
 ·exact h.elim
def mkD (P:ab) (t:ac) (ds:List D):Option V:=
 match zKn P t with
 |some n=>bif bc ds.length n then ap (.agg (ds.map .d))else aq
 |none=>bif zDd P t then(match ds with
  |[d]=>ap (.d d)
  |_=>aq)else aq
def zJn {P:ab} {E:Ev} {w:af} {t sz i f:Nat} {els:List (List D)} {b oo:Nat} {c:Nat} {xs:List aa} {ds:List D} {v:V} (hx:DRL E.F els.flatten xs) (hu:∀el∈els,el.length=sz)
 (hs:Sat w (slR sz (ap ⟨b,oo,aq⟩) els.length c xs)) (hp:zE els i f ds.length=ap ds) (hm:mkD P t ds=ap v):∃y,VR E v y/\mT P t ⟨b,oo+i*sz+f,aq⟩ w y:=by
 unfold zE at hp;split at hp<;>first|(cases hp;done)|skip
 rename_i el hel;obtain⟨hb,hp⟩:=yT hp;have hb:=y7i hb;have hmem:=y5m hel;have hi:i<els.length:=(y5f.1 hel).1;rw[hu el hmem]at hb;obtain⟨b',o',l,T,fr,e1,e2,e3⟩:=zBt hs (by omega);cases e1;have hpart:=(hx.drop (i*sz+f)).take ds.length;have hfp:=zHy hu hel hb;rw[hfp,ba hp]at hpart;have hlen:xs.length=els.length*sz:=by rw[hx.length,jN hu]
 have hin:i*sz+sz<=els.length*sz:=by
  have:=y6o sz (show i+1<=els.length by omega);rwa [y8a]at this
 have hmemory:(l.drop (oo+i*sz+f)).take ds.length=(xs.drop (i*sz+f)).take ds.length:=by
  rw[<- e3,ay,xBi,y8l,y8s oo];congr 1;rw[y8u];omega
 unfold mkD at hm;split at hm
 ·rename_i n hn;obtain⟨hq,hm⟩:=yT hm;have:=y5e hq;cases hm;refine⟨.agg ((xs.drop (i*sz+f)).take ds.length).toArray,by simp only[VR];exact⟨_,rfl,hpart.vrl⟩,?_⟩;refine zAs hn e2 (by rw[<- this];exact hmemory) ?_;rw[hpart.length,this]
 ·obtain⟨hq,hm⟩:=yT hm;split at hm<;>first|(cases hm;done)|skip
  rename_i d;cases hm;simp only[y5g,y6v,DRL]at hpart hmemory;obtain⟨y,ys,e4,h4,h5⟩:=hpart;subst h5;refine⟨y,by simpa only[VR]using h4,wP hq e2 ?_⟩;have:((l.drop (oo+i*sz+f)).take 1)[0]? =ap y:=by rw[hmemory,e4];rfl
  rw[y9d,y5d (by omega),y7p]at this;simpa using this
def z7t (P:ab) (t:ac) (vs:List V) (off:Nat):Option V:=
 match zKn P t with
 |some sz=>bif be (off+sz) vs.length then ap (.agg ((vs.drop off).take sz))else aq
 |none=>bif zDd P t then vs[off]? else aq
def zJf {P:ab} {E:Ev} {w:af} {t b off:Nat} {vs:List V} {l:List aa} {T:ac} {fr:Nat×Nat} {v:V} (hv:VRL E vs l) (hb:w.heap[b]? =ap (.cells l.toArray T fr)) (h:z7t P t vs off=ap v):
 ∃y,VR E v y/\mT P t ⟨b,off,aq⟩ w y:=by
 unfold z7t at h;split at h
 ·rename_i n hn;obtain⟨hq,h⟩:=yT h;have hq:=y7i hq;cases h;have hp:=(hv.drop off).take n;refine⟨.agg ((l.drop off).take n).toArray,by simp only[VR];exact⟨_,rfl,hp⟩,zAs hn hb rfl ?_⟩;rw[hp.length,y5t,y5z];omega
 ·obtain⟨hq,h⟩:=yT h;obtain⟨y,h1,h2⟩:=hv.get h;exact⟨y,h2,wP hq hb h1⟩
def kQ (s:ByteArray):List (List D):=s.data.toList.map λb=>[.v (.int .u8 b.toNat)]
def bF:aa->aa->Bool
 | .int k a,.int k' b=>keq k k' && decide (a=b)
 | .string a,.string b=>decide (a=b)
 |_,_=>au
def kK (x:aa):List (aa×List D)->Option (List D)
 |[]=>aq
 |(y,ds)::l=>bif bF x y then ap ds else kK x l
def LK (es:List (aa×List D)) (x:aa) (z ds:List D) (b:Bool):Prop:=(kK x es=ap ds/\b=ar)\/(kK x es=aq/\ds=z/\b=au)
def yXj:aa->Bool
 | .int _ _=>ar
 |_=>au
def yWb:aa->Bool
 | .string _=>ar
 |_=>au
def yCn (P:ab) (t:ac) (x:aa):Bool:=
 match P.underlying t with
 |some (.int _)=>yXj x
 |some .string=>yWb x
 |_=>au
def like:aa->aa->Bool
 | .int k _,.int k' _=>keq k k'
 | .string _,.string _=>ar
 |_,_=>au
def pY (x:aa) (es:List (aa×List D)):Prop:=∀p∈es,like x p.1=ar
def uH (x:aa) (ds:List D):List (aa×List D)->List (aa×List D)
 |[]=>[(x,ds)]
 |(y,e)::l=>bif bF x y then(y,ds)::l else(y,e)::uH x ds l
def zBi (x:aa):List (aa×List D)->List (aa×List D)
 |[]=>[]
 |(y,e)::l=>bif bF x y then l else(y,e)::zBi x l
def mkM (P:ab) (t:ac) (ds:List D):Option V:=
 match zKn P t with
 |some n=>bif bc ds.length n && !(bc n 1)then ap (.agg (ds.map .d))else aq
 |none=>bif zDd P t then(match ds with
  |[d]=>ap (.d d)
  |_=>aq)else aq
def zQa (P:ab) (t:ac):Option (ac×ac):=
 match P.underlying t with
 |some (.map k e)=>ap (k,e)
 |_=>aq
def yIk {a b:ao} (h:keq a b=ar):a=b:=by
 cases a<;>cases b<;>first|rfl|cases h
def yOd {x y:aa} (h:bF x y=ar):x=y:=by
 unfold bF at h;split at h
 ·simp only[y5o,y6p]at h;rw[yIk h.1,h.2]
 ·rw[y6b h]
 ·cases h
def zAa {P:ab} {t:ac} {x:aa} (h:yCn P t x=ar):∃kd,P.underlying t=ap kd/\zYq kd x:=by
 unfold yCn at h;split at h
 ·rename_i ik hu;refine⟨_,hu,.inl ?_⟩;cases x<;>first|(cases h;done)|exact⟨_,_,_,rfl,rfl⟩
 ·rename_i hu;refine⟨_,hu,.inr ?_⟩;cases x<;>first|(cases h;done)|exact⟨_,rfl,rfl⟩
 ·cases h
def z5w (s s':ByteArray):(s==s')=decide (s=s'):=by
 by_cases h:s=s'
 ·subst h;rw[y5s rfl];show(s.data==s.data)=ar;simp
 ·rw[y5q h];cases hb:s==s'
  ·rfl
  ·have:(s.data==s'.data)=ar:=hb;exact absurd (ByteArray.ext (eq_of_beq this)) h
def rB {kd:TypeDesc} {x y:aa} (hk:zYq kd x) (hl:like x y=ar):Instr.sameNow kd x y=ap (bF x y):=by
 rcases hk with⟨ik,k,n,rfl,rfl⟩|⟨s,rfl,rfl⟩
 ·cases y<;>simp only[like,y5v]at hl
  rename_i k' m;have:=yIk hl;subst this;simp only[Instr.sameNow,if_true,bF,hl,y7z];rfl
 ·cases y<;>simp only[like,y5v]at hl
  rename_i s';simp only[Instr.sameNow,bF];congr 1;exact z5w s s'
def zXr (k:ao):keq k k=ar:=by cases k<;>rfl
def zRk {kd:TypeDesc} {x:aa} (hk:zYq kd x):like x x=ar:=by
 rcases hk with⟨ik,k,n,rfl,rfl⟩|⟨s,rfl,rfl⟩
 ·exact zXr k
 ·rfl
def zSq {kd:TypeDesc} {x:aa} (hk:zYq kd x):bF x x=ar:=by
 rcases hk with⟨ik,k,n,rfl,rfl⟩|⟨s,rfl,rfl⟩
 ·simp only[bF,zXr,y7z,decide_true]
 ·simp only[bF,decide_true]
def zTf {l:List aj} {ck:Nat} (h:vH l ck) {e:aj} (he:e.born=ck):vH (l++[e]) (ck+1):=by
 refine⟨?_,λx hx=> ?_⟩
 ·rw[y5l,y7l];refine⟨h.1,by simp,λa ha b hb=> ?_⟩;obtain⟨x,hx,rfl⟩:=y6n.1 ha;have:=h.2 x hx;simp only[y5p,y8t,y6r]at hb;omega
 ·rcases y6f.1 hx with hx|hx
  ·have:=h.2 x hx;omega
  ·rw[y6r.1 hx,he];omega
def zPh {l:List aj} {ck q:Nat} (h:vH l ck) {m e:aj} (hm:l[q]? =ap m) (he:e.born=m.born):vH (l.set q e) ck:=by
 have hq:(l.set q e).map (·.born)=l.map (·.born):=by
  apply y9a;intro i;rw[y6q,y6q,y8r];split
  ·rename_i hi;subst hi;split
   ·rw[hm];simp[he]
   ·rename_i hlt;rw[y6h (by omega)];first|rfl|done
  ·rfl
 refine⟨by rw[hq];exact h.1,λx hx=> ?_⟩;rcases List.mem_or_eq_of_mem_set hx with hx|rfl
 ·exact h.2 x hx
 ·rw[he];exact h.2 m (y5m hm)
def z2f {l:List aj} {ck q:Nat} (h:vH l ck):vH (l.eraseIdx q) ck:=
 ⟨((List.eraseIdx_sublist l q).map _).nodup h.1,λx hx=>h.2 x ((List.eraseIdx_sublist l q).mem hx)⟩
def yJy:vH [] 0:=⟨by simp,by simp⟩
def zBa {F:PH} {kd:TypeDesc} {x:aa} (hk:zYq kd x):∀{es:List (aa×List D)} {ents:List aj} (i:Nat),MR F es ents->pY x es->
 (bu kd x ents i=ap aq/\kK x es=aq/\(∀ds,uH x ds es=es++[(x,ds)])/\zBi x es=es/\∀e:aj,e.key=x->bu kd x (ents++[e]) i=ap (ap (i+ents.length,e.val)))\/
 (∃q m ds ys,bu kd x ents i=ap (ap (i+q,m.val))/\ents[q]? =ap m/\m.key=x/\kK x es=ap ds/\DRL F ds ys/\m.val=pN ys/\
   (∀ds' ys' (e:aj),DRL F ds' ys'->e.key=x->e.val=pN ys'->MR F (uH x ds' es) (ents.set q e))/\MR F (zBi x es) (ents.eraseIdx q)/\∀e:aj,e.key=x->bu kd x (ents.set q e) i=ap (ap (i+q,e.val)))
 |[],ents,i,h,_=>by
  simp only[MR]at h;subst h;exact .inl ⟨rfl,rfl,λds=>rfl,rfl,λe he=>by
   have hx:like x x=ar:=zRk hk;simp only[y7v,bu,he,rB hk hx,zSq hk];rfl⟩
 |(y,e)::es,ents,i,h,hl=>by
  simp only[MR]at h;obtain⟨m,ms,rfl,h1,⟨ys,h2,h3⟩,h4⟩:=h;have hy:like x y=ar:=hl (y,e) y5h;have hs:=rB hk hy;cases hb:bF x y with
  |true=>
   have hxy:=yOd hb;refine .inr ⟨0,m,e,ys,?_,rfl,by rw[h1,hxy],?_,h2,h3,?_,?_,?_⟩
   ·simp only[bu,h1,hs,hb];rfl
   ·simp only[kK,hb,cond_true]
   ·intro ds' ys' e' q1 q2 q3;simp only[uH,hb,cond_true,xAz,MR];exact⟨e',ms,rfl,by rw[q2,hxy],⟨ys',q1,q3⟩,h4⟩
   ·simp only[zBi,hb,cond_true,List.eraseIdx_cons_zero];exact h4
   ·intro e' he';simp only[xAz,bu,he',rB hk (zRk hk),zSq hk];rfl
  |false=>
   have hl':pY x es:=λp hp=>hl p (y5j _ hp)
   rcases zBa hk (i+1) h4 hl' with⟨q1,q2,q3,q4,q5⟩|⟨q,m',ds,ys',q1,q2,q3,q4,q5,q6,q7,q8,q9⟩
   ·refine .inl ⟨?_,?_,λds=> ?_,?_,λe' he'=> ?_⟩
    ·simp only[bu,h1,hs,hb];exact q1
    ·simp only[kK,hb,cond_false];exact q2
    ·simp only[uH,hb,cond_false,q3 ds,y6t]
    ·simp only[zBi,hb,cond_false,q4]
    ·simp only[y6t,bu,h1,hs,hb];rw[q5 e' he',y5g,show i+1+ms.length=i+(ms.length+1)by omega]
   ·refine .inr ⟨q+1,m',ds,ys',?_,by simpa using q2,q3,?_,q5,q6,?_,?_,λe' he'=> ?_⟩
    ·simp only[bu,h1,hs,hb];rw[q1,show i+1+q=i+(q+1)by omega]
    ·simp only[kK,hb,cond_false];exact q4
    ·intro ds' ys2 e' r1 r2 r3;simp only[uH,hb,cond_false,xBa,MR];exact⟨m,_,rfl,h1,⟨ys,h2,h3⟩,q7 ds' ys2 e' r1 r2 r3⟩
    ·simp only[zBi,hb,cond_false,List.eraseIdx_cons_succ,MR];exact⟨m,_,rfl,h1,⟨ys,h2,h3⟩,q8⟩
    ·simp only[xBa,bu,h1,hs,hb];rw[q9 e' he',show i+1+q=i+(q+1)by omega]
def jK {P:ab} {kt:ac} {kd:TypeDesc} (hu:P.underlying kt=ap kd) {x:aa} (hk:zYq kd x) (b:Bool) (w:af):(Instr.checkKey b 10000 kt x).run P w= .ok () w:=by
 rcases hk with⟨ik,k,n,rfl,rfl⟩|⟨s,rfl,rfl⟩<;>
  (unfold Instr.checkKey;simp only[bind,run_bind,Cv.run_underlying hu];rfl)
def wL {P:ab} {kt:ac} {kd:TypeDesc} (hu:P.underlying kt=ap kd) {x:aa} {ents:List aj} {r:Option (Nat×aa)} (h:bu kd x ents 0=ap r) (w:af):(Instr.findKey kt x ents).run P w= .ok r w:=by
 simp only[Instr.findKey,bind,run_bind,Cv.run_underlying hu,h];rfl
def uC {P:ab} {t:ac} {ke:ac×ac} (h:zQa P t=ap ke):P.underlying t=ap (.map ke.1 ke.2):=by
 unfold zQa at h;split at h
 ·rename_i k e hu;cases h;exact hu
 ·cases h
def zVc {P:ab} {E:Ev} {t:ac} {ds:List D} {v:V} (h:mkM P t ds=ap v) {ys:List aa} (hd:DRL E.F ds ys):VR E v (pN ys):=by
 unfold mkM at h;split at h
 ·obtain⟨hb,h⟩:=yT h;cases h;simp only[y5o,y8o]at hb;have h1:=y5e hb.1;have hl:ys.length=ds.length:=hd.length;have:pN ys= .agg ys.toArray:=by
   unfold pN;split
   ·rename_i y;rw[h1]at hl;simp only[y5g,y6v]at hl;rw[<- hl]at hb;exact absurd hb.2 (by decide)
   ·rfl
  rw[this];simp only[VR];exact⟨ys,rfl,hd.vrl⟩
 ·obtain⟨hb,h⟩:=yT h;split at h<;>first|(cases h;done)|skip
  cases h;simp only[DRL]at hd;obtain⟨x,xs,rfl,h1,rfl⟩:=hd;simpa only[VR,pN]using h1
def zTh (P:ab) (t:ac):Option (List D):=
 match mU P t with
 |some (.agg cs)=>(match zKn P t with
  |some _=>bif okc (.agg cs)then ap (cs.toList.map .v)else aq
  |none=>aq)
 |some z=>(match zKn P t with
  |some _=>aq
  |none=>bif z.oneC then ap [.v z]else aq)
 |none=>aq
def yDz {P:ab} {E:Ev} {t:ac} {ds:List D} {v:V} (h:zTh P t=ap ds) (hm:mkM P t ds=ap v):∃z,mU P t=ap z/\VR E v z:=by
 unfold zTh at h;split at h
 ·rename_i cs hz;split at h<;>first|(cases h;done)|skip
  rename_i n hn;obtain⟨hb,h⟩:=yT h;cases h;refine⟨_,hz,?_⟩;simp only[mkM,hn]at hm;obtain⟨_,hm⟩:=yT hm;cases hm;simp only[VR];refine⟨cs.toList,by simp,?_⟩;rw[y7q];exact yFw hb
 ·rename_i z hne hz;split at h<;>first|(cases h;done)|skip
  rename_i hn;obtain⟨hb,h⟩:=yT h;cases h;refine⟨_,hz,?_⟩;simp only[mkM,hn]at hm;obtain⟨_,hm⟩:=yT hm;cases hm;simp only[VR,DR];exact⟨trivial,hb⟩
 ·cases h
def zCr (s:St) (n:Nat):Option Nat:=
 match s.get n with
 |some (.objs _ _ _ _ l _)=>ap l.length
 |_=>aq
def zGi {k:Ko} {L:List HP} {E:Ev} {s:St} {w:af} (R:Rel k L E s w) {n len:Nat} (h:zCr s n=ap len):
 ∃a c sub,E.tab[n]? =ap (.slice a len c,sub)/\sub.length=len/\(∀p∈sub,∃b oo,p= .pointer (ap ⟨b,oo,aq⟩))/\Sat w (slR 1 a len c sub):=by
 unfold zCr at h;split at h<;>first|(cases h;done)|skip
 rename_i t T m unf l hole hg;cases h;obtain⟨⟨v,sub⟩,x,h1,h2,h3⟩:=R.row hg (by simp);simp only[rowHP]at h2;obtain⟨a,c,e1,e2,e3,e4⟩:=h2;obtain⟨g,g',q1,q2,q3,rfl⟩:=e4;subst e1;exact⟨a,c,sub,h1,e2,e3,g,aR q1,λb o e=>h3 b o (by simp[un,e])⟩
structure HolI where
 q:Bool
 T:Nat
 sz:Nat
 els:List (List D)
 i:Nat
 f:Nat
 b:Bool
 m:Option Nat
def aT (s:St) (n:Nat):Option HolI:=
 match s.get n with
 |some (.hol q t sz els i f b m)=>ap ⟨q,t,sz,els,i,f,b,m⟩
 |_=>aq
def sH {s:St} {n:Nat} {x:HolI} (h:aT s n=ap x):s.get n=ap (.hol x.q x.T x.sz x.els x.i x.f x.b x.m):=by
 unfold aT at h;split at h<;>first|(cases h;done)|skip
 rename_i hg;cases h;exact hg
def HolI.clear (x:HolI) (i f k:Nat):Prop:=x.f<x.sz/\(x.b=ar->i=x.i->f+k<=x.f\/x.f<f)
def Rel.hol {k:Ko} {L:List HP} {E:Ev} {s:St} {w:af} (R:Rel k L E s w) {n:Nat} {x:HolI} (h:aT s n=ap x):
 ∃a c sub ys xs,E.tab[n]? =ap (.slice a x.els.length c,sub)/\DRL E.F x.els.flatten ys/\(∀el∈x.els,el.length=x.sz)/\HolX E.tab (x.i*x.sz+x.f) x.b ys xs x.m/\Sat w (slR x.sz a x.els.length c xs):=by
 obtain⟨⟨hv,sub⟩,z,h1,h2,h3⟩:=R.row (sH h) (by simp);simp only[rowHP]at h2;obtain⟨a,c,ys,xs,rfl,q2,q3,q4,q5⟩:=h2;exact⟨a,c,sub,ys,xs,h1,q2,q3,q4,z,aR q5,h3⟩
def zNb {tab:List Hd} {p:Nat} {b:Bool} {ys xs:List aa}:∀{m:Option Nat},HolX tab p b ys xs m->xs.length=ys.length
 |some m,⟨y,l,h1,h2,h3⟩=>by cases b<;>simp[h3]
 |none,⟨y,h1,h3⟩=>by cases b<;>simp[h3]
def yKg {tab:List Hd} {p:Nat} {b:Bool} {ys xs:List aa}:∀{m:Option Nat},HolX tab p b ys xs m->∀o n,(b=ar->o+n<=p\/p<o)->(xs.drop o).take n=(ys.drop o).take n:=by
 have key:∀{y:aa},xs=(bif b then ys.set p y else ys)->∀o n,(b=ar->o+n<=p\/p<o)->(xs.drop o).take n=(ys.drop o).take n:=by
  intro y h o n hc;cases b with
  |false=>rw[h];rfl
  |true=>
   rw[h,cond_true];apply y9a;intro j;rw[y9d,y9d];split
   ·rw[y7p,y7p,y8r,y5b (by have:=hc rfl;omega)]
   ·rfl
 intro m;cases m with
 |none=>rintro⟨y,_,h⟩;exact key h
 |some m=>rintro⟨y,l,_,_,h⟩;exact key h
def z6o {sz i f i0 f0 k:Nat} (h1:f+k<=sz) (h2:f0<sz) (hne:i=i0->f+k<=f0\/f0<f):i*sz+f+k<=i0*sz+f0\/i0*sz+f0<i*sz+f:=by
 rcases Nat.lt_trichotomy i i0 with h|h|h
 ·have:=y6o sz (show i+1<=i0 by omega);rw[y8a]at this;left;omega
 ·subst h;rcases hne rfl with h|h
  ·left;omega
  ·right;omega
 ·have:=y6o sz (show i0+1<=i by omega);rw[y8a]at this;right;omega
def zQh {P:ab} {E:Ev} {w:af} {t sz i f:Nat} {els:List (List D)} {b oo:Nat} {c:Nat} {xs:List aa} {ds:List D} {v:V} (hlen:xs.length=els.length*sz) (hu:∀el∈els,el.length=sz)
 (hs:Sat w (slR sz (ap ⟨b,oo,aq⟩) els.length c xs)) (hp:zE els i f ds.length=ap ds) (hpart:DRL E.F ds ((xs.drop (i*sz+f)).take ds.length)) (hm:mkD P t ds=ap v):∃y,VR E v y/\mT P t ⟨b,oo+i*sz+f,aq⟩ w y:=by
 unfold zE at hp;split at hp<;>first|(cases hp;done)|skip
 rename_i el hel;obtain⟨hb,hp⟩:=yT hp;have hb:=y7i hb;have hmem:=y5m hel;have hi:i<els.length:=(y5f.1 hel).1;rw[hu el hmem]at hb;obtain⟨b',o',l,T,fr,e1,e2,e3⟩:=zBt hs (by omega);cases e1;have hin:i*sz+sz<=els.length*sz:=by
  have:=y6o sz (show i+1<=els.length by omega);rwa [y8a]at this
 have hmemory:(l.drop (oo+i*sz+f)).take ds.length=(xs.drop (i*sz+f)).take ds.length:=by
  rw[<- e3,ay,xBi,y8l,y8s oo];congr 1;rw[y8u];omega
 unfold mkD at hm;split at hm
 ·rename_i n hn;obtain⟨hq,hm⟩:=yT hm;have:=y5e hq;cases hm;refine⟨.agg ((xs.drop (i*sz+f)).take ds.length).toArray,by simp only[VR];exact⟨_,rfl,hpart.vrl⟩,?_⟩;refine zAs hn e2 (by rw[<- this];exact hmemory) ?_;rw[hpart.length,this]
 ·obtain⟨hq,hm⟩:=yT hm;split at hm<;>first|(cases hm;done)|skip
  rename_i d;cases hm;simp only[y5g,y6v,DRL]at hpart hmemory;obtain⟨y,ys,e4,h4,h5⟩:=hpart;subst h5;refine⟨y,by simpa only[VR]using h4,wP hq e2 ?_⟩;have:((l.drop (oo+i*sz+f)).take 1)[0]? =ap y:=by rw[hmemory,e4];rfl
  rw[y9d,y5d (by omega),y7p]at this;simpa using this
def zUj (P:ab) (t:ac) (x:HolI) (sz i f:Nat) (K:V->Prop):Prop:=
 bif bc sz x.sz then(match x.q,x.m,uT P t with
  |true,ap c,ap _=>bif zDd P t then(i=x.i/\f=x.f/\x.b=ar/\i<x.els.length/\f<sz)/\K (.own c)else False
  |_,_,_=>shT P t λds=>zE x.els i f ds.length=ap ds/\x.clear i f ds.length/\optK (mkD P t ds) K)else False
def z3v {P:ab} {k:Ko} {L:List HP} {E:Ev} {s:St} {w:af} (R:Rel k L E s w) {t n sz i f:Nat} {x:HolI} {K:V->Prop} (hx:aT s n=ap x) (h:zUj P t x sz i f K)
 {b oo m c:Nat} {l:List aa} (e1:E.tab[n]? =ap (.slice (ap ⟨b,oo,aq⟩) m c,l)):∃v y,K v/\VR E v y/\mT P t ⟨b,oo+i*sz+f,aq⟩ w y:=by
 unfold zUj at h;obtain⟨hb,h⟩:=zK h;have e:=y5e hb;subst e;obtain⟨a,c',sub,ys,xs,q1,q2,q3,q4,q5⟩:=R.hol hx;rw[e1]at q1;cases q1;have hyl:ys.length=x.els.length*x.sz:=by rw[q2.length,jN q3]
 have hxl:xs.length=x.els.length*x.sz:=by rw[zNb q4,hyl]
 split at h
 ·rename_i cc tt hq hm hs;obtain⟨hsc,⟨rfl,rfl,hbt,hi,hf⟩,hk⟩:=zK h;rw[hm]at q4;obtain⟨y,ly,r1,⟨ya,yn,yc,r2⟩,r3⟩:=q4;rw[hbt,cond_true]at r3;have hin:x.i*x.sz+x.sz<=x.els.length*x.sz:=by
   have:=y6o x.sz (show x.i+1<=x.els.length by omega);rwa [y8a]at this
  obtain⟨b',o',l',T,fr,e2,e3,e4⟩:=zBt q5 (by omega);cases e2;refine⟨_,y,hk,by simp only[VR];exact⟨ly,r1,ya,yn,yc,r2⟩,wP hsc e3 ?_⟩;have:xs[x.i*x.sz+x.f]? =ap y:=by rw[r3,y8r,y5d rfl,y5d (by omega)]
  rw[<- e4,y9d,y5d (by omega),y7p]at this;rw[show oo+x.i*x.sz+x.f=oo+(x.i*x.sz+x.f)by omega];exact this
 ·obtain⟨ds,hp,⟨hfs,hcl⟩,h⟩:=bC h;obtain⟨v,hm,hk⟩:=zL h;have hpp:=hp;unfold zE at hpp;split at hpp<;>first|(cases hpp;done)|skip
  rename_i el hel;obtain⟨hbb,hpp⟩:=yT hpp;have hbb:=y7i hbb;rw[q3 el (y5m hel)]at hbb;have hpart:=(q2.drop (i*x.sz+f)).take ds.length;rw[zHy q3 hel hbb,ba hpp]at hpart;rw[<- yKg q4 (i*x.sz+f) ds.length (λhb=>z6o hbb hfs (hcl hb))]at hpart;obtain⟨y,hy,hh⟩:=zQh hxl q3 q5 hp hpart hm;exact⟨v,y,hk,hy,hh⟩
def sr (P:ab) (o:ak) (ρ:y8) (s:St) (K:V->Prop):Prop:=
 match o.op with
 | .load t x=>match sev ρ x with
   | .nm n off=>match s.get n with
     |some (.cells vs _)=>optK (z7t P t vs off) K
     |_=>False
   | .el n sz i f=>match zCr s n with
     |some len=>bif bc sz 1 && bc f 0 && zDd P t then i<len/\K (.sub n i)else False
     |none=>match aT s n with
     |some x=>zUj P t x sz i f K
     |none=>optK (sE s (.own n)) λse=>bif bc sz se.1 then shT P t λds=>zE se.2 i f ds.length=ap ds/\optK (mkD P t ds) K else False
   | .re sz els i f=>shT P t λds=>zE els i f ds.length=ap ds/\optK (mkD P t ds) K
   | .na n off i=>match s.get n with
     |some (.cells vs _)=>bif zDd P t then shT P t λds=>match ds with
      |[d]=>(vs.drop off)[i]?=ap (.d d)/\K (.d d)
      |_=>False else False
     |some (.vec es _)=>bif zDd P t then shT P t λds=>match ds with
      |[d]=>(es.drop off)[i]?=ap d/\K (.d d)
      |_=>False else False
     |_=>False
   |_=>False
 | .indexAddr t x i=>match sev ρ x with
   | .own n=>match sev ρ i with
     | .d (.v (.int _ i))=>optK (uT P t) λsz=>match zCr s n with
       |some len=>bif bc sz 1 then(0<=i/\i<len)/\K (.el n 1 i.toNat 0)else False
       |none=>match aT s n with
       |some x=>bif bc sz x.sz then(0<=i/\i<x.els.length)/\K (.el n sz i.toNat 0)else False
       |none=>optK (sE s (.own n)) λse=>bif bc sz se.1 then(0<=i/\i<se.2.length)/\K (.el n sz i.toNat 0)else False
     |_=>False
   |_=>False
 | .binOp op t x y _=>match sev ρ x with
   | .own n=>bif zWk y && zFp P t then optK (sE s (.own n)) λse=>z2j op se.2 K else False
   |_=>False
 | .convert st d x=>bif yJo P st && zCs P d then optK (sE s (sev ρ x)) λse=>∃b:ByteArray,se.1=1/\se.2=kQ b/\K (.d (.v (.string b)))else False
 | .call c=>match c.callee with
   | .builtin .len=>match evs ρ c.args.toList with
     |[.own n]=>optK c.argTypes[0]? λt=>bif zFp P t then(match zCr s n with
      |some len=>K (.d (.v (.int .i64 len)))
      |none=>optK (sE s (.own n)) λse=>K (.d (.v (.int .i64 se.2.length))))else False
     |[.mp n]=>optK c.argTypes[0]? λt=>bif z1k P t then(match s.get n with
      |some (.map es)=>K (.d (.v (.int .i64 es.length)))
      |_=>False)else False
     |_=>False
   |_=>False
 | .lookup t x i ok=>match sev ρ x with
   | .mp n=>match s.get n with
     |some (.map es)=>optK (zQa P t) λke=>optK (zQi (sev ρ i)) λkv=>bif yCn P ke.1 kv then optK (zTh P ke.2) λz=>pY kv es/\∃b,shT P ke.2 λds=>LK es kv z ds b/\optK (mkM P ke.2 ds) λv=>K (bif ok then .tup [v,.d (.v (.bool b))]else v)else False
     |_=>False
   |_=>False
 |_=>False
def y2p (P:ab) (E:Ev) (o:ak) (ρ:Env) (w:af) (K:V->Prop):Prop:=∃v y,K v/\VR E v y/\(ae (ev ρ) o).run P w=.ok (.value y) w
def z4y {P:ab} {F:PH} {b:ByteArray} {xs:List aa} (h:DRL F (kQ b).flatten xs):xs=(b.data.toList.map UInt8.toNat).map λ(n:Nat)=>Value.int .u8 (n:Int):=by
 unfold kQ at h;revert h;generalize b.data.toList=l
 induction l generalizing xs with
 |nil=>intro h;simpa[DRL]using h
 |cons a l ih=>
  intro h;simp only[y5p,y7o,y6t,y7v,DRL,DR]at h;obtain⟨x,ys,rfl,⟨rfl,_⟩,h⟩:=h;simp only[y5p];rw[ih h]
def zNc {P:ab} {k:Ko} {L:List HP} {E:Ev} {s:St} {w:af} (R:Rel k L E s w) {ρS:y8} {ρ:Env} (he:EnvR E ρS ρ) {o:ak} {K:V->Prop} (h:sr P o ρS s K):y2p P E o ρ w K:=by
 cases ho:o.op
 case load t x=>
  simp only[sr,ho]at h;have hv:=he.ev x;split at h<;>first|exact h.elim|skip
  ·rename_i n off hx;rw[hx]at hv;simp only[VR]at hv;obtain⟨b,oo,l,e1,e2⟩:=hv;split at h<;>first|exact h.elim|skip
   rename_i vs T hg;obtain⟨v,hp,hk⟩:=zL h;obtain⟨b',l',sub,q1,q2,q3⟩:=R.cells hg;rw[e1]at q1;cases q1;obtain⟨y,hy,hh⟩:=zJf q2 q3 hp;refine⟨v,y,hk,hy,?_⟩;simp only[ae,ho,e2,y6c];exact yF hh
  ·rename_i n sz i f hx;rw[hx]at hv;simp only[VR]at hv;obtain⟨b,oo,m,c,l,e1,e2⟩:=hv;split at h
   ·rename_i len hob;obtain⟨hb,hi,hk⟩:=zK h;simp only[y5o]at hb;have b1:=y5e hb.1.1;have b2:=y5e hb.1.2;subst b1 b2;obtain⟨a,c',sub,q1,q2,q3,q4⟩:=zGi R hob;rw[e1]at q1;cases q1;obtain⟨bb,o',ll,T,fr,r1,r2,r3⟩:=zBt q4 (by omega);cases r1;obtain⟨p,hp⟩:∃p,l[i]? =ap p:=⟨_,y6e (by omega)⟩
    obtain⟨pb,po,rfl⟩:=q3 p (y5m hp);refine⟨.sub n i,.pointer (ap ⟨pb,po,aq⟩),hk,by simp only[VR];exact⟨_,l,pb,po,e1,hp,rfl⟩,?_⟩;simp only[ae,ho,e2];refine yF (wP hb.2 r2 ?_);rw[<- r3,y9d,y5d (by omega),y7p]at hp;rw[show oo+i*1+0=oo+i by omega];exact hp
   split at h
   ·rename_i x hx;obtain⟨v,y,hk,hy,hh⟩:=z3v R hx h e1;refine⟨v,y,hk,hy,?_⟩;simp only[ae,ho,e2];exact yF hh
   obtain⟨⟨sz',els⟩,hd,h⟩:=zL h;obtain⟨hb,h⟩:=zK h;have:=y5e hb;simp only at this;subst this;obtain⟨ds,hp,h⟩:=bC h;obtain⟨v,hm,hk⟩:=zL h;obtain⟨a,c',xs,q1,q2,q3,q4,q5⟩:=bY R (v:= .own n) (y:= .slice (ap ⟨b,oo,aq⟩) m c) (by simp only[VR];exact⟨l,e1,_,_,_,rfl⟩) hd;cases q1;obtain⟨y,hy,hh⟩:=zJn q3 q4 q5 hp hm;refine⟨v,y,hk,hy,?_⟩;simp only[ae,ho,e2];exact yF hh
  ·rename_i sz els i f hx;rw[hx]at hv;simp only[VR]at hv;obtain⟨e0,e1,b,oo,l,T,fr,e2,e3,e4⟩:=hv;obtain⟨ds,hp,h⟩:=bC h;obtain⟨v,hm,hk⟩:=zL h;obtain⟨a,c',xs,q1,q2,q3,q4,q5⟩:=zHv R (sz:=sz) (els:=els) (y:= .slice (ap ⟨b,oo,aq⟩) els.length els.length) (by
    simp only[DR];exact⟨_,_,rfl,y5x _,e1,.inr ⟨b,oo,l,T,fr,rfl,e3,e4⟩⟩)
   cases q1;obtain⟨y,hy,hh⟩:=zJn q3 q4 q5 hp hm;refine⟨v,y,hk,hy,?_⟩;simp only[ae,ho,e2];exact yF hh
  ·rename_i n off i hx;rw[hx]at hv;simp only[VR]at hv;obtain⟨b,oo,l,e1,e2⟩:=hv;split at h<;>first|exact h.elim|skip
   rename_i vs T hg;obtain⟨hsc,h⟩:=zK h;obtain⟨ds,h⟩:=bC h;split at h<;>first|exact h.elim|skip
   rename_i d;obtain⟨hd,hk⟩:=h;obtain⟨b',l',sub,q1,q2,q3⟩:=R.cells hg;rw[e1]at q1;cases q1;obtain⟨y,hy,hh⟩:=(q2.drop off).get hd;rw[y7p]at hy;refine⟨.d d,y,hk,hh,?_⟩;simp only[ae,ho,e2,y6c];exact yF (wP hsc q3 hy);rename_i vs T hg;obtain⟨hsc,h⟩:=zK h;obtain⟨ds,h⟩:=bC h;split at h<;>first|exact h.elim|skip
   rename_i d;obtain⟨hd,hk⟩:=h;obtain⟨b',l',sub,q1,q2,q3⟩:=R.vec hg;rw[e1]at q1;cases q1;obtain⟨y,hy,hh⟩:=(q2.drop off).get hd;rw[y7p]at hy;refine⟨.d d,y,hk,by simpa only[VR]using hh,?_⟩;simp only[ae,ho,e2,y6c];exact yF (wP hsc q3 hy)
 case indexAddr t x i=>
  simp only[sr,ho]at h;have hv:=he.ev x;split at h<;>first|exact h.elim|skip
  rename_i n hx;split at h<;>first|exact h.elim|skip
  rename_i kk i' hi;have hiv:=he.ev i;rw[hi]at hiv;have hiv:=hiv.intv;obtain⟨sz,hs,h⟩:=zL h;split at h
  ·rename_i len hob;obtain⟨hb,⟨h0,h1⟩,hk⟩:=zK h;have b1:=y5e hb;subst b1;obtain⟨a,c',sub,q1,q2,q3,q4⟩:=zGi R hob;rw[hx]at hv;simp only[VR]at hv;obtain⟨l,e1,_⟩:=hv;rw[q1]at e1;obtain⟨b,oo,ll,T,fr,rfl,r2,r3⟩:=zBt q4 (by omega);have e1:=ba e1;have e2:ev ρ x= .slice (ap ⟨b,oo,aq⟩) len c':=(congrArg Prod.fst e1).symm;refine⟨_,.pointer (ap ⟨b,oo+i'.toNat*1+0,aq⟩),hk,by simp only[VR];exact⟨_,_,_,_,_,q1,rfl⟩,?_⟩;simp only[ae,ho,e2,hiv];refine yF ?_;rw[jL hs ⟨h0,by omega⟩,vU];rfl
  split at h
  ·rename_i xh hxh;obtain⟨hb,⟨h0,h1⟩,hk⟩:=zK h;have b1:=y5e hb;subst b1;obtain⟨a,c',sub,ys,xs,q1,q2,q3,q4,q5⟩:=R.hol hxh;rw[hx]at hv;simp only[VR]at hv;obtain⟨l,e1,_⟩:=hv;rw[q1]at e1;obtain⟨b,oo,ll,T,fr,rfl,r2,r3⟩:=zBt q5 (by omega);have e1:=ba e1;have e2:ev ρ x= .slice (ap ⟨b,oo,aq⟩) xh.els.length c':=(congrArg Prod.fst e1).symm;refine⟨_,.pointer (ap ⟨b,oo+i'.toNat*xh.sz+0,aq⟩),hk,by simp only[VR];exact⟨_,_,_,_,_,q1,rfl⟩,?_⟩;simp only[ae,ho,e2,hiv];refine yF ?_;rw[jL hs ⟨h0,by omega⟩,vU];rfl
  obtain⟨⟨sz',els⟩,hd,h⟩:=zL h;obtain⟨hb,⟨h0,h1⟩,hk⟩:=zK h;have:=y5e hb;simp only at this;subst this;simp only at h1;rw[hx]at hv;have hv':=hv;simp only[VR]at hv';obtain⟨sub,e1,_⟩:=hv';obtain⟨a,c',xs,q1,q2,q3,q4,q5⟩:=bY R hv hd;obtain⟨b,oo,l,T,fr,rfl,e2,e3⟩:=zBt q5 (by omega);rw[q1]at e1;refine⟨_,.pointer (ap ⟨b,oo+i'.toNat*sz+0,aq⟩),hk,by simp only[VR];exact⟨_,_,_,_,_,e1,rfl⟩,?_⟩;simp only[ae,ho,q1,hiv];refine yF ?_;rw[jL hs ⟨h0,by omega⟩,vU];rfl
 case binOp op t x y u=>
  simp only[sr,ho]at h;split at h<;>first|exact h.elim|skip
  rename_i n hx;obtain⟨hb,h⟩:=zK h;simp only[y5o]at hb;obtain⟨⟨sz',els⟩,hd,hk⟩:=zL h;have hv:=he.ev x;rw[hx]at hv;obtain⟨a,c',xs,q1,q2,q3,q4,q5⟩:=bY R hv hd;obtain⟨v,y',h1,h2,h3⟩:=zLw (E:=E) ho hb.1 hb.2 q1 (λha=>by
   obtain⟨z,hz,_⟩:=q5;rcases hz with⟨h1,_⟩|⟨_,_,_,_,_,h1,_⟩
   ·exact y6d h1
   ·rw[ha]at h1;cases h1) hk
  exact⟨v,y',h1,h2,h3 w⟩
 case convert st d x=>
  simp only[sr,ho]at h;obtain⟨hb,h⟩:=zK h;simp only[y5o]at hb;obtain⟨⟨sz',els⟩,hd,h⟩:=zL h;obtain⟨b,rfl,rfl,hk⟩:=h;obtain⟨a,c',xs,q1,q2,q3,q4,q5⟩:=bY R (he.ev x) hd;refine⟨_,.string b,hk,jJ rfl,?_⟩;obtain⟨e,hes,hu⟩:=z9s hb.1;simp only[ae,ho,q1];refine yF ?_;have hxs:=z4y (P:=P) q3;obtain⟨r1,hfc,r3⟩:=zEh (P:=P) (.inl ⟨a,c',rfl,q5⟩);rcases a with _|ad
  ·obtain⟨x,hx,hs⟩:=q5;have hz:(kQ b).length=0:=by
    rcases hx with⟨h1,_⟩|⟨_,_,_,_,_,h1,_⟩
    ·exact h1
    ·cases h1
   have hb0:b= .empty:=by
    unfold kQ at hz;simp at hz;simpa using hz
   subst hb0;simp only[convert,bind,run_bind,Cv.run_underlying hes,Cv.run_underlying (mY hb.2),Cv.run_underlying hu];rfl
  ·simp only[ct,Nat.mul_one]at hfc;rw[hxs]at hfc;simp only[convert,bind,run_bind,Cv.run_underlying hes,Cv.run_underlying (mY hb.2),Cv.run_underlying hu,Conv.bytesToString,hfc];rw[<- Array.forIn_toList];simp only[bind,pure];rw[zEj (P:=P) w (λ_ _=>rfl) _ .empty];simp only[cd];congr 2;rw[Cv.bs_toNat];apply ByteArray.ext;simp
 case call c=>
  simp only[sr,ho]at h;split at h<;>first|exact h.elim|skip
  rename_i hc;obtain⟨ys,e1,e2⟩:=bD he c.args;split at h<;>first|exact h.elim|skip
  ·rename_i n hargs;obtain⟨t,ht,h⟩:=zL h;obtain⟨hs,h⟩:=zK h;split at h
   ·rename_i len hob;rw[hargs]at e2;simp only[VRL,VR]at e2;obtain⟨y,_,rfl,⟨l,hv,_⟩,rfl⟩:=e2;obtain⟨a,c',sub,q1,q2,q3,q4⟩:=zGi R hob;rw[hv]at q1;have e3:y= .slice a len c':=congrArg Prod.fst (ba q1);subst e3;refine⟨_,.int .i64 len,h,jJ rfl,?_⟩;rw[jM ho hc,e1];obtain⟨e,hse⟩:=sS hs;refine yF ?_;simp only[cr,ht,y7d,y7m,bind,run_bind,Cv.run_underlying hse];rfl
   obtain⟨⟨sz',els⟩,hd,hk⟩:=zL h;rw[hargs]at e2;simp only[VRL]at e2;obtain⟨y,_,rfl,hv,rfl⟩:=e2;obtain⟨a,c',xs,rfl,q2,q3,q4,q5⟩:=bY R hv hd;refine⟨_,.int .i64 els.length,hk,jJ rfl,?_⟩;rw[jM ho hc,e1];obtain⟨e,hse⟩:=sS hs;refine yF ?_;simp only[cr,ht,y7d,y7m,bind,run_bind,Cv.run_underlying hse];rfl
  ·rename_i n hargs;obtain⟨t,ht,h⟩:=zL h;obtain⟨hs,h⟩:=zK h;split at h<;>first|exact h.elim|skip
   rename_i es hg;rw[hargs]at e2;simp only[VRL,VR]at e2;obtain⟨y,_,rfl,⟨bm,sub,e3,rfl⟩,rfl⟩:=e2;obtain⟨hd,x,q1,q2,q3⟩:=R.row hg (by simp);rw[e3]at q1;cases q1;simp only[rowHP]at q2;obtain⟨b,ents,ck,e4,e5,e6,rfl⟩:=q2;cases e4;have hm:=q3 bm _ (by simp[one];rfl);have hl:ents.length=es.length:=by
    clear q3 hm hg h e6
    induction es generalizing ents with
    |nil=>simp only[MR]at e5;rw[e5];rfl
    |cons p es ih=>obtain⟨m,ms,rfl,_,_,e5⟩:=e5;simp[ih _ e5]
   refine⟨_,.int .i64 es.length,h,jJ rfl,?_⟩;rw[jM ho hc,e1];obtain⟨kt,e,hse⟩:=z0c hs;refine yF ?_;simp only[cr,ht,y7d,y7m,bind,run_bind,Cv.run_underlying hse,qG hm trivial];simp[pure,cd,goInt,hl]
 case lookup t x i ok=>
  simp only[sr,ho]at h;split at h<;>first|exact h.elim|skip
  rename_i n hx;split at h<;>first|exact h.elim|skip
  rename_i es hg;obtain⟨ke,hke,h⟩:=zL h;obtain⟨kv,hkv,h⟩:=zL h;obtain⟨hks,h⟩:=zK h;obtain⟨z,hz,hal,b,h⟩:=zL h;obtain⟨ds,hlk,h⟩:=bC h;obtain⟨v,hm,hk⟩:=zL h;have hv:=he.ev x;rw[hx]at hv;simp only[VR]at hv;obtain⟨bm,sub,e1,e2⟩:=hv;obtain⟨hd,x',q1,q2,q3⟩:=R.row hg (by simp);rw[e1]at q1;cases q1;simp only[rowHP]at q2;obtain⟨b',ents,ck,e4,e5,e6,rfl⟩:=q2;rw[e2]at e4;cases e4;have hmm:=q3 bm _ (by simp[one];rfl);have hi:ev ρ i=kv:=rN hkv (he.ev i);obtain⟨kd,hu,hkt⟩:=zAa hks;have hzr:∀v,mkM P ke.2 z=ap v->∃zv,mU P ke.2=ap zv/\VR E v zv:=λv hv=>yDz hz hv
  refine⟨bif ok then .tup [v,.d (.v (.bool b))]else v,?_⟩;have run:∃y,VR E v y/\(bz t (.map (ap bm)) kv ok).run P w= .ok (if ok then .tuple #[y,.bool b]else y) w:=by
   rcases zBa hkt 0 e5 hal with⟨r1,r2,r3,r4,_⟩|⟨q,m,ds',ys,r1,r2,r3,r4,r5,r6,r7,r8,_⟩
   ·rcases hlk with⟨l1,l2⟩|⟨l1,l2,l3⟩
    ·rw[r2]at l1;cases l1
    ·subst l2 l3;obtain⟨zv,z1,z2⟩:=hzr v hm;refine⟨zv,z2,?_⟩;simp only[bz,bind,run_bind,Cv.run_underlying (uC hke),qG hmm trivial,pure,cd,jK hu hkt,wL hu r1,zero_run (dQ z1)]
   ·rcases hlk with⟨l1,l2⟩|⟨l1,l2,l3⟩
    ·rw[r4]at l1;cases l1;subst l2;refine⟨pN ys,zVc hm r5,?_⟩;simp only[bz,bind,run_bind,Cv.run_underlying (uC hke),qG hmm trivial,pure,cd,jK hu hkt,wL hu r1,r6]
    ·rw[r4]at l1;cases l1
  obtain⟨y,hy,hrun⟩:=run;refine⟨if ok then .tuple #[y,.bool b]else y,hk,?_,?_⟩
  ·cases ok
   ·exact hy
   ·simp only[cond_true,if_true,VR,VRL,DR];exact⟨[y,.bool b],rfl,y,_,rfl,hy,_,_,rfl,⟨rfl,rfl⟩,rfl⟩
  ·simp only[ae,ho,e2,hi];exact yF hrun
 all_goals(simp only[sr,ho]at h)
variable {P:ab} {k:Ko} {L:List HP} {E:Ev} {s:St} {w:af}
def yEx {α:Type _} {w:af} {f g:α->HP} (h:∀a x,f a x->g a x):∀{l:List α} {M:List HP} {hs:List PH},Hs w (l.map f++M) hs->Hs w (l.map g++M) hs
 |[],M,hs,H=>H
 |a::l,M,hs,H=>by
  simp only[y5p,y6t]at H ⊢;cases H with
  |cons ha hsub hd hr=>exact .cons (h _ _ ha) hsub hd (yEx h hr)
def wE {α:Type _} {f g:α->HP} (h:∀a x,f a x->g a x) {l:List α} {M:List HP} (H:Hp k w (l.map f++M)):Hp k w (l.map g++M):=
 ⟨H.1,let⟨hs,hh⟩:=H.2;⟨hs,yEx h hh⟩⟩
def zWb {A:HP} {F:PH} {M:List HP} (H:Hp k w (A::fz F::M)):∃x,A x/\Dj x F/\Sub x w/\Hp k w (fz (un x F)::M):=by
 obtain⟨hk,hs,hh⟩:=H;cases hh with
 |cons ha hsub hd hr=>
  cases hr with
  |cons hf hfs hfd hr=>
   simp only[fz]at hf;obtain⟨rfl,hgt⟩:=hf;refine⟨_,ha,hd _ y5h,hsub,hk,_,.cons ⟨rfl,hgt.mono (λb o e=>by
    rcases hd _ y5h b with h|h
    ·simp[un,h,e]
    ·rw[e]at h;cases h)⟩ (yDp hsub hfs) (λg hg=>z5x (hd g (y5j _ hg)) (hfd g hg)) hr⟩
def z1z {x F:PH} (d:Dj x F):FLe F (un x F):=λb o e=>by
 rcases d b with h|h
 ·simp[un,h,e]
 ·rw[e]at h;cases h
def Rel.new (R:Rel k L E s w) {o:AObj} {O:Obj} {hd:Hd} (h:rowHP E.F o (E.tab++[hd]) hd (one w.heap.size O)):E.le ⟨E.F,E.tab++[hd]⟩/\Rel k L ⟨E.F,E.tab++[hd]⟩ (s.new o) (w.alloc O)/\(E.tab++[hd])[s.nx]? =ap hd:=by
 have hle:E.le ⟨E.F,E.tab++[hd]⟩:=⟨FLe.refl _,y9e _ _⟩
 have hget:(E.tab++[hd])[s.nx]? =ap hd:=by rw[<- R.nx];simp
 refine⟨hle,⟨by simp[St.new,R.nx],?_⟩,hget⟩;have H:=R.hp.new O;have H1:Hp k (w.alloc O) (s.rows.map (rHP E)++(pt w.heap.size O::fz E.F::L)):=H.perm (y5r (l₁:=s.rows.map (rHP E))).symm;have H2:=wE (λr x=>rHP.mono hle r) H1;have H3:Hp k (w.alloc O) (pt w.heap.size O::(s.rows.map (rHP ⟨E.F,E.tab++[hd]⟩)++fz E.F::L)):=H2.perm y5r;exact H3.imp λx hx=> .inr ⟨hd,hget,by rw[show x=one w.heap.size O from hx];exact h⟩
def Rel.freeze (R:Rel k L E s w) {n t sz:Nat} {els:List (List D)} (h:s.get n=ap (.own t sz els)):∃E',E.le E'/\E'.tab=E.tab/\Rel k L E' (s.set n (.fro sz els)) w:=by
 have H:Hp k w (rHP E (n,.own t sz els)::fz E.F::((wX n s.rows).map (rHP E)++L)):=(R.focus h).cons y5r;obtain⟨x,hx,hd,hsub,H⟩:=zWb H;rcases hx with⟨e,_⟩|⟨hv,h1,h2⟩
 ·cases e
 simp only[rowHP]at h2;obtain⟨a,c,xs,h3,h4,h5,h6⟩:=h2;have hle:E.le ⟨un x E.F,E.tab⟩:=⟨z1z hd,y9r _⟩
 refine⟨⟨un x E.F,E.tab⟩,hle,rfl,?_⟩;have H1:Hp k w ((wX n s.rows).map (rHP E)++fz (un x E.F)::L):=H.perm y5r.symm;have H2:=wE (λr x=>rHP.mono hle r) H1;have H3:Hp k w (rHP ⟨un x E.F,E.tab⟩ (n,.fro sz els)::((wX n s.rows).map (rHP ⟨un x E.F,E.tab⟩)++fz (un x E.F)::L)):=by
  have:=(@uA k w True _).2 ⟨trivial,H2⟩;refine this.imp λy hy=> .inr ⟨hv,h1,?_⟩
  simp only[rowHP];refine⟨hy.2,?_⟩;simp only[DR];refine⟨a,c,h3,(zLb h6).2,h5,?_⟩;rcases h6 with⟨rfl,q2,rfl,rfl,rfl⟩|⟨b,r,rfl,rfl,q3,q4,q5⟩
  ·exact .inl (y6d q2)
  ·refine .inr ⟨b,0,xs++r,t,(0,0),rfl,?_,DRS_iff.2 ⟨xs,r,rfl,h4.mono hle.1⟩⟩;simp[un,one]
 refine⟨by simpa[St.set]using R.nx,H3.perm ?_⟩;have:=(((vD h).2 (.fro sz els)).map (rHP ⟨un x E.F,E.tab⟩)).append_right (fz (un x E.F)::L);simpa[St.set]using this.symm
def z3f (s:St):V->Option (D×St)
 | .d d=>ap (d,s)
 | .own n=>match s.get n with
   |some (.own _ sz els)=>ap (.ro sz els,s.set n (.fro sz els))
   |some (.fro sz els)=>ap (.ro sz els,s)
   |_=>aq
 |_=>aq
def yJf (s:St):List V->Option (List D×St)
 |[]=>ap ([],s)
 |v::l=>match z3f s v with
  |some (d,s')=>match yJf s' l with
   |some (ds,s2)=>ap (d::ds,s2)
   |none=>aq
  |none=>aq
def zGc (R:Rel k L E s w) {v:V} {d:D} {s':St} (h:z3f s v=ap (d,s')) {y:aa} (hv:VR E v y):∃E',E.le E'/\E'.tab=E.tab/\Rel k L E' s' w/\s'.nx=s.nx/\DR E'.F d y:=by
 unfold z3f at h;split at h<;>first|(cases h;done)|skip
 ·cases h;exact⟨E,Ev.le.refl _,rfl,R,rfl,by simpa only[VR]using hv⟩
 ·rename_i n;simp only[VR]at hv;obtain⟨sub,h1,_⟩:=hv;split at h<;>first|(cases h;done)|skip
  ·rename_i t sz els hg;cases h;obtain⟨E',q1,q2,q3⟩:=R.freeze hg;refine⟨E',q1,q2,q3,rfl,?_⟩;have hg':(s.set n (.fro sz els)).get n=ap (.fro sz els):=by
    simp only[St.get,St.set];have:∀l:List (Nat×AObj),tL n l≠aq->tL n (rH n (.fro sz els) l)=ap (.fro sz els):=by
     intro l
     induction l with
     |nil=>intro h;exact absurd rfl h
     |cons p l ih=>
      obtain⟨m,o⟩:=p;intro h;simp only[tL,rH]at h ⊢;cases hb:bc m n
      ·rw[hb]at h;simp only[tL,hb,cond_false]at h ⊢;exact ih h
      ·simp only[tL,hb,cond_true]
    exact this _ (by simp only[St.get]at hg;rw[hg];simp)
   obtain⟨hd,x,e1,e2,e3⟩:=q3.row hg' (by simp);rw[q2,h1]at e1;cases e1;simp only[rowHP]at e2;exact e2.2
  ·rename_i sz els hg;cases h;obtain⟨hd,x,e1,e2,e3⟩:=R.row hg (by simp);rw[h1]at e1;cases e1;simp only[rowHP]at e2;exact⟨E,Ev.le.refl _,rfl,R,rfl,e2.2⟩
def z7i:∀{vs:List V} {s:St} {E:Ev} (R:Rel k L E s w) {ds:List D} {s':St} (h:yJf s vs=ap (ds,s')) {ys:List aa} (hv:VRL E vs ys),
 ∃E',E.le E'/\E'.tab=E.tab/\Rel k L E' s' w/\s'.nx=s.nx/\DRL E'.F ds ys
 |[],s,E,R,ds,s',h,ys,hv=>by
  simp only[yJf,az,cq]at h;obtain⟨rfl,rfl⟩:=h;simp only[VRL]at hv;exact⟨E,Ev.le.refl _,rfl,R,rfl,by simpa only[DRL]using hv⟩
 |v::vs,s,E,R,ds,s',h,ys,hv=>by
  simp only[yJf]at h;simp only[VRL]at hv;obtain⟨y,ys,rfl,h1,h2⟩:=hv;split at h<;>first|(cases h;done)|skip
  rename_i d s1 hd;split at h<;>first|(cases h;done)|skip
  rename_i ds s2 hds;cases h;obtain⟨E1,q1,q2,q3,q4,q5⟩:=zGc R hd h1;obtain⟨E2,r1,r2,r3,r4,r5⟩:=z7i q3 hds (h2.mono q1);exact⟨E2,q1.trans r1,r2.trans q2,r3,r4.trans q4,by simp only[DRL];exact⟨_,_,rfl,q5.mono r1.1,r5⟩⟩
def z1i:D->Bool
 | .v (.slice aq 0 0)=>ar
 |_=>au
def lE (P:ab):List ac->List D->List D
 |t::ts,d::ds=>(match uT P t with
  |some sz=>bif z1i d then .ro sz []else d
  |none=>d)::lE P ts ds
 |_,ds=>ds
def zNd {F:PH}:∀{ts:List ac} {ds:List D} {ys:List aa},DRL F ds ys->DRL F (lE P ts ds) ys
 |[],ds,ys,h=>by unfold lE;exact h
 |t::ts,[],ys,h=>by unfold lE;exact h
 |t::ts,d::ds,ys,h=>by
  unfold lE;simp only[DRL]at h ⊢;obtain⟨x,xs,rfl,h1,h2⟩:=h;refine⟨x,xs,rfl,?_,zNd h2⟩;split
  ·cases hb:z1i d
   ·exact h1
   ·unfold z1i at hb;split at hb
    ·simp only[DR]at h1;obtain⟨rfl,_⟩:=h1;simp only[cond_true,DR];exact⟨aq,0,rfl,y5x _,by simp,.inl trivial⟩
    ·cases hb
  ·exact h1
def zTg:∀(ts:List ac) (ds:List D),(lE P ts ds).length=ds.length
 |[],ds=>by unfold lE;rfl
 |t::ts,[]=>by unfold lE;rfl
 |t::ts,d::ds=>by unfold lE;simp[zTg ts ds]
def elD (P:ab) (s:St) (t:ac) (v:V):Option (List D×St):=
 bif eZ v then(match yJf s v.cl with
  |some (ds,s')=>ap (lE P (zEu P 6 t) ds,s')
  |none=>aq)else aq
def aY {α:Type _} {b:Bool} {x:Option α} {v:α} (h:(bif b then x else aq)=ap v):b=ar/\x=ap v:=by
 cases b
 ·cases h
 ·exact⟨rfl,h⟩
def zIg (R:Rel k L E s w) {t:ac} {v:V} {ds:List D} {s':St} (h:elD P s t v=ap (ds,s')) {y:aa} (hv:VR E v y):
 ∃E' ys,E.le E'/\E'.tab=E.tab/\Rel k L E' s' w/\s'.nx=s.nx/\y.cells=ys.toArray/\DRL E'.F ds ys:=by
 unfold elD at h;obtain⟨hb,h⟩:=aY h;split at h<;>first|(cases h;done)|skip
 rename_i ds0 s0 hf;cases h;obtain⟨l,hl,hvl⟩:=VR.cells hb hv;obtain⟨E',q1,q2,q3,q4,q5⟩:=z7i R hf hvl;exact⟨E',l,q1,q2,q3,q4,hl,zNd q5⟩
variable {P:ab} {k:Ko} {L:List HP} {E:Ev} {s:St} {w:af}
def zOz (F:PH) (T:Type) (m:Nat) (unf:T->Nat->AObj) (x:T) (p:aa) (l0:List aa):HP:=λh=>
 ∃tab1:List Hd,tab1[0]? =ap (p,l0)/\tab1.length=m/\hS ((av m).map λj=>λh=>∃hd',tab1[j]? =ap hd'/\rowHP F (unf x j) tab1 hd' h) h
def xP (F:PH) (T:Type) (m:Nat) (unf:T->Nat->AObj) (l:List T) (sub:List aa) (hole:Option Nat) (i:Nat):HP:=λh=>
 if hole=ap i then h=pe else ∃x p l0,l[i]? =ap x/\sub[i]? =ap p/\zOz F T m unf x p l0 h
def yPt (sub:List aa):Prop:=∀p∈sub,∃b oo,p=.pointer (ap ⟨b,oo,aq⟩)
def rowHP_objs {F:PH} {t:Nat} {T:Type} {m:Nat} {unf:T->Nat->AObj} {l:List T} {hole:Option Nat} {tab:List Hd} {hd:Hd} {h:PH}:
 rowHP F (.objs t T m unf l hole) tab hd h↔∃a c,hd.1= .slice a l.length c/\hd.2.length=l.length/\yPt hd.2/\hS2 (slO t 1 a l.length c hd.2) (hS ((av l.length).map (xP F T m unf l hd.2 hole))) h:=by
 simp only[rowHP];constructor
 ·rintro⟨a,c,h1,h2,h3,g,g',h4,h5,h6,h7⟩;refine⟨a,c,h1,h2,h3,g,g',h4,zDb (λi x hx=> ?_) h5,h6,h7⟩;unfold xP;split
  ·rename_i hi;rwa [y5d hi]at hx
  ·rename_i hi;rw[y5b hi]at hx;obtain⟨x,p,l0,tab1,r1,r2,r3,r4,r5⟩:=hx;exact⟨x,p,l0,r1,r2,tab1,r3,r4,r5⟩
 ·rintro⟨a,c,h1,h2,h3,g,g',h4,h5,h6,h7⟩;refine⟨a,c,h1,h2,h3,g,g',h4,zDb (λi x hx=> ?_) h5,h6,h7⟩;unfold xP at hx;split
  ·rename_i hi;rwa [y5d hi]at hx
  ·rename_i hi;rw[y5b hi]at hx;obtain⟨x,p,l0,r1,r2,tab1,r3,r4,r5⟩:=hx;exact⟨x,p,l0,tab1,r1,r2,r3,r4,r5⟩
def zEz (R:Rel k L E s w) {n t:Nat} {T:Type} {m:Nat} {unf:T->Nat->AObj} {l:List T} {hole:Option Nat} (h:s.get n=ap (.objs t T m unf l hole)):
 ∃a c sub,E.tab[n]? =ap (.slice a l.length c,sub)/\sub.length=l.length/\yPt sub/\
  Hp k w (slO t 1 a l.length c sub::((av l.length).map (xP E.F T m unf l sub hole)++((wX n s.rows).map (rHP E)++fz E.F::L))):=by
 obtain⟨hk,hs,hh⟩:=R.focus h;cases hh with
 |cons ha hsub hd hr=>
  rcases ha with⟨e,_⟩|⟨⟨hv,sub⟩,h1,h2⟩
  ·cases e
  ·obtain⟨a,c,rfl,q2,q3,q4⟩:=rowHP_objs.1 h2;refine⟨a,c,sub,h1,q2,q3,?_⟩;have H:Hp k w (hS2 (slO t 1 a l.length c sub) (hS ((av l.length).map (xP E.F T m unf l sub hole)))::((wX n s.rows).map (rHP E)++fz E.F::L)):=⟨hk,_,.cons q4 hsub hd hr⟩
   have H1:=hp_star2.1 H;have H2:=hp_star.1 H1.swap;exact H2.perm y5r
def zNo {n t:Nat} {T:Type} {m:Nat} {unf:T->Nat->AObj} {l:List T} {hole:Option Nat} {a:Option am} {c:Nat} {sub:List aa} {M:List HP}
 (ht:E.tab[n]? =ap (.slice a l.length c,sub)) (hl:sub.length=l.length) (hp:yPt sub)
 (H:Hp k w (slO t 1 a l.length c sub::((av l.length).map (xP E.F T m unf l sub hole)++M))):Hp k w (rHP E (n,.objs t T m unf l hole)::M):=by
 have H1:Hp k w ((av l.length).map (xP E.F T m unf l sub hole)++slO t 1 a l.length c sub::M):=H.perm y5r.symm;have H2:=(hp_star.2 H1).swap;exact(hp_star2.2 H2).imp λx hx=> .inr ⟨_,ht,rowHP_objs.2 ⟨a,c,rfl,hl,hp,hx⟩⟩
def zJr {n i:Nat} (h:i<n):∃B,av n=av i++i::B/\∀j∈B,j≠i:=by
 refine⟨(av (n-i-1)).map (λj=>i+1+j),?_,λj hj=> ?_⟩
 ·have:n=i+(1+(n-i-1)):=by omega
  conv=>lhs;rw[this]
  rw[List.range_add,List.range_add,y5l];simp[Function.comp_def,y8s]
 ·obtain⟨q,_,rfl⟩:=y6n.1 hj;omega
def yGo (H:Hp k w L):Hp k w ((λh=>h=pe)::L):=((@uA k w True L).2 ⟨trivial,H⟩).imp λx hx=>hx.2
def yWg (H:Hp k w ((λh=>h=pe)::L)):Hp k w L:=((@uA k w True L).1 (H.imp λx hx=>⟨trivial,hx⟩)).2
def yIi {F:PH} {T:Type} {m:Nat} {unf:T->Nat->AObj} {l:List T} {sub:List aa} {M:List HP} {i:Nat} {x:T} {p:aa} (hx:l[i]? =ap x) (hp:sub[i]? =ap p)
 (H:Hp k w ((av l.length).map (xP F T m unf l sub aq)++M)):∃l0,Hp k w (zOz F T m unf x p l0::((av l.length).map (xP F T m unf l sub (ap i))++M)):=by
 have hi:i<l.length:=(y5f.1 hx).1;obtain⟨B,hB,hne⟩:=zJr hi;have e1:∀j,j≠i->xP F T m unf l sub aq j=xP F T m unf l sub (ap i) j:=λj hj=>by
  funext h;unfold xP;rw[y5b (by simp),y5b (by simp only[az];omega)]
 have e2:xP F T m unf l sub (ap i) i=λh=>h=pe:=by funext h;unfold xP;rw[y5d rfl]
 have ea:(av i).map (xP F T m unf l sub (ap i))=(av i).map (xP F T m unf l sub aq):=y6k λj hj=>(e1 j (by have:=y8b.1 hj;omega)).symm
 have eb:B.map (xP F T m unf l sub (ap i))=B.map (xP F T m unf l sub aq):=y6k λj hj=>(e1 j (hne j hj)).symm
 rw[hB,y5l,y5p]at H ⊢;rw[ea,eb,e2];have H1:Hp k w (xP F T m unf l sub aq i::((av i).map (xP F T m unf l sub aq)++(B.map (xP F T m unf l sub aq)++M))):=by
  rw[y5i]at H;exact H.perm y5r
 obtain⟨l0,H2⟩:∃l0,Hp k w (zOz F T m unf x p l0::((av i).map (xP F T m unf l sub aq)++(B.map (xP F T m unf l sub aq)++M))):=by
  obtain⟨hk,hs,hh⟩:=H1;cases hh with
  |cons ha hsub hd hr=>
   unfold xP at ha;rw[y5b (by simp)]at ha;obtain⟨x',p',l0,r1,r2,r3⟩:=ha;rw[hx]at r1;rw[hp]at r2;cases r1;cases r2;exact⟨l0,hk,_,.cons r3 hsub hd hr⟩
 have H3:=yGo H2;rw[y5i];refine⟨l0,H3.swap.cons ?_⟩;exact y5r.symm
def yOo {F:PH} {T:Type} {m:Nat} {unf:T->Nat->AObj} {l:List T} {sub:List aa} {M:List HP} {i:Nat} {x:T} {p:aa} {l0:List aa} (hi:i<l.length) (hp:sub[i]? =ap p)
 (H:Hp k w (zOz F T m unf x p l0::((av l.length).map (xP F T m unf l sub (ap i))++M))):Hp k w ((av l.length).map (xP F T m unf (l.set i x) sub aq)++M):=by
 obtain⟨B,hB,hne⟩:=zJr hi;have e1:∀j,j≠i->xP F T m unf (l.set i x) sub aq j=xP F T m unf l sub (ap i) j:=λj hj=>by
  funext h;unfold xP;rw[y5b (by simp),y5b (by simp only[az];omega),List.getElem?_set_ne (by omega)]
 have e2:xP F T m unf l sub (ap i) i=λh=>h=pe:=by funext h;unfold xP;rw[y5d rfl]
 have ea:(av i).map (xP F T m unf (l.set i x) sub aq)=(av i).map (xP F T m unf l sub (ap i)):=y6k λj hj=>e1 j (by have:=y8b.1 hj;omega)
 have eb:B.map (xP F T m unf (l.set i x) sub aq)=B.map (xP F T m unf l sub (ap i)):=y6k λj hj=>e1 j (hne j hj)
 rw[hB,y5l,y5p,y5i]at H ⊢;rw[e2]at H;rw[ea,eb];have H1:Hp k w ((λh=>h=pe)::zOz F T m unf x p l0::((av i).map (xP F T m unf l sub (ap i))++(B.map (xP F T m unf l sub (ap i))++M))):=
  H.perm ((cm _ y5r).trans (.swap _ _ _))
 have H2:=yWg H1;have H3:Hp k w (xP F T m unf (l.set i x) sub aq i::((av i).map (xP F T m unf l sub (ap i))++(B.map (xP F T m unf l sub (ap i))++M))):=H2.imp λh hh=>by
  unfold xP;rw[y5b (by simp)];exact⟨x,p,l0,by rw[List.getElem?_set_self hi],hp,hh⟩
 exact H3.perm y5r.symm
def yHd {F:PH} {T:Type} {m:Nat} {unf:T->Nat->AObj} {l l2:List T} {sub sub2:List aa} (hl:sub.length=l.length) {M:List HP}
 (H:Hp k w ((av l.length).map (xP F T m unf l sub aq)++((av l2.length).map (xP F T m unf l2 sub2 aq)++M))):
 Hp k w ((av (l++l2).length).map (xP F T m unf (l++l2) (sub++sub2) aq)++M):=by
 rw[y5a,List.range_add,y5l,y7q,y5i];have ea:(av l.length).map (xP F T m unf (l++l2) (sub++sub2) aq)=(av l.length).map (xP F T m unf l sub aq):=y6k λj hj=>by
  have hj:=y8b.1 hj;funext h;unfold xP;rw[y5b (by simp),y5b (by simp),y7x hj,y7x (by omega)]
 have eb:(av l2.length).map ((xP F T m unf (l++l2) (sub++sub2) aq)∘(l.length+·))=(av l2.length).map (xP F T m unf l2 sub2 aq):=y6k λj hj=>by
  funext h;simp only[Function.comp];unfold xP;rw[y5b (by simp),y5b (by simp),y7f (by omega),y7f (by omega)];rw[show l.length+j-l.length=j by omega,show l.length+j-sub.length=j by omega]
 rw[ea,eb];exact H
def zJw {n:Nat} {T:Type} {m:Nat} {unf:T->Nat->AObj} {x:T} {p:aa} {l0:List aa} (ht:E.tab[n]? =ap (p,l0)) {h:PH} (H:rHP E (n,.adt T m unf x) h):zOz E.F T m unf x p l0 h:=by
 rcases H with⟨e,_⟩|⟨hd,h1,h2⟩
 ·cases e
 ·rw[ht]at h1;cases h1;simp only[rowHP]at h2;exact h2
def zWt {n:Nat} {T:Type} {m:Nat} {unf:T->Nat->AObj} {x:T} {p:aa} {l0:List aa} (ht:E.tab[n]? =ap (p,l0)) {h:PH} (H:zOz E.F T m unf x p l0 h):rHP E (n,.adt T m unf x) h:=
 .inr ⟨_,ht,by simp only[rowHP];exact H⟩
def Rel.out {A:HP} {E:Ev} {s:St} (R:Rel k (A::L) E s w):Hp k w (A::(s.rows.map (rHP E)++fz E.F::L)):=by
 refine R.hp.perm ?_;have:(fz E.F::A::L).Perm (A::fz E.F::L):= .swap _ _ _;exact(this.append_left _).trans y5r
def Rel.inn {A:HP} {E:Ev} {s:St} (hn:E.tab.length=s.nx) (H:Hp k w (A::(s.rows.map (rHP E)++fz E.F::L))):Rel k (A::L) E s w:=by
 refine⟨hn,H.perm ?_⟩;have:(fz E.F::A::L).Perm (A::fz E.F::L):= .swap _ _ _;exact((this.append_left _).trans y5r).symm
def Rel.impL {A B:HP} {E:Ev} {s:St} (R:Rel k (A::L) E s w) (h:∀x,A x->B x):Rel k (B::L) E s w:=Rel.inn R.nx (R.out.imp h)
def Rel.take {E:Ev} {s:St} (R:Rel k L E s w) {n:Nat} {o:AObj} (h:s.get n=ap o):Rel k (rHP E (n,o)::L) E (s.del n) w:=Rel.inn R.nx (R.focus h)
def Rel.takeF {E:Ev} {s:St} (R:Rel k L E s w) {n:Nat} {o:AObj} (h:s.get n=ap o):Rel k (rHP E (n,o)::L) E (s.delF n o) w:=by
 cases o with
 |fro sz els=>
  obtain⟨hd,x,h1,h2,h3⟩:=R.row h (by simp);refine⟨R.nx,?_⟩;have H:Hp k w ((λh=>h=pe)::(s.rows.map (rHP E)++fz E.F::L)):=yGo R.hp;simp only[rowHP]at h2;have H1:Hp k w (rHP E (n,.fro sz els)::(s.rows.map (rHP E)++fz E.F::L)):=H.imp λy hy=> .inr ⟨hd,h1,by simp only[rowHP];exact⟨hy,h2.2⟩⟩
  refine H1.perm ?_;have:(rHP E (n,.fro sz els)::fz E.F::L).Perm (fz E.F::rHP E (n,.fro sz els)::L):= .swap _ _ _;exact y5r.symm.trans (this.append_left _)
 |_=>exact R.take h
def Rel.takeOut (R:Rel k L E s w) {n t i:Nat} {T:Type} {m:Nat} {unf:T->Nat->AObj} {l:List T} (h:s.get n=ap (.objs t T m unf l aq)) {x:T} (hx:l[i]? =ap x) {y:aa} (hv:VR E (.sub n i) y):
 ∃E1,E.le E1/\Rel k L E1 ((s.set n (.objs t T m unf l (ap i))).new (.adt T m unf x)) w/\VR E1 (.nm s.nx 0) y/\∃l0,E1.tab[s.nx]? =ap (y,l0):=by
 obtain⟨a,c,sub,h1,h2,h3,H⟩:=zEz R h;simp only[VR]at hv;obtain⟨hd,l',b,oo,e1,e2,e3⟩:=hv;rw[h1]at e1;cases e1;obtain⟨l0,H1⟩:=yIi hx e2 (H.perm y5r.symm);have H2:Hp k w (slO t 1 a l.length c sub::((av l.length).map (xP E.F T m unf l sub (ap i))++(zOz E.F T m unf x y l0::((wX n s.rows).map (rHP E)++fz E.F::L)))):=
  H1.perm ((y5r.symm.trans (cn _ (.swap _ _ _))).trans y5r)
 have H3:=(zNo h1 h2 h3 H2).swap;have H4:Hp k w (zOz E.F T m unf x y l0::((rH n (.objs t T m unf l (ap i)) s.rows).map (rHP E)++fz E.F::L)):=by
  refine H3.cons ?_;have:=(((vD h).2 (.objs t T m unf l (ap i))).map (rHP E)).append_right (fz E.F::L);simpa using this.symm
 have H5:Hp k w ((rH n (.objs t T m unf l (ap i)) s.rows).map (rHP E)++(zOz E.F T m unf x y l0::fz E.F::L)):=H4.perm y5r.symm;have hle:E.le ⟨E.F,E.tab++[(y,l0)]⟩:=⟨FLe.refl _,y9e _ _⟩
 have hget:(E.tab++[((y,l0):Hd)])[s.nx]? =ap (y,l0):=by rw[<- R.nx];simp
 have H6:=wE (λr x=>rHP.mono hle r) H5;have H7:Hp k w (zOz E.F T m unf x y l0::((rH n (.objs t T m unf l (ap i)) s.rows).map (rHP ⟨E.F,E.tab++[(y,l0)]⟩)++fz E.F::L)):=H6.perm y5r;refine⟨⟨E.F,E.tab++[(y,l0)]⟩,hle,⟨by simp[St.new,St.set,R.nx],?_⟩,by simp only[VR];exact⟨b,oo,l0,by rw[hget,e3],e3⟩,l0,hget⟩;exact H7.imp λz hz=>zWt (E:=⟨E.F,E.tab++[(y,l0)]⟩) hget hz
def Rel.putBack (R:Rel k L E s w) {n t i z:Nat} {T:Type} {m:Nat} {unf:T->Nat->AObj} {l:List T} {x:T} (ha:s.get z=ap (.adt T m unf x)) (h:(s.del z).get n=ap (.objs t T m unf l (ap i))) (hi:i<l.length)
 {y:aa} {l0:List aa} (hz:E.tab[z]? =ap (y,l0)) (hs:∀v sub,E.tab[n]? =ap (v,sub)->sub[i]? =ap y):Rel k L E ((s.del z).set n (.objs t T m unf (l.set i x) aq)) w:=by
 have R1:=R.take ha;obtain⟨a,c,sub,h1,h2,h3,H⟩:=zEz R1 h;have hp:=hs _ _ h1;have H1:Hp k w (rHP E (z,.adt T m unf x)::((av l.length).map (xP E.F T m unf l sub (ap i))++(slO t 1 a l.length c sub::((wX n (s.del z).rows).map (rHP E)++fz E.F::L)))):=by
  refine H.perm ?_;have p1:((wX n (s.del z).rows).map (rHP E)++fz E.F::rHP E (z,.adt T m unf x)::L).Perm (rHP E (z,.adt T m unf x)::((wX n (s.del z).rows).map (rHP E)++fz E.F::L)):=
   (cn _ (.swap _ _ _)).trans y5r
  refine(cm _ ((cn _ p1).trans y5r)).trans ((cp _ _ _).trans (cm _ y5r.symm))
 have H2:=yOo hi hp (H1.imp λq hq=>zJw hz hq);have H3:Hp k w (rHP E (n,.objs t T m unf (l.set i x) aq)::((wX n (s.del z).rows).map (rHP E)++fz E.F::L)):=by
  refine zNo (a:=a) (c:=c) (sub:=sub) (by rw[y6j];exact h1) (by rw[y6j];exact h2) h3 ?_;rw[y6j];exact H2.perm y5r
 refine⟨by simpa[St.set,St.del]using R1.nx,H3.perm ?_⟩;have:=(((vD h).2 (.objs t T m unf (l.set i x) aq)).map (rHP E)).append_right (fz E.F::L);simpa[St.set]using this.symm
def zGe {rows:List (Nat×AObj)} {nx t:Nat} {T:Type} {m:Nat} {unf:T->Nat->AObj} {l:List T} {a:Option am} {c:Nat} {sub:List aa} (hn:E.tab.length=nx) (hl:sub.length=l.length) (hp:yPt sub)
 (H:Hp k w (slO t 1 a l.length c sub::((av l.length).map (xP E.F T m unf l sub aq)++(rows.map (rHP E)++fz E.F::L)))):
 ∃E',E.le E'/\Rel k L E' ⟨(nx,.objs t T m unf l aq)::rows,nx+1⟩ w/\VR E' (.own nx) (.slice a l.length c):=by
 have hle:E.le ⟨E.F,E.tab++[(.slice a l.length c,sub)]⟩:=⟨FLe.refl _,y9e _ _⟩
 have hget:(E.tab++[((.slice a l.length c,sub):Hd)])[nx]? =ap (.slice a l.length c,sub):=by rw[<- hn];simp
 refine⟨⟨E.F,E.tab++[(.slice a l.length c,sub)]⟩,hle,⟨by simp[hn],?_⟩,by simp only[VR];exact⟨sub,hget,_,_,_,rfl⟩⟩;have H0:Hp k w (rows.map (rHP E)++(slO t 1 a l.length c sub::((av l.length).map (xP E.F T m unf l sub aq)++fz E.F::L))):=by
  refine H.perm ?_;refine(cm _ ?_).trans y5r.symm;rw[<- y5i,<- y5i];exact co _ y7h
 have H1:=wE (λr x=>rHP.mono hle r) H0;have H2:Hp k w (slO t 1 a l.length c sub::((av l.length).map (xP E.F T m unf l sub aq)++(rows.map (rHP ⟨E.F,E.tab++[(.slice a l.length c,sub)]⟩)++fz E.F::L))):=by
  refine H1.perm (y5r.trans (cm _ ?_));rw[<- y5i,<- y5i];exact co _ y7h
 exact zNo (E:=⟨E.F,E.tab++[(.slice a l.length c,sub)]⟩) hget hl hp H2
def Outc (k:Ko) (L:List HP) (E:Ev) (K:V->St->Prop) (y:aa) (w':af):Prop:=∃E' v s',E.le E'/\Rel k L E' s' w'/\VR E' v y/\K v s'
@[reducible] def Hnd:=FuncId->List V->St->(V->St->Prop)->Prop
def HOk (P:ab) (H:Hnd):Prop:=∀f args s K,H f args s K->∀(k:Ko) (L:List HP) (E:Ev) (w:af) (ys:List aa),Rel k L E s w->VRL E args ys->Does P (callFunc f ys.toArray) w (Outc k L E K)
structure SlI where
 e:ac
 sz:Nat
 by_:Nat
 z:List D
def m7 (P:ab) (t:ac):Option SlI:=
 match vP P t with
 |some (e,sz,by_,z)=>bif bc z.size sz && z.toList.all (·.oneC)then ap ⟨e,sz,by_,lE P (zEu P 6 e) (z.toList.map .v)⟩else aq
 |none=>aq
def yIt {F:PH}:∀{l:List aa},(l.all (·.oneC))=ar->DRL F (l.map .v) l
 |[],_=>by simp[DRL]
 |y::l,h=>by
  simp only[List.all_cons,y5o]at h;simp only[y5p,DRL,DR];exact⟨y,l,rfl,⟨rfl,h.1⟩,yIt h.2⟩
def fP {P:ab} {t:ac} {i:SlI} (h:m7 P t=ap i):∃z,vP P t=ap (i.e,i.sz,i.by_,z)/\z.size=i.sz/\i.z.length=i.sz/\∀F,DRL F i.z z.toList:=by
 unfold m7 at h;split at h<;>first|(cases h;done)|skip
 rename_i e sz by_ z hz;obtain⟨hb,h⟩:=aY h;cases h;simp only[y5o]at hb;have h1:=y5e hb.1;exact⟨z,hz,h1,by rw[zTg,y5c,y9b,h1],λF=>zNd (yIt hb.2)⟩
def yBq {α:Type} (l:List α) (o:Nat) (vs:List α):List α:=l.take o++(vs++l.drop (o+vs.length))
def zZb {α:Type} {sz:Nat}:∀{els:List (List α)} (i:Nat) (ds:List α),(∀el∈els,el.length=sz)->i<els.length->ds.length=sz->
 (els.set i ds).flatten=yBq els.flatten (i*sz) ds
 |[],i,ds,_,h,_=>by simp at h
 |el::els,0,ds,hu,h,hd=>by
  simp only[xAz,y7o,yBq,bg,y9s,y7v,y6c];rw[hd,<- hu el y5h,List.drop_left]
 |el::els,i+1,ds,hu,h,hd=>by
  have ih:=zZb (els:=els) i ds (λe he=>hu e (y5j _ he)) (by simpa using h) hd;simp only[xBa,y7o,yBq]at ih ⊢;rw[ih];have e1:=hu el y5h;rw[y8a,xAj (i*sz) sz,ax,xAe,e1];rw[y5n (show el.length<=sz+i*sz by omega),show sz+i*sz-sz=i*sz by omega,y8j (show el.length<=sz+i*sz+ds.length by omega),show sz+i*sz+ds.length-sz=i*sz+ds.length by omega];simp
def zFc {F:PH} {ds es:List D} {l m:List aa} (h1:DRL F ds l) (h2:DRL F es m) (o:Nat):DRL F (ds.take o++(es++ds.drop (o+es.length))) (spl l o m):=by
 unfold spl;rw[y5i];have:=h2.length;rw[this];exact(h1.take o).append (h2.append (h1.drop _))
def z0i (P:ab) (e sz:Nat):St->List (Nat×V)->List (List D)->Option (List (List D)×St)
 |s,[],els=>ap (els,s)
 |s,(i,v)::ps,els=>match elD P s e v with
  |some (ds,s')=>bif bc ds.length sz && bo i els.length then z0i P e sz s' ps (els.set i ds)else aq
  |none=>aq
def yPg {α:Type} {sz:Nat} {els:List (List α)} {i:Nat} {ds:List α} (hu:∀el∈els,el.length=sz) (hd:ds.length=sz):∀el∈els.set i ds,el.length=sz:=by
 intro el hel;rcases List.mem_or_eq_of_mem_set hel with h|rfl
 ·exact hu el h
 ·exact hd
def zXi {P:ab} {k:Ko} {L:List HP} {w:af} {e sz:Nat}:∀{ps:List (Nat×V)} {E:Ev} {s:St} (R:Rel k L E s w) {els els':List (List D)} {s':St} {qs:List (Nat×aa)} {cs:List aa},
 z0i P e sz s ps els=ap (els',s')->PRL E ps qs->(∀el∈els,el.length=sz)->DRL E.F els.flatten cs->
 ∃E' cs',E.le E'/\E'.tab=E.tab/\Rel k L E' s' w/\s'.nx=s.nx/\(∀el∈els',el.length=sz)/\els'.length=els.length/\DRL E'.F els'.flatten cs'/\Instr.fill (λi=>ap (i*sz,sz)) cs.toArray qs=ap cs'.toArray
 |[],E,s,R,els,els',s',qs,cs,h,hp,hu,hc=>by
  simp only[z0i,az,cq]at h;obtain⟨rfl,rfl⟩:=h;simp only[PRL]at hp;subst hp;exact⟨E,cs,Ev.le.refl _,rfl,R,rfl,hu,rfl,hc,rfl⟩
 |(i,v)::ps,E,s,R,els,els',s',qs,cs,h,hp,hu,hc=>by
  simp only[z0i]at h;simp only[PRL]at hp;obtain⟨y,qs,rfl,hv,hp⟩:=hp;split at h<;>first|(cases h;done)|skip
  rename_i ds s1 hd;obtain⟨hb,h⟩:=aY h;simp only[y5o]at hb;have hlen:=y5e hb.1;have hi:i<els.length:=by simpa[y8d]using hb.2
  obtain⟨E1,ys,q1,q2,q3,q4,q5,q6⟩:=zIg R hd hv;have hp1:PRL E1 ps qs:=by
   have:∀{ps:List (Nat×V)} {qs:List (Nat×aa)},PRL E ps qs->PRL E1 ps qs:=by
    intro ps
    induction ps with
    |nil=>intro qs h;exact h
    |cons p ps ih=>obtain⟨i,v⟩:=p;intro qs h;obtain⟨y,ys,h1,h2,h3⟩:=h;exact⟨y,ys,h1,h2.mono q1,ih h3⟩
   exact this hp
  have hc1:DRL E1.F (els.set i ds).flatten (spl cs (i*sz) ys):=by
   rw[zZb i ds hu hi hlen];exact zFc (hc.mono q1.1) q6 (i*sz)
  obtain⟨E2,cs',r1,r2,r3,r4,r5,r6,r7,r8⟩:=zXi q3 h hp1 (yPg hu hlen) hc1;refine⟨E2,cs',q1.trans r1,r2.trans q2,r3,r4.trans q4,r5,by rw[r6,y6j],r7,?_⟩;have hyl:ys.length=sz:=by rw[q6.length,hlen]
  have hcl:cs.length=els.length*sz:=by rw[hc.length,jN hu]
  have hin:i*sz+sz<=els.length*sz:=by
   have:=y6o sz (show i+1<=els.length by omega);rwa [y8a]at this
  have hysz:y.cells.size=sz:=by rw[q5,y9j,hyl]
  have hbb:(decide (y.cells.size≠sz)||decide (i*sz+y.cells.size>cs.toArray.size))=au:=by
   rw[hysz,y9j];simp;omega
  have hfold:y.cells.zipIdx.foldl (λ(cs:Array aa) (p:aa×Nat)=>cs.setIfInBounds (i*sz+p.2) p.1) cs.toArray=(spl cs (i*sz) ys).toArray:=by
   have hz:ys.toArray.zipIdx=(ys.zipIdx).toArray:=by
    apply cu;simp
   rw[q5,hz,List.foldl_toArray];rw[zNw (off:=i*sz) ys 0 cs (by omega)];rfl
  simp only[Instr.fill];rw[y5b (by rw[hbb];simp),hfold];exact r8
def sD {z:List aa}:∀n,(zBl z.toArray (n*z.length)).toList=(aw n z).flatten
 |0=>by simp[zBl]
 |n+1=>by
  have ih:=sD (z:=z) n;simp only[zBl,y9j]at ih ⊢;rw[y9m,y7o,<- ih,y8a,xAj,List.range_add,y5l];congr 1
  ·apply y9a;intro i;rw[y6q];by_cases hi:i<z.length
   ·rw[y9c hi];simp only[y7e,Nat.mod_eq_of_lt hi];rw[y5k];rw[y6e hi];rfl
   ·rw[y6h (by simpa using Nat.not_lt.1 hi),y6h (Nat.not_lt.1 hi)];rfl
  ·rw[y7q];refine y6k λj _=> ?_
   simp only[Function.comp,Nat.add_mod_left]
def zVz {F:PH} {ds:List D} {l:List aa} (h:DRL F ds l):∀n,DRL F (aw n ds).flatten (aw n l).flatten
 |0=>by simp[DRL]
 |n+1=>by simp only[y9m,y7o];exact h.append (zVz h n)
def zFu {α:Type} {ds:List α} {n sz:Nat} (h:ds.length=sz):∀el∈aw n ds,el.length=sz:=by
 intro el hel;rw[(List.mem_replicate.1 hel).2];exact h
def zX (els:List (List D)) (i f:Nat) (ds:List D):List (List D):=els.modify i λel=>el.take f++(ds++el.drop (f+ds.length))
def yOq:V->Bool
 | .top=>au
 | .agg _=>au
 | .tup _=>au
 |_=>ar
def zYu:List V->Bool
 |[]=>ar
 |v::l=>bif yOq v then zYu l else au
def zZj {E:Ev}:∀{vs:List V} {l:List aa},zYu vs=ar->VRL E vs l->∀y∈l,y.oneC=ar
 |[],l,_,h=>by simp only[VRL]at h;subst h;simp
 |v::vs,l,hb,h=>by
  simp only[VRL]at h;obtain⟨x,xs,rfl,h1,h2⟩:=h;simp only[zYu]at hb;obtain⟨hb1,hb2⟩:yOq v=ar/\zYu vs=ar:=by
   revert hb;generalize yOq v=b;cases b<;>simp
  intro y hy;rcases y5w.1 hy with rfl|hy
  ·cases v<;>simp only[yOq,y5v]at hb1<;>simp only[VR]at h1
   ·rename_i d;exact DRL.one (F:=E.F) (vs:=[d]) (l:=[y]) (by simp only[DRL];exact⟨_,_,rfl,h1,rfl⟩) y (by simp)
   ·obtain⟨_,_,_,_,rfl⟩:=h1;rfl
   ·obtain⟨_,_,_,_,_,_,rfl⟩:=h1;rfl
   ·obtain⟨_,_,_,_,_,_,_,rfl,_⟩:=h1;rfl
   ·obtain⟨_,_,_,_,rfl⟩:=h1;rfl
   ·obtain⟨_,_,_,_,_,rfl⟩:=h1;rfl
   ·obtain⟨_,_,_,rfl⟩:=h1;rfl
   ·obtain⟨_,_,_,_,_,_,rfl⟩:=h1;rfl
   ·obtain⟨_,_,rfl,_⟩:=h1;rfl
   ·obtain⟨_,rfl,_⟩:=h1;rfl
  ·exact zZj hb2 h2 y hy
def zUo (s:St) (sz:Nat):V->Option (List (List D))
 | .d (.v (.slice aq 0 0))=>ap []
 | .d (.v (.string b))=>bif bc sz 1 then ap (kQ b)else aq
 |v=>match sE s v with
  |some (sz',els)=>bif bc sz sz' then ap els else aq
  |none=>aq
def zTj (P:ab) (t1 t2:ac) (s:St) (x y:V) (K:V->St->Prop):Prop:=
 optK (m7 P t1) λi=>bif z2y P t2 && bo 0 i.by_ then optK (zUo s i.sz y) λys=>
  match x with
  | .d (.v (.slice aq 0 0))=>ys.length*i.by_<=140737488355328/\K (.own s.nx) (s.new (.own i.e i.sz ys))
  | .own n=>match s.get n with
    |some (.own T sz els)=>bif bc T i.e && bc sz i.sz then(els.length+ys.length)*i.by_<=140737488355328/\K (.own s.nx) ((s.del n).new (.own i.e i.sz (els++ys)))else False
    |_=>False
  |_=>False else False
def yMq:V->Bool
 | .agg l=> !(bc l.length 1)
 | .d _=>ar
 |_=>au
def zRc:List V->St->(List V->St->Prop)->Prop
 |[],s,K=>K [] s
 |v::l,s,K=>match v with
  | .d (.ro sz els)=>zRc l (s.new (.fro sz els)) λl' s'=>K (.own s.nx::l') s'
  |v=>zRc l s λl' s'=>K (v::l') s'
def zNe (P:ab) (t1 t2:ac) (s:St) (x y:V) (K:V->St->Prop):Prop:=
 match y with
 | .own n2=>(match s.get n2 with
   |some (.objs _ T2 m2 unf2 l2 aq)=>optK (m7 P t1) λi=>bif z2y P t2 && bo 0 i.by_ && bc i.sz 1 then(match x with
    | .d (.v (.slice aq 0 0))=>l2.length*i.by_<=140737488355328/\K (.own s.nx) ((s.del n2).new (.objs i.e T2 m2 unf2 l2 aq))
    | .own n=>(match(s.del n2).get n with
      |some (.objs t1' T1 m1 unf1 l1 aq)=>∃l1':List T2,AObj.objs t1' T1 m1 unf1 l1 aq=AObj.objs i.e T2 m2 unf2 l1' aq/\(l1'.length+l2.length)*i.by_<=140737488355328/\K (.own s.nx) (((s.del n2).del n).new (.objs i.e T2 m2 unf2 (l1'++l2) aq))
      |_=>False)
    |_=>False)else False
   |_=>False)
 |_=>False
def yEe (s:St):V->Bool
 | .own n=>match zCr s n with
   |some _=>ar
   |none=>au
 |_=>au
def yRj (n i a:Nat) (v:V) (s:St) (K:V->St->Prop):Prop:=
 match s.get a with
 |some o=>(match(s.del a).get n with
  |some (.objs t T m unf l (ap j))=>∃x:T,o=.adt T m unf x/\j=i/\i<l.length/\K v ((s.del a).set n (.objs t T m unf (l.set i x) aq))
  |_=>False)
 |none=>False
def yJe (H:Hnd) (f:FuncId) (args:List V) (s:St) (K:V->St->Prop):Prop:=
 match args with
 | .sub n i::rest=>(match s.get n with
   |some (.objs t T m unf l aq)=>∃x:T,l[i]?=ap x/\H f (.nm s.nx 0::rest) ((s.set n (.objs t T m unf l (ap i))).new (.adt T m unf x)) λv s'=>yRj n i s.nx v s' K
   |_=>False)
 |args=>H f args s K
def yPm (P:ab) (t:ac):Option ac:=
 match P.underlying t with
 |some (.slice e)=>(match P.underlying e with
  |some (.int .u8)=>ap e
  |_=>aq)
 |_=>aq
def zSh {P:ab} {t e:ac} (h:yPm P t=ap e):P.underlying t=ap (.slice e)/\P.underlying e=ap (.int .u8):=by
 unfold yPm at h;split at h<;>first|(cases h;done)|skip
 rename_i e' he;split at h<;>first|(cases h;done)|skip
 rename_i hu;cases h;exact⟨he,hu⟩
def zUb:List (Nat×V)->Option Nat
 |[(0,.nm m 0)]=>ap m
 |_=>aq
def zMq (P:ab) (t:ac) (x:HolI) (n sz i f:Nat) (v:V) (s:St) (K:V->St->Prop):Prop:=
 bif bc sz x.sz then(match v,uT P t with
  | .own c,ap _=>(match s.get c with
    |some (.own _ _ _)=>optK (mX P t) λm=>bif bc m 1 && !(bc n c)then(i<x.els.length/\f<sz)/\(match x.q with
     |true=>(i=x.i/\f=x.f)/\K (.tup []) (s.set n (.hol ar x.T sz x.els x.i x.f ar (ap c)))
     |false=>(i=x.i->f=x.f->K (.tup []) (s.set n (.hol au x.T sz x.els x.i x.f ar (ap c))))/\(x.f<sz/\(¬(i=x.i/\f=x.f)->match elD P s t (.own c)with
      |some (ds,s')=>(match aT s' n with
       |some y=>bif bc ds.length 1 then y=x/\K (.tup []) (s'.set n (.hol x.q x.T sz (zX x.els i f ds) x.i x.f x.b x.m))else False
       |none=>False)
      |none=>False)))else False
    |_=>False)
  |v,_=>(match elD P s t v with
   |some (ds,s')=>(match aT s' n with
    |some y=>optK (mX P t) λm=>bif bc ds.length m then(y=x/\i<x.els.length/\f+m<=sz/\x.clear i f m)/\K (.tup []) (s'.set n (.hol x.q x.T sz (zX x.els i f ds) x.i x.f x.b x.m))else False
    |none=>False)
   |none=>False))else False
def se (P:ab) (H:Hnd) (o:ak) (ρ:y8) (s:St) (K:V->St->Prop):Prop:=
 match o.op with
 | .alloc e=>optK (mU P e) λz=>bif eZ (toV z)then K (.nm s.nx 0) (s.new (.cells (toV z).cl e))else False
 | .box e x=>bif eZ (sev ρ x)then zRc (sev ρ x).cl s λvs s=>K (.nm s.nx 0) (s.new (.cells vs e))else False
 | .buildSlice t len ps=>match zUb (zCb ρ ps.toList)with
   |some m=>(match s.get m with
    |some (.adt T mm unf x)=>optK (m7 P t) λi=>bif bc i.sz 1 && bc len 1 then K (.own s.nx) ((s.del m).new (.objs i.e T mm unf [x] aq))else False
    |_=>False)
   |none=>optK (m7 P t) λi=>bif be (len*i.sz) 16777216 then match z0i P i.e i.sz s (zCb ρ ps.toList) (aw len i.z)with
   |some (els,s')=>K (.own s'.nx) (s'.new (.own i.e i.sz els))
   |none=>False else False
 | .makeMap _ aq=>K (.mp s.nx) (s.new (.map []))
 | .makeSlice t l c=>match sev ρ l,sev ρ c with
   | .d (.v (.int _ l)),.d (.v (.int _ c))=>optK (m7 P t) λi=>(0<=l/\l<=c/\c<=9223372036854775807/\(i.by_:Int)*c<=2 ^ 48)/\K (.own s.nx) (s.new (.own i.e i.sz (aw l.toNat i.z)))
   |_,_=>False
 | .store t x v=>match sev ρ x with
   | .nm n off=>bif eZ (sev ρ v)then zRc (sev ρ v).cl s λus s=>match s.get n with
     |some (.cells vs T)=>optK (mX P t) λm=>bif bc us.length m && be (off+m) vs.length && zYu us then
       K (.tup []) (s.set n (.cells (vs.take off++(us++vs.drop (off+m))) T))else False
     |_=>False
     else False
   | .el n sz i f=>match aT s n with
     |some x=>zMq P t x n sz i f (sev ρ v) s K
     |none=>match elD P s t (sev ρ v)with
     |some (ds,s')=>match s'.get n with
      |some (.own T sz' els)=>optK (mX P t) λm=>bif bc sz sz' && bc ds.length m && be (f+m) sz then i<els.length/\K (.tup []) (s'.set n (.own T sz (zX els i f ds)))else False
      |some (.mrk T els)=>optK (mX P t) λm=>bif bc sz 1 && bc ds.length 1 && bc m 1 && bc f 0 then i<els.length/\K (.tup []) (s'.set n (.mrk T (zX els i 0 ds)))else False
      |_=>False
     |none=>False
   | .na n off i=>match sev ρ v with
     | .d (.v u)=>(match s.get n with
       |some (.cells vs T)=>optK (mX P t) λm=>bif bc m 1 then i<(vs.drop off).length/\K (.tup []) (s.set n (.cells (vs.take off++(vs.drop off).set i (.d (.v u))) T))else False
       |some (.vec ds T)=>optK (mX P t) λm=>bif bc m 1 then i<(ds.drop off).length/\K (.tup []) (s.set n (.vec (ds.take off++(ds.drop off).set i (.v u)) T))else False
       |_=>False)
     |_=>False
   |_=>False
 | .slice t x lo hi aq=>match sev ρ x with
   | .own n=>match s.get n with
     |some (.own T sz els)=>optK (uT P t) λsz'=>bif bc sz sz' then zKo (zPz ρ lo) (zPz ρ hi) λl h=>match l,h with
      |none,aq=>K (.own n) s
      |none,ap h=>(0<=h/\h<=els.length)/\K (.own s.nx) ((s.del n).new (.own T sz (els.take h.toNat)))
      |some l,h=>yAz sz els (ap l) h λv=>K v (s.set n (.fro sz els))else False
     |some (.fro sz els)=>optK (uT P t) λsz'=>bif bc sz sz' then zKo (zPz ρ lo) (zPz ρ hi) λl h=>yAz sz els l h λv=>K v s else False
     |_=>False
   |_=>False
 | .mapUpdate t x i v=>match sev ρ x with
   | .mp n=>optK (zQa P t) λke=>optK (zQi (sev ρ i)) λkv=>bif yCn P ke.1 kv && yMq (sev ρ v)then(match elD P s ke.2 (sev ρ v)with
     |some (ds,s')=>(match s'.get n with
      |some (.map es)=>pY kv es/\K (.tup []) (s'.set n (.map (uH kv ds es)))
      |_=>False)
     |none=>False)else False
   |_=>False
 | .mapEntry t x i=>match sev ρ x with
   | .mp n=>optK (zQa P t) λke=>optK (zQi (sev ρ i)) λkv=>bif yCn P ke.1 kv then optK (zTh P ke.2) λz=>(match s.get n with
     |some (.map es)=>pY kv es/\∃b,shT P ke.2 λds=>LK es kv z ds b/\optK (mkM P ke.2 ds) λv=>∀x:Int,K (.tup [v,.d (.v (.int .i64 x))]) (s.set n (.mapS (uH kv ds es) kv x))
     |_=>False)else False
   |_=>False
 | .entryStore t x st v=>match sev ρ x with
   | .mp n=>(match sev ρ st with
     | .d (.v (.int _ b))=>optK (zQa P t) λke=>bif yMq (sev ρ v)then(match elD P s ke.2 (sev ρ v)with
       |some (ds,s')=>(match s'.get n with
        |some (.mapS es kv b')=>b=b'/\pY kv es/\K (.tup []) (s'.set n (.map (uH kv ds es)))
        |_=>False)
       |none=>False)else False
     |_=>False)
   |_=>False
 | .convert st d x=>match sev ρ x with
   | .d (.v (.string b))=>bif zCs P st then optK (yPm P d) λe=>K (.own s.nx) (s.new (.mrk e (kQ b)))else False
   | .own n=>match s.get n with
     |some (.own T sz els)=>bif bc st d && bc sz 1 then optK (yPm P d) λe=>bif bc T e then 1<=els.length/\K (.own n) (s.set n (.fro sz els))else False else False
     |_=>False
   |_=>False
 | .range t x=>match sev ρ x with
   | .d (.v (.string b))=>bif zCs P t then K (.nm s.nx 0) (s.new (.iter b 0))else False
   |_=>False
 | .next x ar=>match sev ρ x with
   | .nm n 0=>match s.get n with
     |some (.iter b pos)=>cnd (bo pos b.size)
       (K (.tup [.d (.v (.bool ar)),.d (.v (.int .i64 (pos:Nat))),.d (.v (.int .i32 (Utf8.decode b pos).1))]) (s.set n (.iter b (pos+(Utf8.decode b pos).2))))
       (K (.tup [.d (.v (.bool au))]) s)
     |_=>False
   |_=>False
 | .call c=>match c.callee with
   | .value x=>match sev ρ x with
     | .fn f a b=>yJe H f (a++(evs ρ c.args.toList++b)) s K
     |_=>False
   | .builtin .append=>match c.argTypes.toList with
     |[t1,t2]=>match evs ρ c.args.toList with
      |[x,y]=>bif yEe s y then zNe P t1 t2 s x y K else zTj P t1 t2 s x y K
      |_=>False
     |_=>False
   | .builtin .delete=>match evs ρ c.args.toList with
     |[.mp n,y]=>optK c.argTypes[0]? λt=>optK (zQa P t) λke=>optK (zQi y) λkv=>bif yCn P ke.1 kv then(match s.get n with
      |some (.map es)=>pY kv es/\K (.tup []) (s.set n (.map (zBi kv es)))
      |_=>False)else False
     |_=>False
   |_=>False
 |_=>False
def vR {P:ab} {w:af} {r:Nat} {O O':Obj} (h:w.heap[r]? =ap O') (hO:match O' with| .cells _ _ _=>False|_=>True):(setObj r O).run P w= .ok () (World.setB w r O):=by
 simp only[setObj,cd,h];cases O'<;>first|exact hO.elim|rfl
def aQ {sz:Nat}:∀{els:List (List D)} (i f:Nat) (ds:List D),(∀el∈els,el.length=sz)->i<els.length->f+ds.length<=sz->
 (zX els i f ds).flatten=yBq els.flatten (i*sz+f) ds/\∀el∈zX els i f ds,el.length=sz
 |[],i,f,ds,_,h,_=>by simp at h
 |el::els,0,f,ds,hu,h,hd=>by
  have e1:=hu el y5h;constructor
  ·simp only[zX,List.modify_zero_cons,y7o,yBq,bg,y6c];rw[y5y (by omega),y7t (by omega)];simp
  ·intro e he;simp only[zX,List.modify_zero_cons,y5w]at he;rcases he with rfl|he
   ·simp only[y5a,y5t,y5z];omega
   ·exact hu e (y5j _ he)
 |el::els,i+1,f,ds,hu,h,hd=>by
  have e1:=hu el y5h;obtain⟨ih1,ih2⟩:=aQ (els:=els) i f ds (λe he=>hu e (y5j _ he)) (by simpa using h) hd;constructor
  ·simp only[zX,xAl,y7o,yBq]at ih1 ⊢;rw[ih1,y8a,ax,xAe,e1];rw[y5n (show el.length<=i*sz+sz+f by omega),show i*sz+sz+f-sz=i*sz+f by omega,y8j (show el.length<=i*sz+sz+f+ds.length by omega),show i*sz+sz+f+ds.length-sz=i*sz+f+ds.length by omega];simp
  ·intro e he;simp only[zX,xAl,y5w]at he ih2;rcases he with rfl|he
   ·exact e1
   ·exact ih2 e he
def zQb {P:ab} {w:af} {t b o:Nat} {v y:aa} {l:List aa} {T:ac} (hz:mX P t=ap 1) (hc:v.cells= #[y]) (ho:o<l.length) (h1:y.oneC=ar)
 (hb:w.heap[b]? =ap (.cells l.toArray T (l.length,l.length+1))):zBp P (storeVar t ⟨b,o,aq⟩ v) w (World.setB w b (.cells (l.set o y).toArray T (l.length,l.length+1))):=by
 have hcell:w.cell? ⟨b,o,aq⟩=ap l[o]:=by rw[zBc hb];exact y6e ho
 have hf:w.frozen? ⟨b,o,aq⟩=au:=by
  simp only[World.frozen?,hb];simp;omega
 have hset:w.setCell ⟨b,o,aq⟩ y=World.setB w b (.cells (l.set o y).toArray T (l.length,l.length+1)):=by
  unfold World.setCell World.setB;congr 1;apply xAy;intro i;rw[Array.getElem?_modify,y9h];have hlt:b<w.heap.size:=by
   rcases y7k b w.heap.size with h|h
   ·exact h
   ·rw[y8c h]at hb;cases hb
  by_cases hi:b=i
  ·subst hi;have hb2:w.heap[b]= .cells l.toArray T (l.length,l.length+1):=by rw[y9u hlt]at hb;exact ba hb
   simp[hlt,hb2]
  ·simp[hi]
 have h0:(store ⟨b,o,aq⟩ y).run P w= .ok () (World.setB w b (.cells (l.set o y).toArray T (l.length,l.length+1))):=by
  unfold store;cases y<;>first|(cases h1;done)|(simp only[cd,hcell,hf,y5v,if_false,hset])
 unfold mX at hz;split at hz<;>first|(cases hz;done)|skip
 rename_i i hi;have hz:i.size=1:=ba hz;unfold zBp storeVar;simp only[bind,run_bind,run_sizeOf hi,hc,hz];simp only[y9j,y5g,y6v];have e:(storeCells ⟨b,o,aq⟩ [y] 0).run P w= .ok () (World.setB w b (.cells (l.set o y).toArray T (l.length,l.length+1))):=by
  unfold storeCells;simp only[bind,run_bind,vU,y9n,h0];unfold storeCells;rfl
 simpa using e
def uF {P:ab} {w:af} {t b o n:Nat} {v:aa} {l vs:List aa} {T:ac} (hz:mX P t=ap n) (hc:v.cells=vs.toArray) (hn:vs.length=n) (ho:o+n<=l.length) (h1:∀y∈vs,y.oneC=ar)
 (hb:w.heap[b]? =ap (.cells l.toArray T)):zBp P (storeVar t ⟨b,o,aq⟩ v) w (World.setB w b (.cells (spl l o vs).toArray T)):=by
 unfold mX at hz;split at hz<;>first|(cases hz;done)|skip
 rename_i i hi;cases hz;unfold zBp storeVar;have:=wA (P:=P) vs 0 o l w hb (by omega) h1;simp only[y9n]at this;simp only[bind,run_bind,run_sizeOf hi,hc,y9j,hn];simpa using this
end Sx
