/- Texts of ours. No condition. -/
import Derived.Laws.Cover1
import Derived.Laws.StructEq
import Derived.MapKept
import Derived.Test.YtaafldgiafcgfaaGreatD1
set_option linter.all false
open Go renaming Value->aa,Program->ab,TypeId->ac,execOp->ae,World->af,Operand->ag,MapEntry->aj,Oper->ak,Addr->am,IntKind->ao
open Option renaming some->ap,none->aq
open Bool renaming true->ar,false->au
open List renaming range->av,replicate->aw,not_mem_nil->ax,take_take->ay
open Option.some renaming injEq->az,inj->ba
open Nat renaming beq->bc,ble->be,add_comm->bg,blt->bo
open Go.Instr renaming findNow->bp,typeAssert->br,lookup->bt
open Go.Sem renaming run->bu,bind->bv,pure->bw
open Go.Op renaming operands->bz,equalIn->cd
open List.Perm renaming cons->ce,append_left->cf,append_right->cg,swap->ci
open Prod.mk renaming injEq->cj
open Go.Builtin renaming len_->cm,firstCells->cn
open Array renaming ext'->co
namespace Sx
open Go Go.RowKit Cv
def VRL.length {E:Ev}:∀{vs:List V} {l:List aa},VRL E vs l->l.length=vs.length
 |[],l,h=>by simp only[VRL]at h;subst h;rfl
 |v::vs,l,h=>by simp only[VRL]at h;obtain⟨x,xs,rfl,h1,h2⟩:=h;simp[h2.length]
def VRL.get {E:Ev}:∀{vs:List V} {l:List aa},VRL E vs l->∀{i:Nat} {v:V},vs[i]? =ap v->∃y,l[i]? =ap y/\VR E v y
 |[],l,h,i,v,e=>by simp at e
 |v::vs,l,h,i,u,e=>by
  simp only[VRL]at h;obtain⟨x,xs,rfl,h1,h2⟩:=h;cases i with
  |zero=>simp at e;subst e;exact⟨x,rfl,h1⟩
  |succ i=>simp at e ⊢;exact h2.get e
def VRL.take {E:Ev}:∀{vs:List V} {l:List aa},VRL E vs l->∀(n:Nat),VRL E (vs.take n) (l.take n)
 |[],l,h,n=>by simp only[VRL]at h;subst h;simp[VRL]
 |v::vs,l,h,n=>by
  simp only[VRL]at h;obtain⟨x,xs,rfl,h1,h2⟩:=h;cases n with
  |zero=>simp[VRL]
  |succ n=>simp only[y2j,VRL];exact⟨_,_,rfl,h1,h2.take n⟩
def VRL.drop {E:Ev}:∀{vs:List V} {l:List aa},VRL E vs l->∀(n:Nat),VRL E (vs.drop n) (l.drop n)
 |[],l,h,n=>by simp only[VRL]at h;subst h;simp[VRL]
 |v::vs,l,h,n=>by
  have h0:=h;simp only[VRL]at h;obtain⟨x,xs,rfl,h1,h2⟩:=h;cases n with
  |zero=>exact h0
  |succ n=>simp only[List.drop_succ_cons];exact h2.drop n
def VRL.append {E:Ev}:∀{vs:List V} {l:List aa},VRL E vs l->∀{us:List V} {m:List aa},VRL E us m->VRL E (vs++us) (l++m)
 |[],l,h,us,m,h'=>by simp only[VRL]at h;subst h;exact h'
 |v::vs,l,h,us,m,h'=>by
  simp only[VRL]at h;obtain⟨x,xs,rfl,h1,h2⟩:=h;simp only[y2p,VRL];exact⟨_,_,rfl,h1,h2.append h'⟩
def VRL.one {E:Ev} {v:V} {y:aa} (h:VR E v y):VRL E [v] [y]:=by simp only[VRL];exact⟨_,_,rfl,h,rfl⟩
def VRL.nil {E:Ev}:VRL E [] []:=by simp only[VRL]
def DRL.length {F:PH}:∀{vs:List D} {l:List aa},DRL F vs l->l.length=vs.length
 |[],l,h=>by simp only[DRL]at h;subst h;rfl
 |v::vs,l,h=>by simp only[DRL]at h;obtain⟨x,xs,rfl,h1,h2⟩:=h;simp[h2.length]
def DRL.append {F:PH}:∀{vs:List D} {l:List aa},DRL F vs l->∀{us:List D} {m:List aa},DRL F us m->DRL F (vs++us) (l++m)
 |[],l,h,us,m,h'=>by simp only[DRL]at h;subst h;exact h'
 |v::vs,l,h,us,m,h'=>by
  simp only[DRL]at h;obtain⟨x,xs,rfl,h1,h2⟩:=h;simp only[y2p,DRL];exact⟨_,_,rfl,h1,h2.append h'⟩
def DRL.split {F:PH}:∀{vs us:List D} {l:List aa},DRL F (vs++us) l->∃l1 l2,l=l1++l2/\DRL F vs l1/\DRL F us l2
 |[],us,l,h=>⟨[],l,rfl,by simp only[DRL],h⟩
 |v::vs,us,l,h=>by
  simp only[y2p,DRL]at h;obtain⟨x,xs,rfl,h1,h2⟩:=h;obtain⟨l1,l2,rfl,h3,h4⟩:=h2.split;exact⟨x::l1,l2,rfl,by simp only[DRL];exact⟨_,_,rfl,h1,h3⟩,h4⟩
def DRL.take {F:PH}:∀{vs:List D} {l:List aa},DRL F vs l->∀(n:Nat),DRL F (vs.take n) (l.take n)
 |[],l,h,n=>by simp only[DRL]at h;subst h;simp[DRL]
 |v::vs,l,h,n=>by
  simp only[DRL]at h;obtain⟨x,xs,rfl,h1,h2⟩:=h;cases n with
  |zero=>simp[DRL]
  |succ n=>simp only[y2j,DRL];exact⟨_,_,rfl,h1,h2.take n⟩
def DRL.drop {F:PH}:∀{vs:List D} {l:List aa},DRL F vs l->∀(n:Nat),DRL F (vs.drop n) (l.drop n)
 |[],l,h,n=>by simp only[DRL]at h;subst h;simp[DRL]
 |v::vs,l,h,n=>by
  have h0:=h;simp only[DRL]at h;obtain⟨x,xs,rfl,h1,h2⟩:=h;cases n with
  |zero=>exact h0
  |succ n=>simp only[List.drop_succ_cons];exact h2.drop n
def DRL.one {F:PH}:∀{vs:List D} {l:List aa},DRL F vs l->∀v∈l,v.oneC=ar
 |[],l,h=>by simp only[DRL]at h;subst h;simp
 |v::vs,l,h=>by
  simp only[DRL]at h;obtain⟨x,xs,rfl,h1,h2⟩:=h;intro u hu;rcases y1r.1 hu with rfl|hu
  ·cases v with
   |v y=>simp only[DR]at h1;rw[h1.1];exact h1.2
   |ro sz els=>simp only[DR]at h1;obtain⟨a,c,rfl,_⟩:=h1;rfl
  ·exact h2.one u hu
def DRL.get {F:PH}:∀{vs:List D} {l:List aa},DRL F vs l->∀{i:Nat} {v:D},vs[i]? =ap v->∃y,l[i]? =ap y/\DR F v y
 |[],l,h,i,v,e=>by simp at e
 |v::vs,l,h,i,u,e=>by
  simp only[DRL]at h;obtain⟨x,xs,rfl,h1,h2⟩:=h;cases i with
  |zero=>simp at e;subst e;exact⟨x,rfl,h1⟩
  |succ i=>simp at e ⊢;exact h2.get e
def DRL.vrl {E:Ev}:∀{vs:List D} {l:List aa},DRL E.F vs l->VRL E (vs.map .d) l
 |[],l,h=>by simp only[DRL]at h;subst h;simp[VRL]
 |v::vs,l,h=>by
  simp only[DRL]at h;obtain⟨x,xs,rfl,h1,h2⟩:=h;simp only[y1m,VRL,VR];exact⟨_,_,rfl,h1,h2.vrl⟩
def DRS_iff {F:PH}:∀{els:List (List D)} {l:List aa},DRS F els l↔∃xs r,l=xs++r/\DRL F els.flatten xs
 |[],l=>by simp only[DRS,List.flatten_nil,true_iff,DRL];exact⟨[],l,rfl,rfl⟩
 |el::els,l=>by
  simp only[DRS,y3o];constructor
  ·rintro⟨l1,l2,rfl,h1,h2⟩;obtain⟨xs,r,rfl,h3⟩:=DRS_iff.1 h2;exact⟨l1++xs,r,by simp,h1.append h3⟩
  ·rintro⟨xs,r,rfl,h⟩;obtain⟨l1,l2,rfl,h1,h2⟩:=h.split;exact⟨l1,l2++r,by simp,h1,DRS_iff.2 ⟨l2,r,rfl,h2⟩⟩
def kT {α:Type} {sz:Nat}:∀{els:List (List α)},(∀el∈els,el.length=sz)->els.flatten.length=els.length*sz
 |[],_=>by simp
 |el::els,h=>by
  rw[y3o,y0x,h el y1f,kT (λe he=>h e (y1g _ he)),y1d,y4c];omega
def nI {α:Type} {sz:Nat}:∀{els:List (List α)} (i:Nat),(∀el∈els,el.length=sz)->els.flatten.drop (i*sz)=(els.drop i).flatten
 |[],i,_=>by simp
 |el::els,0,h=>by simp
 |el::els,i+1,h=>by
  rw[y3o,List.drop_succ_cons,<- nI i (λe he=>h e (y1g _ he)),y4c,bg,<- y5a];rw[show(el++els.flatten).drop sz=els.flatten by rw[<- h el y1f,List.drop_left]]
def nG {α:Type} {sz:Nat}:∀{els:List (List α)} (i:Nat),(∀el∈els,el.length=sz)->els.flatten.take (i*sz)=(els.take i).flatten
 |[],i,_=>by simp
 |el::els,0,h=>by simp
 |el::els,i+1,h=>by
  rw[y3o,y2j,y3o,<- nG i (λe he=>h e (y1g _ he)),y4c,bg,List.take_append,h el y1f];simp[h el y1f];rw[y1k (by rw[h el y1f];omega)]
def zFa {α:Type} {sz:Nat} {els:List (List α)} {i f n:Nat} {el:List α} (h:∀el∈els,el.length=sz) (hi:els[i]? =ap el) (hf:f+n<=sz):(els.flatten.drop (i*sz+f)).take n=(el.drop f).take n:=by
 have hm:=y1j hi;have hlt:i<els.length:=(y1c.1 hi).1;rw[<- y5a,nI i h];have:els.drop i=el::els.drop (i+1):=by
  rw[y3f hlt];congr 1;exact(y1c.1 hi).2
 rw[this,y3o,y3n (by rw[h el hm];omega),y2b (by rw[y1w,h el hm];omega)]
def okc:aa->Bool
 | .agg cs=>cs.toList.all (·.oneC)
 | .tuple cs=>cs.toList.all (·.oneC)
 |_=>ar
def toV (x:aa):V:=
 bif okc x then(match x with
 | .agg cs=> .agg (cs.toList.map λy=> .d (.v y))
 | .tuple cs=> .tup (cs.toList.map λy=> .d (.v y))
 |x=> .d (.v x))else .top
def yFg {E:Ev}:∀{l:List aa},(l.all (·.oneC))=ar->VRL E (l.map λy=> .d (.v y)) l
 |[],_=>by simp[VRL]
 |y::l,h=>by
  simp only[List.all_cons,y1l]at h;simp only[y1m,VRL,VR,DR];exact⟨y,l,rfl,⟨rfl,h.1⟩,yFg h.2⟩
def zLi (E:Ev) (x:aa):VR E (toV x) x:=by
 unfold toV;cases h:okc x
 ·simp[VR]
 ·cases x<;>simp only[cond_true,VR,DR]<;>first|exact⟨rfl,rfl⟩|exact⟨trivial,rfl⟩|(rename_i cs;exact⟨cs.toList,by simp,yFg h⟩)
@[reducible] def yZ:=Nat->V
def sev (ρ:yZ):ag->V
 | .tmp t=>ρ t
 | .const x=>toV x
 | .func f=> .fn f [] []
 | .global _=> .top
def tG (ρ:yZ):Option Nat->V->yZ
 |none,_=>ρ
 |some d,v=>λi=>bif bc i d then v else ρ i
def EnvR (E:Ev) (ρS:yZ) (ρ:Env):Prop:=∀t,VR E (ρS t) (ρ t)
def EnvR.ev {E:Ev} {ρS:yZ} {ρ:Env} (h:EnvR E ρS ρ) (x:ag):VR E (sev ρS x) (ev ρ x):=by
 cases x with
 |tmp t=>exact h t
 |const v=>exact zLi E v
 |func f=>simp only[sev,Cv.ev,VR];exact⟨[],[],rfl,VRL.nil,VRL.nil⟩
 |global g=>simp only[sev,VR]
def EnvR.put {E:Ev} {ρS:yZ} {ρ:Env} (h:EnvR E ρS ρ) (d:Option Nat) {v:V} {y:aa} (hv:VR E v y):EnvR E (tG ρS d v) (Cv.put ρ d y):=by
 cases d with
 |none=>exact h
 |some d=>
  intro t;simp only[tG,Cv.put];cases bc t d
  ·exact h t
  ·exact hv
def EnvR.mono {E E':Ev} (h:E.le E') {ρS:yZ} {ρ:Env} (e:EnvR E ρS ρ):EnvR E' ρS ρ:=λt=>(e t).mono h
def evs (ρ:yZ):List ag->List V
 |[]=>[]
 |x::l=>sev ρ x::evs ρ l
def yDb {E:Ev} {ρS:yZ} {ρ:Env} (h:EnvR E ρS ρ):∀(l:List ag),VRL E (evs ρS l) (l.map (ev ρ))
 |[]=>by simp[evs,VRL]
 |x::l=>by simp only[evs,y1m,VRL];exact⟨_,_,rfl,h.ev x,yDb h l⟩
def cJ {E:Ev} {ρS:yZ} {ρ:Env} (h:EnvR E ρS ρ) (l:Array ag):∃ys:List aa,l.map (ev ρ)=ys.toArray/\VRL E (evs ρS l.toList) ys:=
 ⟨l.toList.map (ev ρ),by apply co;simp,yDb h _⟩
def zUn:List V->Option (List aa)
 |[]=>ap []
 | .d (.v x)::l=>match zUn l with
   |some r=>ap (x::r)
   |none=>aq
 |_::_=>aq
def zOe:V->Option aa
 | .d (.v x)=>ap x
 | .agg l=>match zUn l with
   |some r=>ap (.agg r.toArray)
   |none=>aq
 | .fn f [] []=>ap (.func (.func f) #[] #[])
 |_=>aq
def zUw {E:Ev}:∀{l:List V} {r ys:List aa},zUn l=ap r->VRL E l ys->ys=r
 |[],r,ys,h,e=>by simp only[zUn,az]at h;subst h;simpa only[VRL]using e
 |v::l,r,ys,h,e=>by
  simp only[VRL]at e;obtain⟨x,xs,rfl,h1,h2⟩:=e;unfold zUn at h;split at h
  ·rename_i heq;cases heq
  ·rename_i x' l' heq;cases heq;simp only[VR,DR]at h1;split at h<;>first|(cases h;done)|skip
   rename_i r' hr;cases h;rw[h1.1,zUw hr h2]
  ·cases h
def rG {E:Ev} {v:V} {x y:aa} (h:zOe v=ap x) (e:VR E v y):y=x:=by
 unfold zOe at h;split at h
 ·cases h;simp only[VR,DR]at e;exact e.1
 ·rename_i l;split at h<;>first|(cases h;done)|skip
  rename_i r hr;cases h;simp only[VR]at e;obtain⟨ys,rfl,h2⟩:=e;rw[zUw hr h2]
 ·cases h;simp only[VR]at e;obtain⟨as,bs,rfl,h2,h3⟩:=e;simp only[VRL]at h2 h3;subst h2 h3;rfl
 ·cases h
def lfy (ρ:yZ):ag->Bool
 | .tmp t=>match zOe (ρ t)with
   |some _=>ar
   |none=>au
 |_=>ar
def yHl (ρ:yZ):List ag->Bool
 |[]=>ar
 |x::l=>bif lfy ρ x then yHl ρ l else au
def yIr (ρ:yZ):Env:=λt=>match zOe (ρ t)with
 |some x=>x
 |none=>undef
def yRj {E:Ev} {ρS:yZ} {ρ:Env} (h:EnvR E ρS ρ) {x:ag} (hl:lfy ρS x=ar):ev (yIr ρS) x=ev ρ x:=by
 cases x with
 |tmp t=>
  simp only[lfy]at hl;split at hl<;>first|(cases hl;done)|skip
  rename_i y hy;simp only[Cv.ev,yIr,hy];exact(rG hy (h t)).symm
 |_=>rfl
def z3v {E:Ev} {ρS:yZ} {ρ:Env} (h:EnvR E ρS ρ):∀{l:List ag},yHl ρS l=ar->∀x∈l,ev (yIr ρS) x=ev ρ x
 |[],_,x,hx=>by cases hx
 |y::l,hl,x,hx=>by
  simp only[yHl]at hl;cases hy:lfy ρS y with
  |false=>rw[hy]at hl;cases hl
  |true=>
   rw[hy]at hl;rcases y1r.1 hx with rfl|hx
   ·exact yRj h hy
   ·exact z3v h hl x hx
def zCv:Op->Bool
 | .binOp _ _ _ _ _=>ar
 | .unOp _ _ _=>ar
 | .convert _ _ _=>ar
 | .index _ _ _=>ar
 | .nilCheck _=>ar
 | .slice _ _ _ _ aq=>ar
 | .call {callee:= .builtin _,..}=>ar
 |_=>au
def z7j {ρ ρ':Env} {o:ak} (hp:zCv o.op=ar) (h:∀x∈o.op.operands.toList,ev ρ x=ev ρ' x):ae (ev ρ) o=ae (ev ρ') o:=by
 obtain⟨dst,op,ty,pos,after,gd⟩:=o;cases op<;>simp only[zCv,y1p]at hp
 case binOp a b x y c=>simp only[bz,y1r,ax,or_false,forall_eq_or_imp,forall_eq]at h;simp only[ae,h]
 case unOp a b x=>simp only[bz,y1r,ax,or_false,forall_eq]at h;simp only[ae,h]
 case convert a b x=>simp only[bz,y1r,ax,or_false,forall_eq]at h;simp only[ae,h]
 case index a x y=>simp only[bz,y1r,ax,or_false,forall_eq_or_imp,forall_eq]at h;simp only[ae,h]
 case nilCheck x=>simp only[bz,y1r,ax,or_false,forall_eq]at h;simp only[ae,h]
 case slice a x lo hi mx=>
  cases mx with
  |some m=>simp[zCv]at hp
  |none=>
   have hl:lo.map (ev ρ)=lo.map (ev ρ'):=by
    cases lo with
    |none=>rfl
    |some z=>simp only[y3b];rw[h z (by simp[bz])]
   have hh:hi.map (ev ρ)=hi.map (ev ρ'):=by
    cases hi with
    |none=>rfl
    |some z=>simp only[y3b];rw[h z (by simp[bz])]
   simp only[ae,hl,hh,h x (by simp[bz])];rfl
 case call c=>
  obtain⟨callee,args,ats⟩:=c;cases callee<;>simp only[zCv,y1p]at hp
  have ha:args.map (ev ρ)=args.map (ev ρ'):=by
   apply Array.map_congr_left;intro x hx;exact h x (by simp[bz,Call.operands,hx])
  simp only[ae,resolve,ha]
def z0r (P:ab) (t:ac) (x y:aa):Option Bool:=
 match P.underlying t with
 |some (.int _)=>match x with
  | .int k a=>match y with
    | .int k' b=>bif keq k k' then ap (a==b)else aq
    |_=>aq
  |_=>aq
 |some .string=>match x with
  | .string a=>match y with
    | .string b=>ap (a==b)
    |_=>aq
  |_=>aq
 |some .bool=>match x with
  | .bool a=>match y with
    | .bool b=>ap (a==b)
    |_=>aq
  |_=>aq
 |_=>aq
def z0o (P:ab) (xs ys:List aa):List Field->Option Bool
 |[]=>ap ar
 | f :: fs => bif f.name == "_" then none else match xs[f.offset]?, ys[f.offset]? with
   |some x,ap y=>match z0r P f.type x y with
    |some a=>match z0o P xs ys fs with
     |some b=>ap (a && b)
     |none=>aq
    |none=>aq
   |_,_=>aq
def yHr (P:ab) (f:Field) (xs ys:List aa):Option Bool:=
 match P.underlying f.type with
 |some (.struct gs)=>match zIm P f.type with
  |some n=>bif P.stoodInHeld f.type then aq else z0o P ((xs.drop f.offset).take n) ((ys.drop f.offset).take n) gs.toList
  |none=>aq
 |_=>match xs[f.offset]?,ys[f.offset]? with
  |some x,ap y=>z0r P f.type x y
  |_,_=>aq
def zPp (P:ab) (xs ys:List aa):List Field->Option Bool
 |[]=>ap ar
 | f :: fs => bif f.name == "_" then none else match yHr P f xs ys with
   |some a=>match zPp P xs ys fs with
    |some b=>ap (a && b)
    |none=>aq
   |none=>aq
def z9w (P:ab) (t:ac) (xs ys:List aa):Option Bool:=
 match P.underlying t with
 |some (.struct fs)=>bif P.stoodInHeld t then aq else zPp P xs ys fs.toList
 |_=>aq
def lR {P:ab} {t:ac} {x y:aa} {b:Bool} (h:z0r P t x y=ap b):zAu P t=ar:=by
 unfold z0r at h;unfold zAu;split at h<;>first|(cases h;done)|skip
 all_goals(rename_i he;rw[he])
def zUx {P:ab} {t:ac} {x y:aa} {b:Bool} {d:Nat} (h:z0r P t x y=ap b) (w:af):(cd (d+1) t x y).run P w= .ok b w:=by
 unfold z0r at h;split at h<;>first|(cases h;done)|skip
 all_goals
  rename_i he;split at h<;>first|(cases h;done)|skip
  split at h<;>first|(cases h;done)|skip
  unfold cd;simp only[bind,pure,run_bind,Cv.run_underlying he]
 ·obtain⟨hk,hb⟩:=yP h;clear h;have:=zQu hk;subst this;cases hb;simp only[if_true,bu]
 ·cases h;rfl
 ·cases h;rfl
def zCr {P:ab} {t off:Nat} {cs:List aa} {v:aa} (hs:zAu P t=ar) (h:cs[off]? =ap v) (w:af):(part t cs.toArray off).run P w= .ok v w:=by
 unfold part;have:cs.toArray[off]? =ap v:=by simp[h]
 simp only[bind,run_bind,aG hs w,y1p,if_false,this];rfl
def zPi {P:ab} (w:af) {xs ys:List aa} {σ:Type} {s0:σ} {fin:σ} {F:Field->σ->Sem (ForInStep σ)}
 (hF : ∀ f x y b, (f.name == "_") = false -> xs[f.offset]? = some x -> ys[f.offset]? = some y -> z0r P f.type x y = some b -> (F f s0).run P w = .ok (if b then .yield s0 else .done fin) w) :
 ∀{fs:List Field} {b:Bool},z0o P xs ys fs=ap b->((forIn fs s0 F):Sem σ).run P w= .ok (if b then s0 else fin) w
 |[],b,h=>by
  simp only[z0o,az]at h;subst h;rfl
 |f::fs,b,h=>by
  simp only[z0o]at h;have hn : (f.name == "_") = false := by
   cases hb : (f.name == "_")
   ·rfl
   ·rw[hb]at h;cases h
  rw[hn]at h;simp only[cond_false]at h;split at h<;>first|(cases h;done)|skip
  rename_i x y hx hy;split at h<;>first|(cases h;done)|skip
  rename_i a ha;split at h<;>first|(cases h;done)|skip
  rename_i b' hb;cases h;have h1:=hF f x y a hn hx hy ha;have ih:=zPi (P:=P) w hF hb;simp only[List.forIn_cons,bind,run_bind,h1];cases a
  ·rfl
  ·simpa using ih
def zRx {P:ab} {t:ac} {fs:Array Field} {xs ys:List aa} {b:Bool} {d:Nat} (hfs:P.underlying t=ap (.struct fs)) (hst:P.stoodInHeld t=au) (h:z0o P xs ys fs.toList=ap b) (w:af):
 (cd (d+2) t (.agg xs.toArray) (.agg ys.toArray)).run P w= .ok b w:=by
 unfold cd;simp only[bind,pure,run_bind,Cv.run_underlying hfs,program,bu,bv,hst,y1p,if_false];rw[<- Array.forIn_toList];have := zPi (P := P) (xs := xs) (ys := ys) w (σ := Option Bool × Unit) (s0 := (none, ())) (fin := (some false, ())) (F := λf __s => if f.name ≠ "_" then
  (part f.type xs.toArray f.offset).bind λx=>(part f.type ys.toArray f.offset).bind λy=>(cd (d+1) f.type x y).bind λc=>
    if(!c)=ar then bw (ForInStep.done (ap au,()))else bw (ForInStep.yield (aq,()))
  else bw (ForInStep.yield (aq,()))) (by
  intro f x y c hn hx hy hc;have hne : f.name ≠ "_" := by simpa using hn
  simp only[hne,ne_eq,not_false_eq_true,if_true,run_bind,zCr (lR hc) hx,zCr (lR hc) hy,zUx (d:=d) hc];cases c<;>rfl) h
 rw[this];cases b<;>rfl
def zCu {P:ab} {t off n:Nat} {cs:List aa} (hs:zIm P t=ap n) (w:af):(part t cs.toArray off).run P w= .ok (.agg ((cs.drop off).take n).toArray) w:=by
 obtain⟨h1,h2⟩:=f9 hs w;unfold part;have e:cs.toArray.extract off (off+n)=((cs.drop off).take n).toArray:=by
  rw[List.extract_toArray,List.extract_eq_take_drop];simp
 simp only[bind,pure,run_bind,h1,if_true,h2,bu,e]
def zJw {P:ab} (w:af) {xs ys:List aa} {σ:Type} {s0:σ} {fin:σ} {F:Field->σ->Sem (ForInStep σ)}
 (hF : ∀ f b, (f.name == "_") = false -> yHr P f xs ys = some b -> (F f s0).run P w = .ok (if b then .yield s0 else .done fin) w) :
 ∀{fs:List Field} {b:Bool},zPp P xs ys fs=ap b->((forIn fs s0 F):Sem σ).run P w= .ok (if b then s0 else fin) w
 |[],b,h=>by
  simp only[zPp,az]at h;subst h;rfl
 |f::fs,b,h=>by
  simp only[zPp]at h;have hn : (f.name == "_") = false := by
   cases hb : (f.name == "_")
   ·rfl
   ·rw[hb]at h;cases h
  rw[hn]at h;simp only[cond_false]at h;split at h<;>first|(cases h;done)|skip
  rename_i a ha;split at h<;>first|(cases h;done)|skip
  rename_i b' hb;cases h;have h1:=hF f a hn ha;have ih:=zJw (P:=P) w hF hb;simp only[List.forIn_cons,bind,run_bind,h1];cases a
  ·rfl
  ·simpa using ih
def yCk {P:ab} {f:Field} {xs ys:List aa} {b:Bool} (h:yHr P f xs ys=ap b) (w:af):
 ∃x y,(part f.type xs.toArray f.offset).run P w= .ok x w/\(part f.type ys.toArray f.offset).run P w= .ok y w/\(cd 9999 f.type x y).run P w= .ok b w:=by
 unfold yHr at h;split at h
 ·rename_i gs hgs;split at h<;>first|(cases h;done)|skip
  rename_i n hn;have hst:P.stoodInHeld f.type=au/\z0o P ((xs.drop f.offset).take n) ((ys.drop f.offset).take n) gs.toList=ap b:=by
   revert h;cases P.stoodInHeld f.type<;>intro h
   ·exact⟨rfl,h⟩
   ·cases h
  exact⟨_,_,zCu hn w,zCu hn w,zRx (d:=9997) hgs hst.1 hst.2 w⟩
 ·split at h<;>first|(cases h;done)|skip
  rename_i x y hx hy;exact⟨x,y,zCr (lR h) hx w,zCr (lR h) hy w,zUx (d:=9998) h w⟩
def z8s {P:ab} {t:ac} {xs ys:List aa} {b:Bool} (h:z9w P t xs ys=ap b) (w:af):(Op.equal t (.agg xs.toArray) (.agg ys.toArray)).run P w= .ok b w:=by
 unfold z9w at h;split at h<;>first|(cases h;done)|skip
 rename_i fs hfs;have hst:P.stoodInHeld t=au/\zPp P xs ys fs.toList=ap b:=by
  revert h;cases P.stoodInHeld t<;>intro h
  ·exact⟨rfl,h⟩
  ·cases h
 rw[aF];unfold cd;simp only[bind,pure,run_bind,Cv.run_underlying hfs,program,bu,bv,hst.1,y1p,if_false];rw[<- Array.forIn_toList];have := zJw (P := P) (xs := xs) (ys := ys) w (σ := Option Bool × Unit) (s0 := (none, ())) (fin := (some false, ())) (F := λf __s => if f.name ≠ "_" then
  (part f.type xs.toArray f.offset).bind λx=>(part f.type ys.toArray f.offset).bind λy=>(cd 9999 f.type x y).bind λc=>
    if(!c)=ar then bw (ForInStep.done (ap au,()))else bw (ForInStep.yield (aq,()))
  else bw (ForInStep.yield (aq,()))) (by
  intro f c hn hc;have hne : f.name ≠ "_" := by simpa using hn
  obtain⟨x,y,r1,r2,r3⟩:=yCk hc w;simp only[hne,ne_eq,not_false_eq_true,if_true,run_bind,r1,r2,r3];cases c<;>rfl) hst.2
 rw[this];cases b<;>rfl
def V.cl:V->List V
 | .agg l=>l
 |v=>[v]
def z5j (P:ab) (t:ac) (cs:List V) (off:Nat):Option V:=
 match zIm P t with
 |some sz=>ap (.agg ((cs.drop off).take sz))
 |none=>bif zAu P t then cs[off]? else aq
def optK {α:Type} (x:Option α) (K:α->Prop):Prop:=
 match x with
 |some v=>K v
 |none=>False
def zK {α:Type} {x:Option α} {K:α->Prop} (h:optK x K):∃v,x=ap v/\K v:=by
 cases x with
 |none=>exact h.elim
 |some v=>exact⟨v,rfl,h⟩
def zHp {P:ab} {E:Ev} {t:ac} {cs:List V} {ys:List aa} {off:Nat} {v:V} (hr:VRL E cs ys) (h:z5j P t cs off=ap v):∃y,VR E v y/\∀w,(part t ys.toArray off).run P w= .ok y w:=by
 unfold z5j at h;split at h
 ·rename_i sz hs;simp only[az]at h;subst h;refine⟨.agg ((ys.drop off).take sz).toArray,?_,λw=> ?_⟩
  ·simp only[VR];exact⟨_,rfl,(hr.drop off).take sz⟩
  obtain⟨h1,h2⟩:=f9 hs w;unfold part;simp only[bind,run_bind,h1,h2,if_true,pure,bu];congr 3;simp[List.extract_eq_take_drop]
 ·rename_i hs;obtain⟨hb,h⟩:=yP h;obtain⟨y,h1,h2⟩:=hr.get h;refine⟨y,h2,λw=> ?_⟩;unfold part;have:ys.toArray[off]? =ap y:=by simp[h1]
  simp only[bind,run_bind,aG hb w,y1p,if_false,this];rfl
def zPn (place:Nat->Option (Nat×Nat)):List (Nat×V)->List V->Option (List V)
 |[],cs=>ap cs
 |(i,v)::rest,cs=>
  match place i with
  |none=>aq
  |some (off,size)=>bif bc v.cl.length size && be (off+size) cs.length then zPn place rest (cs.take off++(v.cl++cs.drop (off+size)))else aq
def PRL (E:Ev):List (Nat×V)->List (Nat×aa)->Prop
 |[],l=>l=[]
 |(i,v)::ps,l=>∃y ys,l=(i,y)::ys/\VR E v y/\PRL E ps ys
def sQ:V->Bool
 | .top=>au
 |_=>ar
def VR.cells {E:Ev} {v:V} {y:aa} (ht:sQ v=ar) (h:VR E v y):∃l,y.cells=l.toArray/\VRL E v.cl l:=by
 cases v
 case agg l=>simp only[VR]at h;obtain⟨ys,rfl,h⟩:=h;exact⟨ys,rfl,h⟩
 case top=>cases ht
 case d x=>
  have h0:=h;simp only[VR]at h;refine⟨[y],?_,VRL.one h0⟩;cases x with
  |v x=>simp only[DR]at h;obtain⟨rfl,h⟩:=h;cases y<;>first|rfl|cases h
  |ro sz els=>simp only[DR]at h;obtain⟨a,c,rfl,_⟩:=h;rfl
 case nm n o=>have h0:=h;simp only[VR]at h;obtain⟨b,oo,l,h1,rfl⟩:=h;exact⟨[_],rfl,VRL.one h0⟩
 case el n sz i f=>have h0:=h;simp only[VR]at h;obtain⟨b,oo,m,c,l,h1,rfl⟩:=h;exact⟨[_],rfl,VRL.one h0⟩
 case re sz els i f=>have h0:=h;simp only[VR]at h;obtain⟨_,_,b,o,l,T,fr,rfl,_⟩:=h;exact⟨[_],rfl,VRL.one h0⟩
 case na n o i=>have h0:=h;simp only[VR]at h;obtain⟨b,oo,l,h1,rfl⟩:=h;exact⟨[_],rfl,VRL.one h0⟩
 case own n=>have h0:=h;simp only[VR]at h;obtain⟨l,h1,a,m,c,rfl⟩:=h;exact⟨[_],rfl,VRL.one h0⟩
 case mp n=>have h0:=h;simp only[VR]at h;obtain⟨b,l,h1,rfl⟩:=h;exact⟨[_],rfl,VRL.one h0⟩
 case sub n i=>have h0:=h;simp only[VR]at h;obtain⟨hd,l,b,oo,h1,h2,rfl⟩:=h;exact⟨[_],rfl,VRL.one h0⟩
 case tup l=>have h0:=h;simp only[VR]at h;obtain⟨ys,rfl,h⟩:=h;exact⟨[_],rfl,VRL.one h0⟩
 case fn f a b=>have h0:=h;simp only[VR]at h;obtain⟨as,bs,rfl,h⟩:=h;exact⟨[_],rfl,VRL.one h0⟩
 case ifc t x=>have h0:=h;simp only[VR]at h;obtain⟨z,rfl,h⟩:=h;exact⟨[_],rfl,VRL.one h0⟩
def z4r:List (Nat×V)->Bool
 |[]=>ar
 |p::l=>bif sQ p.2 then z4r l else au
def s8 {E:Ev} {place:Nat->Option (Nat×Nat)}:∀{ps:List (Nat×V)} {cs r:List V} {qs:List (Nat×aa)} {ys:List aa},z4r ps=ar->zPn place ps cs=ap r->PRL E ps qs->VRL E cs ys->
 ∃zs,Instr.fill place ys.toArray qs=ap zs.toArray/\VRL E r zs
 |[],cs,r,qs,ys,_,h,hp,hc=>by
  simp only[zPn,az]at h;simp only[PRL]at hp;subst h hp;exact⟨ys,rfl,hc⟩
 |(i,v)::ps,cs,r,qs,ys,ht,h,hp,hc=>by
  simp only[zPn]at h;simp only[PRL]at hp;obtain⟨y,qs,rfl,hv,hp⟩:=hp;simp only[z4r]at ht;cases hnt:sQ v<;>rw[hnt]at ht<;>simp only[cond_false,cond_true,y1p]at ht
  obtain⟨l,hl,hvl⟩:=VR.cells hnt hv;split at h<;>first|(cases h;done)|skip
  rename_i off size hpl;obtain⟨hb,h⟩:=yP h;simp only[y1l]at hb;have h1:=y1b hb.1;have h2:=y3e hb.2;have e1:=hvl.length;have e2:=hc.length;have hsz:y.cells.size=size:=by rw[hl,y5b,e1,h1]
  have hbb:(decide (y.cells.size≠size)||decide (off+y.cells.size>ys.toArray.size))=au:=by
   rw[hsz,y5b];simp;omega
  have hc':VRL E (cs.take off++(v.cl++cs.drop (off+size))) (ys.take off++(l++ys.drop (off+size))):=(hc.take off).append (hvl.append (hc.drop _));obtain⟨zs,q1,q2⟩:=s8 ht h hp hc';refine⟨zs,?_,q2⟩;simp only[Instr.fill,hpl];have hfold:y.cells.zipIdx.foldl (λ(cs:Array aa) (p:aa×Nat)=>cs.setIfInBounds (off+p.2) p.1) ys.toArray=(ys.take off++(l++ys.drop (off+size))).toArray:=by
   have hz:l.toArray.zipIdx=(l.zipIdx).toArray:=by
    apply co;simp
   rw[hl,hz,List.foldl_toArray];rw[zKl (off:=off) l 0 ys (by omega)];simp only[spl,y5o,e1,h1,y1e]
  rw[y0y (by rw[hbb];simp),hfold];exact q1
def aX (P:ab) (t:ac):Option aa:=
 match P.info? t with
 |some i=>i.zero
 |none=>aq
def z2b (P:ab) (t:ac) (ps:List (Nat×V)):Option V:=
 match aX P t with
 |some z=>bif sQ (toV z) && z4r ps then(match yFl P t with
  |some pl=>match yFw pl with
   |some _=>match zPn (zUj pl) ps (toV z).cl with
    |some cs=>ap (.agg cs)
    |none=>aq
   |none=>aq
  |none=>match zIr P t with
   |some (_,_,sz)=>match zPn (λi=>ap (i*sz,sz)) ps (toV z).cl with
    |some cs=>ap (.agg cs)
    |none=>aq
   |none=>aq)else aq
 |none=>aq
def fB {P:ab} {t:ac} {z:aa} (h:aX P t=ap z):zero? P t=ap z:=by
 unfold aX at h;unfold zero?;split at h
 ·rename_i i hi;rw[hi];exact h
 ·cases h
def zSd {P:ab} {E:Ev} {t:ac} {ps:List (Nat×V)} {qs:List (Nat×aa)} {v:V} (hp:PRL E ps qs) (h:z2b P t ps=ap v):
 ∃y,VR E v y/\∀w,(Instr.build t qs.toArray).run P w= .ok y w:=by
 unfold z2b at h;split at h<;>first|(cases h;done)|skip
 rename_i z hz;have hzr:=λw=>zero_run (fB hz) w
 obtain⟨hb,h⟩:=yP h;simp only[y1l]at hb;obtain⟨zl,hzl,hzv⟩:=VR.cells (E:=E) hb.1 (zLi E z);split at h
 ·rename_i pl hpl;split at h<;>first|(cases h;done)|skip
  rename_i L hL;split at h<;>first|(cases h;done)|skip
  rename_i cs hcs;simp only[az]at h;subst h;have hpl':=zQp hL;subst hpl';unfold yFl at hpl;split at hpl<;>first|(cases hpl;done)|skip
  rename_i fs hfs;simp only[az]at hpl;have hpa:(λi=>L.toArray[i]?)=zUj (L.map ap):=by
   funext i;unfold zUj;simp only[y2y,y2n];cases L[i]? <;>rfl
  obtain⟨zs,hf,hzs⟩:=s8 hb.2 hcs hp hzv;refine⟨.agg zs.toArray,by simp only[VR];exact⟨zs,rfl,hzs⟩,λw=> ?_⟩;have hm:=zJn w hpl;have hmA:((fs.mapM λf=>(do pure (f.offset,<- Go.sizeOf f.type):Sem (Nat×Nat))):Sem (Array (Nat×Nat))).run P w= .ok L.toArray w:=by
   rw[Array.mapM_eq_mapM_toList,map_eq_pure_bind];simp only[bind,pure,run_bind]at hm ⊢;rw[hm];rfl
  unfold Instr.build;simp only[bind]at hmA;simp only[bind,run_bind,hzr,Cv.run_underlying hfs,hmA,hzl,hpa,hf];rfl
 ·split at h<;>first|(cases h;done)|skip
  rename_i n e sz hap;split at h<;>first|(cases h;done)|skip
  rename_i cs hcs;simp only[az]at h;subst h;obtain⟨i,h1,h2,rfl⟩:=zCg hap;obtain⟨zs,hf,hzs⟩:=s8 hb.2 hcs hp hzv;refine⟨.agg zs.toArray,by simp only[VR];exact⟨zs,rfl,hzs⟩,λw=> ?_⟩;unfold Instr.build;simp only[bind,run_bind,hzr,Cv.run_underlying h1,run_sizeOf h2,hzl,hf];rfl
def zAr (ρ:yZ):List (Nat×ag)->List (Nat×V)
 |[]=>[]
 |(i,x)::l=>(i,sev ρ x)::zAr ρ l
def eM {E:Ev} {ρS:yZ} {ρ:Env} (h:EnvR E ρS ρ):∀(l:List (Nat×ag)),PRL E (zAr ρS l) (l.map λp=>(p.1,ev ρ p.2))
 |[]=>by simp[zAr,PRL]
 |(i,x)::l=>by simp only[zAr,y1m,PRL];exact⟨_,_,rfl,h.ev x,eM h l⟩
def dU (P:ab) (t:ac):Bool:=
 match P.underlying t with
 |some (.interface _)=>ar
 |none=>ar
 |_=>au
def yIw:V->Bool
 | .nm _ _=>ar
 | .el _ _ _ _=>ar
 | .re _ _ _ _=>ar
 | .sub _ _=>ar
 |_=>au
def z5e {E:Ev} {v:V} {y:aa} (hp:yIw v=ar) (h:VR E v y):∃a,y= .pointer (ap a):=by
 cases v<;>simp only[yIw,y1p]at hp<;>simp only[VR]at h
 ·obtain⟨b,oo,l,h1,rfl⟩:=h;exact⟨_,rfl⟩
 ·obtain⟨b,oo,m,c,l,h1,rfl⟩:=h;exact⟨_,rfl⟩
 ·obtain⟨_,_,b,o,l,T,fr,rfl,_⟩:=h;exact⟨_,rfl⟩
 ·obtain⟨hd,l,b,oo,h1,h2,rfl⟩:=h;exact⟨_,rfl⟩
def zOj (ρ:yZ):Option ag->Option (Option Int)
 |none=>ap aq
 |some x=>match sev ρ x with
  | .d (.v (.int _ n))=>ap (ap n)
  |_=>aq
def z8c (sz:Nat) (els:List (List D)) (lo hi:Option Int) (K:V->Prop):Prop:=
 match lo,hi with
 |none,aq=>K (.d (.ro sz els))
 |some l,aq=>(0<=l/\l<=els.length)/\K (.d (.ro sz (els.drop l.toNat)))
 |none,ap h=>(0<=h/\h<=els.length)/\K (.d (.ro sz (els.take h.toNat)))
 |some l,ap h=>(0<=l/\l<=h/\h<=els.length)/\K (.d (.ro sz ((els.take h.toNat).drop l.toNat)))
def zTn:ag->Bool
 | .const (.slice aq 0 0)=>ar
 |_=>au
def zZm (op:BinOp) (els:List (List D)) (K:V->Prop):Prop:=
 ∀b:Bool,(b=ar->els=[])->match op with
  | .eql=>K (.d (.v (.bool b)))
  | .neq=>K (.d (.v (.bool !b)))
  |_=>False
def z0v:V->V->Bool
 | .nm n o,.nm m p=>bc n m && bc o p
 |_,_=>au
def z2u (P:ab) (t:ac):Bool:=
 match P.underlying t with
 |some (.pointer e)=>(aP P e).isSome
 |_=>au
def zZa {P:ab} {t:ac} (h:z2u P t=ar):∃e i,P.underlying t=ap (.pointer e)/\P.info? e=ap i:=by
 unfold z2u at h;split at h<;>first|(cases h;done)|skip
 rename_i e he;unfold aP at h;split at h<;>first|(cases h;done)|skip
 rename_i i hi;exact⟨e,i,he,hi⟩
def z7u {E:Ev} {u v:V} {x y:aa} (h:z0v u v=ar) (hx:VR E u x) (hy:VR E v y):∃a,x= .pointer (ap a)/\y= .pointer (ap a):=by
 unfold z0v at h;split at h<;>first|(cases h;done)|skip
 simp only[y1l]at h;have h1:=y1b h.1;have h2:=y1b h.2;subst h1 h2;simp only[VR]at hx hy;obtain⟨b,oo,l,e1,rfl⟩:=hx;obtain⟨b',oo',l',e2,rfl⟩:=hy;rw[e1]at e2;cases e2;exact⟨_,rfl,rfl⟩
def zHl {P:ab} {t:ac} (h:z2u P t=ar) (a:am) (w:af):(Op.equal t (.pointer (ap a)) (.pointer (ap a))).run P w= .ok ar w:=by
 obtain⟨e,i,h1,h2⟩:=zZa h;rw[aF];generalize 9999=d;unfold cd;simp only[bind,pure,Cv.run_bind,Cv.run_underlying h1,Cv.run_sizeOf h2];split
 ·simp only[sameAddr,bind,pure,beq_self_eq_true,if_true];rfl
 ·simp only[beq_self_eq_true,if_true];rfl
def mpV (P:ab) (t:ac) (v:V) (y:ag):Bool:=
 match v,y with
 | .mp _,.const (.map aq)=>(match P.underlying t with
   |some (.map _ _)=>ar
   |_=>au)
 |_,_=>au
def yBm {P:ab} {t:ac} {v:V} {y:ag} (h:mpV P t v y=ar):(∃n,v= .mp n)/\y= .const (.map aq)/\∃a b,P.underlying t=ap (.map a b):=by
 unfold mpV at h;split at h<;>first|(cases h;done)|skip
 rename_i n;split at h<;>first|(cases h;done)|skip
 rename_i a b hu;exact⟨⟨n,rfl⟩,rfl,a,b,hu⟩
def sqL (P:ab) (o:ak) (ρ:yZ) (K:V->Prop):Prop:=
 bif zCv o.op then(bif yHl ρ o.op.operands.toList then fP P o (yIr ρ) (λx=>K (toV x))else False)else False
def sq (P:ab) (o:ak) (ρ:yZ) (K:V->Prop):Prop:=
 match o.op with
 | .move x=>K (sev ρ x)
 | .assign x=>K (sev ρ x)
 | .pick c a b=>match sev ρ c with
   | .d (.v (.bool t))=>cnd t (K (sev ρ a)) (K (sev ρ b))
   |_=>False
 | .nilCheck x=>bif yIw (sev ρ x)then K (sev ρ x)else sqL P o ρ K
 | .fieldAddr s x f=>optK (zLs P s f) λoff=>match sev ρ x with
   | .nm n o=>K (.nm n (o+off))
   | .el n sz i g=>K (.el n sz i (g+off))
   | .re sz els i g=>K (.re sz els i (g+off))
   |_=>False
 | .indexAddr t x i=>match sev ρ i with
   | .d (.v (.int _ i))=>match sev ρ x with
     | .d (.ro sz els)=>optK (v7 P t) λsz'=>bif bc sz sz' then(0<=i/\i<els.length)/\K (.re sz els i.toNat 0)else False
     | .nm n o=>optK (cA P t) λns=>bif be 32 ns.1 && bc ns.2 1 then(0<=i/\i<ns.1)/\K (.na n o i.toNat)else optK (zMm i ns.1) λj=>K (.nm n (o+j*ns.2))
     | .el n sz k g=>optK (cA P t) λns=>optK (zMm i ns.1) λj=>K (.el n sz k (g+j*ns.2))
     | .re sz els k g=>optK (cA P t) λns=>optK (zMm i ns.1) λj=>K (.re sz els k (g+j*ns.2))
     |_=>False
   |_=>False
 | .index t x i=>match sev ρ x with
   | .agg cs=>match sev ρ i with
     | .d (.v (.int _ i))=>optK (zIr P t) λns=>optK (zMm i ns.1) λj=>optK (z5j P ns.2.1 cs (j*ns.2.2)) K
     |_=>False
   |_=>sqL P o ρ K
 | .field t x f=>match sev ρ x with
   | .agg cs=>optK (zGb P t f) λfo=>optK (z5j P fo.1 cs fo.2) K
   |_=>False
 | .extract x i=>match sev ρ x with
   | .tup l=>optK l[i]? K
   |_=>False
 | .build t ps=>optK (z2b P t (zAr ρ ps.toList)) K
 | .makeFunc (.func f) a b=>K (.fn f (evs ρ a.toList) (evs ρ b.toList))
 | .makeInterface t x=>bif dU P t then False else K (.ifc t (sev ρ x))
 | .typeAssert x _ a au=>bif dU P a then False else(match sev ρ x with
   | .ifc t v=>bif bc t a then K v else False
   |_=>False)
 | .typeAssert x _ a ar=>bif dU P a then False else(match sev ρ x with
   | .ifc t v=>bif bc t a then K (.tup [v,.d (.v (.bool ar))])else optK (aX P a) λz=>K (.tup [toV z,.d (.v (.bool au))])
   | .d (.v .nilIface)=>optK (aX P a) λz=>K (.tup [toV z,.d (.v (.bool au))])
   |_=>False)
 | .binOp op t x y _=>bif z0v (sev ρ x) (sev ρ y) && z2u P t then(match op with
    | .eql=>K (.d (.v (.bool ar)))
    | .neq=>K (.d (.v (.bool au)))
    |_=>False)else bif mpV P t (sev ρ x) y then(match op with
    | .eql=>K (.d (.v (.bool au)))
    | .neq=>K (.d (.v (.bool ar)))
    |_=>False)else bif yIw (sev ρ x) && zTz P t && zNb y then(match op with
    | .eql=>K (.d (.v (.bool au)))
    | .neq=>K (.d (.v (.bool ar)))
    |_=>False)else bif zTn y && zDi P t then(match sev ρ x with
     | .d (.ro _ els)=>zZm op els K
     |_=>sqL P o ρ K)else match zOe (sev ρ x)with
    |some (.agg xs)=>match zOe (sev ρ y)with
     |some (.agg ys)=>bif P.eqGuardType P.depth t then False else optK (z9w P t xs.toList ys.toList) λb=>match op with
      | .eql=>K (.d (.v (.bool b)))
      | .neq=>K (.d (.v (.bool !b)))
      |_=>False
     |_=>False
    |_=>sqL P o ρ K
 | .call c=>match c.callee with
   | .builtin .len=>match evs ρ c.args.toList with
     |[.d (.ro _ els)]=>optK c.argTypes[0]? λt=>bif zDi P t then K (.d (.v (.int .i64 els.length)))else False
     |_=>sqL P o ρ K
   | .builtin .min=>match evs ρ c.args.toList with
     |[.d (.v (.int k x)),.d (.v (.int _ y))]=>K (.d (.v (.int k (min x y))))
     |[.d (.v (.int k x)),.d (.v (.int _ y)),.d (.v (.int _ z))]=>K (.d (.v (.int k (min (min x y) z))))
     |_=>sqL P o ρ K
   |_=>sqL P o ρ K
 | .slice t x lo hi aq=>match sev ρ x with
   | .d (.ro sz els)=>optK (v7 P t) λsz'=>bif bc sz sz' then zIk (zOj ρ lo) (zOj ρ hi) λl h=>z8c sz els l h K else False
   |_=>sqL P o ρ K
 | .unOp _ _ _=>sqL P o ρ K
 | .convert _ _ _=>sqL P o ρ K
 |_=>False
def gL {b:Bool} {A B:Prop} (h:bif b then A else B):(b=ar/\A)\/(b=au/\B):=by
 cases b
 ·exact .inr ⟨rfl,h⟩
 ·exact .inl ⟨rfl,h⟩
def z4c {b:Bool} {A B:Prop} (h:cnd b A B):(b=ar/\A)\/(b=au/\B):=by
 cases b
 ·exact .inr ⟨rfl,h⟩
 ·exact .inl ⟨rfl,h⟩
def yTc (P:ab) (E:Ev) (o:ak) (ρ:Env) (K:V->Prop):Prop:=∃v y,K v/\VR E v y/\zMf P (ae (ev ρ) o) y
def wC {P:ab} {E:Ev} {ρS:yZ} {ρ:Env} (he:EnvR E ρS ρ) {o:ak} {K:V->Prop} (h:sqL P o ρS K):yTc P E o ρ K:=by
 unfold sqL at h;obtain⟨hp,h⟩:=zJ h;obtain⟨hl,h⟩:=zJ h;obtain⟨y,hk,hf⟩:=uR h;exact⟨_,y,hk,zLi E y,by rw[<- z7j hp (z3v he hl)];exact hf⟩
def VR.intv {E:Ev} {k:ao} {i:Int} {y:aa} (h:VR E (.d (.v (.int k i))) y):y= .int k i:=by
 simp only[VR,DR]at h;exact h.1
def kN {E:Ev} {x:aa} (h:x.oneC=ar):VR E (.d (.v x)) x:=by
 simp only[VR,DR];exact⟨trivial,h⟩
def u0 {E:Ev} {ρS:yZ} {ρ:Env} (he:EnvR E ρS ρ) {x:Option ag} {r:Option Int} (h:zOj ρS x=ap r):bnd ρ x=ap r:=by
 cases x with
 |none=>exact h
 |some x=>
  simp only[zOj]at h;split at h<;>first|(cases h;done)|skip
  rename_i k n hx;have:=he.ev x;rw[hx]at this;simp only[bnd,this.intv];exact h
def DR.ro_sl {F:PH} {sz lo hi:Nat} {els:List (List D)} {a:Option am} {c:Nat} (h:DR F (.ro sz els) (.slice a els.length c)) (h1:lo<=hi) (h2:hi<=els.length):
 DR F (.ro sz ((els.take hi).drop lo)) (.slice (if c=lo then a else a.map (·.add (lo*sz))) (hi-lo) (c-lo)):=by
 simp only[DR]at h ⊢;obtain⟨a',c',e,hc,hs,hm⟩:=h;cases e;have hlen:((els.take hi).drop lo).length=hi-lo:=by rw[y1w,y1q];omega
 refine⟨_,c-lo,by rw[hlen],by rw[hlen];omega,λel hel=>hs el (y5p (y4o hel)),?_⟩;by_cases h0:lo=hi
 ·left;exact y1z (by omega)
 ·right;rcases hm with hm|⟨b,o,l,T,fr,rfl,h4,h5⟩
  ·subst hm;simp at h2;omega
  ·refine⟨b,o+lo*sz,l,T,fr,?_,h4,?_⟩
   ·rw[y0y (by omega)];simp[wO]
   ·obtain⟨xs,r,e,hx⟩:=DRS_iff.1 h5;refine DRS_iff.2 ⟨(xs.drop (lo*sz)).take ((hi-lo)*sz),(xs.drop (lo*sz)).drop ((hi-lo)*sz)++r,?_,?_⟩
    ·rw[<- y1e,y3s,<- y5a,e,y3n];rw[hx.length,kT hs];exact y2k _ (by omega)
    ·have:=(hx.drop (lo*sz)).take ((hi-lo)*sz);rw[nI lo hs,nG (hi-lo) (λel hel=>hs el (y4o hel)),List.take_drop]at this;rw[show lo+(hi-lo)=hi by omega]at this;exact this
def DR.ro_cut {F:PH} {sz:Nat} {els:List (List D)} {y:aa} (h:DR F (.ro sz els) y) {lo hi:Option Int} {K:V->Prop} (hk:z8c sz els lo hi K):
 ∃a c v,y= .slice a els.length c/\K v/\slN a els.length c lo hi sz λp n c=>∀E:Ev,E.F=F->VR E v (.slice p n c):=by
 have h0:=h;simp only[DR]at h0;obtain⟨a,c,rfl,hc,_⟩:=h0;unfold z8c at hk;split at hk
 ·exact⟨a,c,_,rfl,hk,by simp only[slN];exact⟨hc,λE hE=>by subst hE;simpa only[VR]using h⟩⟩
 ·rename_i l;obtain⟨⟨h1,h2⟩,hk⟩:=hk;refine⟨a,c,_,rfl,hk,?_⟩;simp only[slN];refine⟨⟨h1,h2,hc⟩,λE hE=> ?_⟩;subst hE;have:=h.ro_sl (lo:=l.toNat) (hi:=els.length) (by omega) (y1u _);rw[y1k (y1u _)]at this;simpa only[VR]using this
 ·rename_i u;obtain⟨⟨h1,h2⟩,hk⟩:=hk;refine⟨a,c,_,rfl,hk,?_⟩;simp only[slN];refine⟨⟨h1,by omega⟩,λE hE=> ?_⟩;subst hE;have:=h.ro_sl (lo:=0) (hi:=u.toNat) (by omega) (by omega);simp only[Nat.zero_mul,rS,ite_self,Nat.sub_zero,y4r]at this;simpa only[VR]using this
 ·rename_i l u;obtain⟨⟨h1,h2,h3⟩,hk⟩:=hk;refine⟨a,c,_,rfl,hk,?_⟩;simp only[slN];refine⟨⟨h1,h2,by omega⟩,λE hE=> ?_⟩;subst hE;have:=h.ro_sl (lo:=l.toNat) (hi:=u.toNat) (by omega) (by omega);simpa only[VR]using this
def zWu {p:Option am} {n c:Nat} {lo hi:Option Int} {sz:Nat} {K K':Option am->Nat->Nat->Prop} (h:∀p n c,K p n c->K' p n c) (hk:slN p n c lo hi sz K):slN p n c lo hi sz K':=by
 unfold slN at*;cases lo<;>cases hi<;>exact⟨hk.1,h _ _ _ hk.2⟩
def zNd {P:ab} {t:ac} (h:zTz P t=ar) (a:am):gY P t (.pointer (ap a))=ap au:=by
 obtain⟨e,he⟩:=zWg h;unfold gY;rw[he];rfl
def z8f {y:ag} (h:zNb y=ar):y= .const (.pointer aq):=by
 unfold zNb at h;split at h
 ·rfl
 ·cases h
def zKq {P:ab} {E:Ev} {ρ:Env} {o:ak} {op:BinOp} {t u:ac} {x y:ag} {els:List (List D)} {K:V->Prop} {a:Option am} {n c:Nat} (ho:o.op= .binOp op t x y u) (hy:zTn y=ar) (ht:zDi P t=ar)
 (hx:ev ρ x= .slice a n c) (ha:a=aq->els=[]) (h:zZm op els K):yTc P E o ρ K:=by
 have hy':y= .const (.slice aq 0 0):=by
  unfold zTn at hy;split at hy
  ·rfl
  ·cases hy
 subst hy';obtain⟨e,he⟩:=rT ht;have hn:gY P t (.slice a n c)=ap a.isNone:=by unfold gY;rw[he]
 have hk:=h a.isNone (λhb=>ha (by simpa using hb));split at hk<;>first|exact hk.elim|skip
 ·refine⟨_,.bool a.isNone,hk,kN rfl,?_⟩;have:=xF (P:=P) (neg:=au) (r:=a.isNone) (ρ:=ρ) ho (by rw[hx];trivial) trivial (λw=>by rw[hx];exact yY trivial w) (λw=>by rw[hx];exact uK hn w);simpa using this
 ·refine⟨_,.bool (!a.isNone),hk,kN rfl,?_⟩;have:=xF (P:=P) (neg:=ar) (r:=a.isNone) (ρ:=ρ) ho (by rw[hx];trivial) trivial (λw=>by rw[hx];exact yY trivial w) (λw=>by rw[hx];exact uK hn w);simpa using this
def zUz {P:ab} {E:Ev} {ρS:yZ} {ρ:Env} (he:EnvR E ρS ρ) {o:ak} {K:V->Prop} (h:sq P o ρS K):yTc P E o ρ K:=by
 cases ho:o.op
 case move x=>simp only[sq,ho]at h;exact⟨_,_,h,he.ev x,λw=>by simp only[ae,ho];rfl⟩
 case assign x=>simp only[sq,ho]at h;exact⟨_,_,h,he.ev x,λw=>by simp only[ae,ho];rfl⟩
 case pick c a b=>
  simp only[sq,ho]at h;split at h<;>first|exact h.elim|skip
  rename_i t hc;have hv:=he.ev c;rw[hc]at hv;simp only[VR,DR]at hv;rcases z4c h with⟨rfl,h⟩|⟨rfl,h⟩
  ·exact⟨_,_,h,he.ev a,λw=>by simp only[ae,ho,hv.1,asBool,bind,pure,bv,bu];rfl⟩
  ·exact⟨_,_,h,he.ev b,λw=>by simp only[ae,ho,hv.1,asBool,bind,pure,bv,bu];rfl⟩
 case nilCheck x=>
  simp only[sq,ho]at h;rcases gL h with⟨hp,h⟩|⟨_,h⟩
  ·obtain⟨a,ha⟩:=z5e hp (he.ev x);exact⟨_,_,h,he.ev x,λw=>by simp only[ae,ho,ha];rfl⟩
  ·exact wC he h
 case fieldAddr s x f=>
  simp only[sq,ho]at h;obtain⟨off,hf,h⟩:=zK h;obtain⟨fs,fd,i,h1,h2,h3,h4,rfl⟩:=zOf hf;have hv:=he.ev x;have run:∀b oo,ev ρ x= .pointer (ap ⟨b,oo,aq⟩)->zMf P (ae (ev ρ) o) (.pointer (ap ⟨b,oo+fd.offset,aq⟩)):=by
   intro b oo hx;simp only[ae,ho,hx];refine z8 λw=> ?_
   simp only[Instr.fieldAt,Instr.sureAddr,fieldPlace,bind,pure,run_bind,bv,bu,Cv.run_underlying h1,h2,run_sizeOf h3,y0y h4,wO]
  split at h<;>first|exact h.elim|skip
  ·rename_i n o' hx;rw[hx]at hv;simp only[VR]at hv;obtain⟨b,oo,l,e1,e2⟩:=hv;exact⟨_,_,h,by simp only[VR];exact⟨b,oo,l,e1,rfl⟩,by have:=run _ _ e2;rw[y4m]at this;exact this⟩
  ·rename_i n sz i g hx;rw[hx]at hv;simp only[VR]at hv;obtain⟨b,oo,m,c,l,e1,e2⟩:=hv;exact⟨_,_,h,by simp only[VR];exact⟨b,oo,m,c,l,e1,rfl⟩,by have:=run _ _ e2;rw[y4m _ g]at this;exact this⟩
  ·rename_i sz els i g hx;rw[hx]at hv;simp only[VR]at hv;obtain⟨e0,e1,b,oo,l,T,fr,e2,e3,e4⟩:=hv;exact⟨_,_,h,by simp only[VR];exact⟨e0,e1,b,oo,l,T,fr,rfl,e3,e4⟩,by have:=run _ _ e2;rw[y4m _ g]at this;exact this⟩
 case indexAddr t x i=>
  simp only[sq,ho]at h;split at h<;>first|exact h.elim|skip
  rename_i k i' hi;have hiv:=he.ev i;rw[hi]at hiv;have hiv:=hiv.intv;have hv:=he.ev x;have arr:∀{b oo:Nat} {ns:Nat×Nat} {j:Nat},cA P t=ap ns->zMm i' ns.1=ap j->ev ρ x= .pointer (ap ⟨b,oo,aq⟩)->zMf P (ae (ev ρ) o) (.pointer (ap ⟨b,oo+j*ns.2,aq⟩)):=by
   intro b oo ns j hsz hj hx;obtain⟨rfl,hlt⟩:=zJr hj;simp only[ae,ho,hx,hiv];refine z8 λw=> ?_
   rw[gW hsz ⟨by omega,by omega⟩,wO];simp
  split at h<;>first|exact h.elim|skip
  ·rename_i sz els hx;obtain⟨sz',hs,h⟩:=zK h;obtain⟨hb,⟨h0,h1⟩,hk⟩:=zJ h;have:=y1b hb;subst this;rw[hx]at hv;simp only[VR,DR]at hv;obtain⟨a,c,e1,e2,e3,e4⟩:=hv;rcases e4 with e4|⟨b,oo,l,T,fr,rfl,e5,e6⟩
   ·subst e4;simp at h1;omega
   refine⟨_,.pointer (ap ⟨b,oo+i'.toNat*sz,aq⟩),hk,?_,?_⟩
   ·simp only[VR];exact⟨by omega,e3,b,oo,l,T,fr,rfl,e5,e6⟩
   ·simp only[ae,ho,e1,hiv];refine z8 λw=> ?_
    rw[kL hs ⟨h0,by omega⟩,wO]
  ·rename_i n o' hx;obtain⟨ns,hs,h⟩:=zK h;rcases gL h with⟨hb,⟨h0,h1⟩,h⟩|⟨_,h⟩
   ·simp only[y1l]at hb;have hb2:=y1b hb.2;rw[hx]at hv;simp only[VR]at hv;obtain⟨b,oo,l,e1,e2⟩:=hv;refine⟨_,.pointer (ap ⟨b,oo+(o'+i'.toNat),aq⟩),h,by simp only[VR];exact⟨b,oo,l,e1,rfl⟩,?_⟩;simp only[ae,ho,e2,hiv];refine z8 λw=> ?_
    rw[gW hs ⟨h0,h1⟩,wO,hb2,Nat.mul_one,y4m]
   obtain⟨j,hj,h⟩:=zK h;rw[hx]at hv;simp only[VR]at hv;obtain⟨b,oo,l,e1,e2⟩:=hv;exact⟨_,_,h,by simp only[VR];exact⟨b,oo,l,e1,rfl⟩,by have:=arr hs hj e2;rw[y4m]at this;exact this⟩
  ·rename_i n sz i g hx;obtain⟨ns,hs,h⟩:=zK h;obtain⟨j,hj,h⟩:=zK h;rw[hx]at hv;simp only[VR]at hv;obtain⟨b,oo,m,c,l,e1,e2⟩:=hv;exact⟨_,_,h,by simp only[VR];exact⟨b,oo,m,c,l,e1,rfl⟩,by have:=arr hs hj e2;rw[y4m _ g]at this;exact this⟩
  ·rename_i sz els i g hx;obtain⟨ns,hs,h⟩:=zK h;obtain⟨j,hj,h⟩:=zK h;rw[hx]at hv;simp only[VR]at hv;obtain⟨e0,e1,b,oo,l,T,fr,e2,e3,e4⟩:=hv;exact⟨_,_,h,by simp only[VR];exact⟨e0,e1,b,oo,l,T,fr,rfl,e3,e4⟩,by have:=arr hs hj e2;rw[y4m _ g]at this;exact this⟩
 case index t x i=>
  simp only[sq,ho]at h;split at h
  ·rename_i cs hx;split at h<;>first|exact h.elim|skip
   rename_i k i' hi;obtain⟨⟨n,e,sz⟩,hs,h⟩:=zK h;obtain⟨j,hj,h⟩:=zK h;obtain⟨v,hp,hk⟩:=zK h;have hiv:=he.ev i;rw[hi]at hiv;have hiv:=hiv.intv;have hv:=he.ev x;rw[hx]at hv;simp only[VR]at hv;obtain⟨ys,e1,e2⟩:=hv;obtain⟨y,hy,hr⟩:=zHp e2 hp;obtain⟨rfl,hlt⟩:=zJr hj;obtain⟨inf,q1,q2,q3⟩:=zCg hs;refine⟨v,y,hk,hy,?_⟩;simp only[ae,ho,e1,hiv];refine z8 λw=> ?_
   have hb:(0:Int)<=(j:Int)/\(j:Int)<n:=⟨by omega,by omega⟩
   simp only[Instr.index,asIntOf,bind,pure,run_bind,bv,bu,Cv.run_underlying q1,y1a hb,run_sizeOf q2,q3];exact hr w
  ·exact wC he h
 case field t x f=>
  simp only[sq,ho]at h;split at h<;>first|exact h.elim|skip
  rename_i cs hx;obtain⟨⟨ft,off⟩,hf,h⟩:=zK h;obtain⟨v,hp,hk⟩:=zK h;have hv:=he.ev x;rw[hx]at hv;simp only[VR]at hv;obtain⟨ys,e1,e2⟩:=hv;obtain⟨y,hy,hr⟩:=zHp e2 hp;obtain⟨fs,fd,h1,h2,rfl,rfl⟩:=zLp hf;refine⟨v,y,hk,hy,?_⟩;simp only[ae,ho,e1];refine z8 λw=> ?_
  simp only[Instr.field,asAgg,bind,pure,run_bind,bv,bu,Cv.run_underlying h1,h2];exact hr w
 case extract x i=>
  simp only[sq,ho]at h;split at h<;>first|exact h.elim|skip
  rename_i l hx;obtain⟨v,hl,h⟩:=zK h;have hv:=he.ev x;rw[hx]at hv;simp only[VR]at hv;obtain⟨ys,e1,e2⟩:=hv;obtain⟨y,hy,hr⟩:=e2.get hl;refine⟨v,y,h,hr,?_⟩;simp only[ae,ho,e1];refine z8 λw=> ?_
  have:ys.toArray[i]? =ap y:=by simp[hy]
  simp only[Instr.extract,this];rfl
 case build t ps=>
  simp only[sq,ho]at h;obtain⟨v,hb,h⟩:=zK h;obtain⟨y,hy,hr⟩:=zSd (eM he ps.toList) hb;refine⟨v,y,h,hy,?_⟩;simp only[ae,ho];refine z8 λw=> ?_
  have:(ps.map λ(i,x)=>(i,ev ρ x))=(ps.toList.map λp=>(p.1,ev ρ p.2)).toArray:=by
   apply co;simp
  rw[this];exact hr w
 case makeFunc fn a b=>
  cases fn<;>simp only[sq,ho]at h
  rename_i f;obtain⟨as,e1,e2⟩:=cJ he a;obtain⟨bs,e3,e4⟩:=cJ he b;refine⟨_,.func (.func f) as.toArray bs.toArray,h,by simp only[VR];exact⟨as,bs,rfl,e2,e4⟩,?_⟩;simp only[ae,ho,e1,e3];exact z8 λw=>rfl
 case makeInterface t x=>
  simp only[sq,ho]at h;obtain⟨hb,h⟩:dU P t=au/\K (.ifc t (sev ρS x)):=by
   revert h;cases dU P t<;>intro h
   ·exact⟨rfl,h⟩
   ·exact h.elim
  refine⟨_,.iface t (ev ρ x),h,by simp only[VR];exact⟨_,rfl,he.ev x⟩,?_⟩;simp only[ae,ho];refine z8 λw=> ?_
  unfold dU at hb;cases hd:P.underlying t with
  |none=>rw[hd]at hb;cases hb
  |some d=>
   rw[hd]at hb;unfold Instr.makeInterface;simp only[bind,run_bind,Cv.run_underlying hd];cases d<;>first|rfl|cases hb
 case typeAssert x xt a ok=>
  cases ok with
  |true=>
   simp only[sq,ho]at h;obtain⟨hb,h⟩:dU P a=au/\(match sev ρS x with
    | .ifc t v=>bif bc t a then K (.tup [v,.d (.v (.bool ar))])else optK (aX P a) λz=>K (.tup [toV z,.d (.v (.bool au))])
    | .d (.v .nilIface)=>optK (aX P a) λz=>K (.tup [toV z,.d (.v (.bool au))])
    |_=>False):=by
    revert h;cases dU P a<;>intro h
    ·exact⟨rfl,h⟩
    ·exact h.elim
   have hne:∃d,P.underlying a=ap d/\∀ms,d≠.interface ms:=by
    unfold dU at hb;split at hb<;>first|(cases hb;done)|skip
    rename_i hne1 hne2;cases hu:P.underlying a with
    |none=>exact absurd hu hne2
    |some d=>exact⟨d,rfl,λms e=>hne1 ms (by rw[hu,e])⟩
   obtain⟨d,hu,hd⟩:=hne;have hfail:∀z,aX P a=ap z->VR E (.tup [toV z,.d (.v (.bool au))]) (.tuple #[z,.bool au]):=λz hz=>by
    simp only[VR,VRL,DR];exact⟨[z,.bool au],rfl,_,_,rfl,zLi E z,_,_,rfl,⟨rfl,rfl⟩,rfl⟩
   split at h<;>first|exact h.elim|skip
   ·rename_i t v hx;have hv:=he.ev x;rw[hx]at hv;simp only[VR]at hv;obtain⟨z,e1,e2⟩:=hv;rcases gL h with⟨ht,hk⟩|⟨ht,hk⟩
    ·have:=y1b ht;subst this;refine⟨_,.tuple #[z,.bool ar],hk,?_,?_⟩
     ·simp only[VR,VRL,DR];exact⟨[z,.bool ar],rfl,_,_,rfl,e2,_,_,rfl,⟨rfl,rfl⟩,rfl⟩
     ·simp only[ae,ho,e1];refine z8 λw=> ?_
      simp only[br,bind,run_bind,Cv.run_underlying hu];cases d<;>first|rfl|exact absurd rfl (hd _)|(simp only[if_true];rfl)
    ·obtain⟨z0,hz,hk⟩:=zK hk;have hta:¬t=a:=λe=>by subst e;rw[Nat.beq_refl]at ht;cases ht
     refine⟨_,.tuple #[z0,.bool au],hk,hfail z0 hz,?_⟩;simp only[ae,ho,e1];refine z8 λw=> ?_
     simp only[br,bind,run_bind,Cv.run_underlying hu];cases d<;>first|exact absurd rfl (hd _)|(simp only[y0y hta,if_true,bind,run_bind,Cv.zero_run (fB hz) w];rfl)
   ·rename_i hx;have hv:=he.ev x;rw[hx]at hv;simp only[VR,DR]at hv;obtain⟨z0,hz,hk⟩:=zK h;refine⟨_,.tuple #[z0,.bool au],hk,hfail z0 hz,?_⟩;simp only[ae,ho,hv.1];refine z8 λw=> ?_
    simp only[br,bind,run_bind,Cv.run_underlying hu];cases d<;>first|exact absurd rfl (hd _)|(simp only[if_true,bind,run_bind,Cv.zero_run (fB hz) w];rfl)
  |false=>
   simp only[sq,ho]at h;obtain⟨hb,h⟩:dU P a=au/\(match sev ρS x with
    | .ifc t v=>bif bc t a then K v else False
    |_=>False):=by
    revert h;cases dU P a<;>intro h
    ·exact⟨rfl,h⟩
    ·exact h.elim
   split at h<;>first|exact h.elim|skip
   rename_i t v hx;obtain⟨ht,hk⟩:=zJ h;have:=y1b ht;subst this;have hv:=he.ev x;rw[hx]at hv;simp only[VR]at hv;obtain⟨z,e1,e2⟩:=hv;refine⟨v,z,hk,e2,?_⟩;simp only[ae,ho,e1];refine z8 λw=> ?_
   unfold dU at hb;split at hb<;>first|(cases hb;done)|skip
   rename_i hne1 hne2;cases hu:P.underlying t with
   |none=>exact absurd hu hne2
   |some d=>
    simp only[br,bind,run_bind,Cv.run_underlying hu];cases d<;>first|rfl|exact absurd hu (hne1 _)|(simp only[if_true];rfl)
 case binOp op t x y u=>
  simp only[sq,ho]at h;rcases gL h with⟨hp,hk⟩|⟨_,h⟩
  ·simp only[y1l]at hp;obtain⟨a,hx,hy⟩:=z7u hp.1 (he.ev x) (he.ev y);clear h;split at hk<;>first|exact hk.elim|skip
   ·refine⟨_,.bool ar,hk,kN rfl,?_⟩;have:=xF (P:=P) (neg:=au) (r:=ar) (ρ:=ρ) ho (by rw[hx];trivial) (by rw[hy];trivial) (λw=>by rw[hx,hy];exact yY trivial w) (λw=>by rw[hx,hy];exact zHl hp.2 a w);simpa using this
   ·refine⟨_,.bool au,hk,kN rfl,?_⟩;have:=xF (P:=P) (neg:=ar) (r:=ar) (ρ:=ρ) ho (by rw[hx];trivial) (by rw[hy];trivial) (λw=>by rw[hx,hy];exact yY trivial w) (λw=>by rw[hx,hy];exact zHl hp.2 a w);simpa using this
  rcases gL h with⟨hp,hk⟩|⟨_,h⟩
  ·obtain⟨⟨n,hx⟩,rfl,ka,kb,hu⟩:=yBm hp;have hv:=he.ev x;rw[hx]at hv;simp only[VR]at hv;obtain⟨b,l,_,ha⟩:=hv;have hr:gY P t (.map (ap b))=ap au:=by simp[gY,hu]
   clear h;split at hk<;>first|exact hk.elim|skip
   ·refine⟨_,.bool au,hk,kN rfl,?_⟩;have:=xF (P:=P) (neg:=au) (r:=au) (ρ:=ρ) ho (by rw[ha];trivial) trivial (λw=>by rw[ha];exact yY trivial w) (λw=>by rw[ha];exact f8 hr w);simpa using this
   ·refine⟨_,.bool ar,hk,kN rfl,?_⟩;have:=xF (P:=P) (neg:=ar) (r:=au) (ρ:=ρ) ho (by rw[ha];trivial) trivial (λw=>by rw[ha];exact yY trivial w) (λw=>by rw[ha];exact f8 hr w);simpa using this
  rcases gL h with⟨hp,hk⟩|⟨_,h⟩
  ·simp only[y1l]at hp;obtain⟨⟨hp1,hp2⟩,hp3⟩:=hp;obtain⟨a,ha⟩:=z5e hp1 (he.ev x);have hy:=z8f hp3;subst hy;clear h;split at hk<;>first|exact hk.elim|skip
   ·refine⟨_,.bool au,hk,kN rfl,?_⟩;have:=xF (P:=P) (neg:=au) (r:=au) (ρ:=ρ) ho (by rw[ha];trivial) trivial (λw=>by rw[ha];exact yY trivial w) (λw=>by rw[ha];exact fZ (zNd hp2 a) w);simpa using this
   ·refine⟨_,.bool ar,hk,kN rfl,?_⟩;have:=xF (P:=P) (neg:=ar) (r:=au) (ρ:=ρ) ho (by rw[ha];trivial) trivial (λw=>by rw[ha];exact yY trivial w) (λw=>by rw[ha];exact fZ (zNd hp2 a) w);simpa using this
  ·rcases gL h with⟨hp,hk⟩|⟨_,h⟩
   ·simp only[y1l]at hp;clear h;split at hk
    ·rename_i sz els hx;have hv:=he.ev x;rw[hx]at hv;simp only[VR,DR]at hv;obtain⟨a,c,e1,_,_,e4⟩:=hv;exact zKq ho hp.1 hp.2 e1 (λha=>by
      rcases e4 with e4|⟨_,_,_,_,_,e5,_⟩
      ·exact e4
      ·rw[ha]at e5;cases e5) hk
    ·exact wC he hk
   ·split at h
    ·rename_i xs hxs;split at h<;>first|exact h.elim|skip
     rename_i ys hys;rcases gL h with⟨_,hk⟩|⟨hgt,hk⟩
     ·exact hk.elim
     clear h;obtain⟨b,hb,hk⟩:=zK hk;have ex:=rG hxs (he.ev x);have ey:=rG hys (he.ev y);have hrun:=λw=>z8s (P:=P) hb w
     simp only[y6e]at hrun;have hg:∀(op:BinOp) w,(eqGuard op t x y (.agg xs) (.agg ys)).run P w= .ok () w:=by
      intro op w;unfold eqGuard;cases op<;>first|rfl|(simp[bind,pure,run_bind,program,bu,bv,hgt])
     split at hk<;>first|exact hk.elim|skip
     ·refine⟨_,.bool b,hk,kN rfl,?_⟩;have:=xF (P:=P) (neg:=au) (r:=b) (ρ:=ρ) ho (by rw[ex];trivial) (by rw[ey];trivial) (λw=>by rw[ex,ey];exact hg _ w) (λw=>by rw[ex,ey];exact hrun w);simpa using this
     ·refine⟨_,.bool (!b),hk,kN rfl,?_⟩;have:=xF (P:=P) (neg:=ar) (r:=b) (ρ:=ρ) ho (by rw[ex];trivial) (by rw[ey];trivial) (λw=>by rw[ex,ey];exact hg _ w) (λw=>by rw[ex,ey];exact hrun w);simpa using this
    ·exact wC he h
 case call c=>
  simp only[sq,ho]at h;split at h
  ·rename_i hc;split at h
   ·rename_i sz els hargs;obtain⟨t,ht,h⟩:=zK h;obtain⟨hs,h⟩:=zJ h;obtain⟨ys,e1,e2⟩:=cJ he c.args;rw[hargs]at e2;simp only[VRL,VR,DR]at e2;obtain⟨y,_,rfl,⟨a,k,rfl,_⟩,rfl⟩:=e2;refine⟨_,.int .i64 els.length,h,kN rfl,?_⟩;rw[kR ho hc,e1];obtain⟨e,hse⟩:=rT hs;refine z8 λw=> ?_
    simp only[cm,ht,y2y,y3h,bind,run_bind,Cv.run_underlying hse];rfl
   ·exact wC he h
  ·rename_i hc;split at h
   ·rename_i kk x k2 y hargs;obtain⟨ys,e1,e2⟩:=cJ he c.args;rw[hargs]at e2;simp only[VRL,VR,DR]at e2;obtain⟨_,_,rfl,⟨rfl,_⟩,_,_,rfl,⟨rfl,_⟩,rfl⟩:=e2;refine⟨_,.int kk (min x y),h,kN rfl,?_⟩;rw[kR ho hc,e1];refine z8 λw=> ?_
    rw[show min x y=if y<x then y else x by rw[Int.min_def];split<;>split<;>omega];apply run_min_int2
   ·rename_i kk x k2 y k3 z hargs;obtain⟨ys,e1,e2⟩:=cJ he c.args;rw[hargs]at e2;simp only[VRL,VR,DR]at e2;obtain⟨_,_,rfl,⟨rfl,_⟩,_,_,rfl,⟨rfl,_⟩,_,_,rfl,⟨rfl,_⟩,rfl⟩:=e2;refine⟨_,.int kk (min (min x y) z),h,kN rfl,?_⟩;rw[kR ho hc,e1];refine z8 λw=> ?_
    rw[show min (min x y) z=if z<(if y<x then y else x)then z else(if y<x then y else x)by rw[Int.min_def,Int.min_def];repeat' split<;>omega];apply run_min_int3
   ·exact wC he h
  ·exact wC he h
 case slice t x lo hi mx=>
  cases mx with
  |some m=>simp only[sq,ho]at h
  |none=>
   simp only[sq,ho]at h;split at h
   ·rename_i sz els hx;obtain⟨sz',hs,h⟩:=zK h;obtain⟨hb,hh⟩:=zJ h;have:=y1b hb;subst this;obtain⟨l,u,h1,h2,hh⟩:=nP hh;have hv:=he.ev x;rw[hx]at hv;simp only[VR]at hv;obtain⟨a,c,v,e1,hk,hsl⟩:=hv.ro_cut hh;have hp:fP P o ρ (λy=>VR E v y):=by
     simp only[fP,ho,e1,hs,u0 he h1,u0 he h2,zIk];exact zWu (λp n c hh=>hh E rfl) hsl
    obtain⟨y,hy,hf⟩:=uR hp;exact⟨v,y,hk,hy,hf⟩
   ·exact wC he h
 case unOp op t x=>simp only[sq,ho]at h;exact wC he h
 case convert s d x=>simp only[sq,ho]at h;exact wC he h
 all_goals(simp only[sq,ho]at h)
end Sx
namespace Cv
open Go Go.RowKit
def z6q {φ:Phi} {b:Nat} {xs:List V} {t:ac} {opn:Option Nat} {O:Obj} (h:coT φ b (.cells xs t opn) O):∃r,O= .cells (cvl φ xs++r).toArray t/\(∀sz,opn=ap sz->xs.length+r.length=(φ b).2*sz)/\(opn=aq->r=[]):=by
 cases opn with
 |none=>
  have h':O= .cells (cvl φ xs).toArray t:=h;exact⟨[],by rw[h',y1t],by simp,λ_=>rfl⟩
 |some sz=>
  obtain⟨r,h1,h2⟩:=h;exact⟨r,h1,λs hs=>(by cases hs;exact h2),by simp⟩
def Rel.cells {φ:Phi} {s:St} {w:af} (R:Rel φ s w) {b:Nat} {xs:List V} {t:ac} {opn:Option Nat} (h:s.get b=ap (.cells xs t opn)):
 ∃r,w.heap[(φ b).1]? =ap (.cells (cvl φ xs++r).toArray t)/\(∀sz,opn=ap sz->xs.length+r.length=(φ b).2*sz)/\(opn=aq->r=[]):=by
 obtain⟨O,h1,h2⟩:=R.obj b _ h;obtain⟨r,rfl,h3,h4⟩:=z6q h2;exact⟨r,h1,h3,h4⟩
def vG {P:ab} {t k e:ac} (h:zOh P t=ap (k,e)):P.underlying t=ap (.map k e):=by
 unfold zOh at h;split at h
 ·simp only[az,cj]at h;obtain⟨rfl,rfl⟩:=h;assumption
 ·cases h
def x3 {P:ab} {w:af} {r:Nat} {O:Obj} (h:w.heap[r]? =ap O) (hO:match O with| .cells _ _ _=>False|_=>True):(getObj r).run P w= .ok O w:=by
 simp only[getObj,bu,h];cases O<;>first|exact hO.elim|rfl
def z9i {P:ab} {t:ac} (h:yAv P t=ar):∃e,P.underlying t=ap (.slice e)/\P.underlying e=ap (.int .u8):=by
 unfold yAv at h;split at h<;>first|(cases h;done)|skip
 rename_i e he;split at h<;>first|(cases h;done)|skip
 exact⟨e,he,by assumption⟩
def zCk {P:ab} (w:af) {F:aa->ByteArray->Sem (ForInStep ByteArray)} (hF:∀(n:Nat) (s:ByteArray),F (.int .u8 (n:Int)) s= .pure (.yield (s.push (UInt8.ofNat n)))):∀(l:List Nat) (acc:ByteArray),
 ((forIn (l.map λ(n:Nat)=>Value.int .u8 (n:Int)) acc F):Sem ByteArray).run P w= .ok (acc++bs l) w
 |[],acc=>by
  have:acc++bs []=acc:=by apply ByteArray.ext;simp[bs]
  rw[this];rfl
 |n::l,acc=>by
  have ih:=zCk (P:=P) w hF l (acc.push (UInt8.ofNat n));simp only[y1m,List.forIn_cons,bind,hF,bv];rw[ih];congr 1;apply ByteArray.ext;simp[bs,Nat.toUInt8]
end Cv
namespace Sx
open Go Go.RowKit Cv
def Rel.focus {k:Ko} {L:List HP} {E:Ev} {s:St} {w:af} (R:Rel k L E s w) {n:Nat} {o:AObj} (h:s.get n=ap o):
 Hp k w (rHP E (n,o)::((wA n s.rows).map (rHP E)++fz E.F::L)):=by
 refine R.hp.perm ?_;have:=((wB h).1.map (rHP E)).append_right (fz E.F::L);simpa using this
def Rel.unfocus {k:Ko} {L:List HP} {E:Ev} {s:St} {w w':af} (R:Rel k L E s w) {n:Nat} {o:AObj} (h:s.get n=ap o) {o':AObj}
 (H:Hp k w' (rHP E (n,o')::((wA n s.rows).map (rHP E)++fz E.F::L))):Rel k L E (s.set n o') w':=by
 refine⟨R.nx,H.perm ?_⟩;have:=(((wB h).2 o').map (rHP E)).append_right (fz E.F::L);simpa[St.set]using this.symm
def Rel.frozen {k:Ko} {L:List HP} {E:Ev} {s:St} {w:af} (R:Rel k L E s w):∀b o,E.F b=ap o->w.heap[b]? =ap o:=by
 have H:Hp k w (fz E.F::(s.rows.map (rHP E)++L)):=R.hp.perm y1n;obtain⟨h,⟨rfl,_⟩,hs⟩:=H.sat;exact hs
def Rel.row {k:Ko} {L:List HP} {E:Ev} {s:St} {w:af} (R:Rel k L E s w) {n:Nat} {o:AObj} (h:s.get n=ap o) (hg:o≠.gone):
 ∃hd x,E.tab[n]? =ap hd/\rowHP E.F o E.tab hd x/\Sub x w:=by
 obtain⟨x,hx,hs⟩:=(R.focus h).sat;rcases hx with⟨e,_⟩|⟨hd,h1,h2⟩
 ·exact absurd e hg
 ·exact⟨hd,x,h1,h2,hs⟩
def Rel.cells {k:Ko} {L:List HP} {E:Ev} {s:St} {w:af} (R:Rel k L E s w) {n:Nat} {vs:List V} {t:ac} (h:s.get n=ap (.cells vs t)):
 ∃b l sub,E.tab[n]? =ap (.pointer (ap ⟨b,0,aq⟩),sub)/\VRL E vs l/\w.heap[b]? =ap (.cells l.toArray t):=by
 obtain⟨⟨hv,sub⟩,x,h1,h2,h3⟩:=R.row h (by simp);simp only[rowHP]at h2;obtain⟨b,l,rfl,h4,rfl⟩:=h2;exact⟨b,l,sub,h1,h4,h3 b _ (by simp[one])⟩
def Rel.vec {k:Ko} {L:List HP} {E:Ev} {s:St} {w:af} (R:Rel k L E s w) {n:Nat} {ds:List D} {t:ac} (h:s.get n=ap (.vec ds t)):
 ∃b l sub,E.tab[n]? =ap (.pointer (ap ⟨b,0,aq⟩),sub)/\DRL E.F ds l/\w.heap[b]? =ap (.cells l.toArray t):=by
 obtain⟨⟨hv,sub⟩,x,h1,h2,h3⟩:=R.row h (by simp);simp only[rowHP]at h2;obtain⟨b,l,rfl,h4,rfl⟩:=h2;exact⟨b,l,sub,h1,h4,h3 b _ (by simp[one])⟩
def n5 (s:St):V->Option (Nat×List (List D))
 | .d (.ro sz els)=>ap (sz,els)
 | .own n=>match s.get n with
   |some (.own _ sz els)=>ap (sz,els)
   |some (.fro sz els)=>ap (sz,els)
   |some (.mrk _ els)=>ap (1,els)
   |_=>aq
 |_=>aq
def zFf {k:Ko} {L:List HP} {E:Ev} {s:St} {w:af} (R:Rel k L E s w) {sz:Nat} {els:List (List D)} {y:aa} (h:DR E.F (.ro sz els) y):
 ∃a c xs,y= .slice a els.length c/\els.length<=c/\DRL E.F els.flatten xs/\(∀el∈els,el.length=sz)/\Sat w (slR sz a els.length c xs):=by
 simp only[DR]at h;obtain⟨a,c,rfl,h1,h2,h3⟩:=h;rcases h3 with rfl|⟨b,o,l,T,fr,rfl,h4,h5⟩
 ·exact⟨a,c,[],rfl,h1,by simp[DRL],h2,pe,.inl ⟨rfl,rfl,rfl⟩,Sub.pe w⟩
 ·obtain⟨xs,r,e,hx⟩:=DRS_iff.1 h5;have hl:xs.length=els.length*sz:=by rw[hx.length,kT h2]
  refine⟨_,c,xs,rfl,h1,hx,h2,one b (.cells l.toArray T fr),.inr ⟨b,o,l,T,fr,rfl,rfl,?_,hl,h1⟩,?_⟩
  ·rw[e,y2b (by omega),y1k (by omega)]
  ·intro b' o' e';simp only[one]at e';split at e'
   ·rename_i hb;subst hb;cases e';exact R.frozen _ _ h4
   ·cases e'
def cO {k:Ko} {L:List HP} {E:Ev} {s:St} {w:af} (R:Rel k L E s w) {v:V} {y:aa} (hv:VR E v y) {sz:Nat} {els:List (List D)} (h:n5 s v=ap (sz,els)):
 ∃a c xs,y= .slice a els.length c/\els.length<=c/\DRL E.F els.flatten xs/\(∀el∈els,el.length=sz)/\Sat w (slR sz a els.length c xs):=by
 unfold n5 at h;split at h
 ·simp only[az,cj]at h;obtain⟨rfl,rfl⟩:=h;simp only[VR]at hv;exact zFf R hv
 ·rename_i n;simp only[VR]at hv;obtain⟨sub,h1,h2⟩:=hv;split at h<;>first|(cases h;done)|skip
  ·rename_i t sz' els' hg;simp only[az,cj]at h;obtain⟨rfl,rfl⟩:=h;obtain⟨hd,x,q1,q2,q3⟩:=R.row hg (by simp);rw[h1]at q1;cases q1;simp only[rowHP]at q2;obtain⟨a,c,xs,rfl,q4,q5,q6⟩:=q2;exact⟨a,c,xs,rfl,(zJe q6).2,q4,q5,x,bF q6,q3⟩
  ·rename_i sz' els' hg;simp only[az,cj]at h;obtain⟨rfl,rfl⟩:=h;obtain⟨hd,x,q1,q2,q3⟩:=R.row hg (by simp);rw[h1]at q1;cases q1;simp only[rowHP]at q2;exact zFf R q2.2
  ·rename_i t els' hg;simp only[az,cj]at h;obtain⟨rfl,rfl⟩:=h;obtain⟨hd,x,q1,q2,q3⟩:=R.row hg (by simp);rw[h1]at q1;cases q1;simp only[rowHP]at q2;obtain⟨b,c,xs,r,rfl,q4,q5,q6,q7⟩:=q2;have hl:xs.length=els'.length*1:=by rw[q4.length,kT q5]
   exact⟨_,c,xs,rfl,q6,q4,q5,x,.inr ⟨b,0,xs++r,t,_,rfl,q7,by rw[y4r,y2b (by omega),y1k (by omega)],hl,q6⟩,q3⟩
 ·cases h
def zE (els:List (List D)) (i f n:Nat):Option (List D):=
 match els[i]? with
 |some el=>bif be (f+n) el.length then ap ((el.drop f).take n)else aq
 |none=>aq
def shC:aa->(D->Prop)->Prop
 | .int k _,K=>∃n:Int,K (.v (.int k n))
 | .bool _,K=>∃b:Bool,K (.v (.bool b))
 | .string _,K=>∃s:ByteArray,K (.v (.string s))
 | .slice _ _ _,K=>∃(sz:Nat) (els:List (List D)),K (.ro sz els)
 |_,K=>∃d:D,K d
def shL:List aa->(List D->Prop)->Prop
 |[],K=>K []
 |z::zs,K=>shC z λd=>shL zs λds=>K (d::ds)
def zCz (P:ab):Nat->ac->List ac
 |0,t=>[t]
 |f+1,t=>match P.underlying t with
  |some (.struct fs)=>(fs.toList.map λfd=>zCz P f fd.type).flatten
  |some (.array n e)=>(aw n (zCz P f e)).flatten
  |_=>[t]
def zZv (P:ab):List ac->List aa->(List D->Prop)->Prop
 |t::ts,z::zs,K=>match v7 P t with
  |some sz=>∃els:List (List D),zZv P ts zs λds=>K (.ro sz els::ds)
  |none=>shC z λd=>zZv P ts zs λds=>K (d::ds)
 |_,zs,K=>shL zs K
def shT (P:ab) (t:ac) (K:List D->Prop):Prop:=
 match aX P t with
 |some z=>zZv P (zCz P 6 t) z.cells.toList K
 |none=>False
def z3k {z:aa} {K:D->Prop} (h:shC z K):∃d,K d:=by
 cases z<;>simp only[shC]at h<;>first|(obtain⟨n,h⟩:=h;exact⟨_,h⟩)|(obtain⟨a,n,h⟩:=h;exact⟨_,h⟩)
def zUc:∀{zs:List aa} {K:List D->Prop},shL zs K->∃ds,K ds
 |[],_,h=>⟨_,h⟩
 |_::_,_,h=>let⟨_,h1⟩:=z3k h;let⟨_,h2⟩:=zUc h1;⟨_,h2⟩
def zLf {P:ab}:∀{ts:List ac} {zs:List aa} {K:List D->Prop},zZv P ts zs K->∃ds,K ds
 |t::ts,z::zs,K,h=>by
  unfold zZv at h;split at h
  ·obtain⟨els,h⟩:=h;obtain⟨ds,h⟩:=zLf h;exact⟨_,h⟩
  ·obtain⟨d,h⟩:=z3k h;obtain⟨ds,h⟩:=zLf h;exact⟨_,h⟩
 |[],zs,K,h=>by unfold zZv at h;exact zUc h
 |t::ts,[],K,h=>by unfold zZv at h;exact zUc h
def cB {P:ab} {t:ac} {K:List D->Prop} (h:shT P t K):∃ds,K ds:=by
 unfold shT at h;split at h
 ·exact zLf h
 ·exact h.elim
def mkD (P:ab) (t:ac) (ds:List D):Option V:=
 match zIm P t with
 |some n=>bif bc ds.length n then ap (.agg (ds.map .d))else aq
 |none=>bif zAu P t then(match ds with
  |[d]=>ap (.d d)
  |_=>aq)else aq
def zHs {P:ab} {E:Ev} {w:af} {t sz i f:Nat} {els:List (List D)} {b oo:Nat} {c:Nat} {xs:List aa} {ds:List D} {v:V} (hx:DRL E.F els.flatten xs) (hu:∀el∈els,el.length=sz)
 (hs:Sat w (slR sz (ap ⟨b,oo,aq⟩) els.length c xs)) (hp:zE els i f ds.length=ap ds) (hm:mkD P t ds=ap v):∃y,VR E v y/\aO P t ⟨b,oo+i*sz+f,aq⟩ w y:=by
 unfold zE at hp;split at hp<;>first|(cases hp;done)|skip
 rename_i el hel;obtain⟨hb,hp⟩:=yP hp;have hb:=y3e hb;have hmem:=y1j hel;have hi:i<els.length:=(y1c.1 hel).1;rw[hu el hmem]at hb;obtain⟨b',o',l,T,fr,e1,e2,e3⟩:=zBa hs (by omega);cases e1;have hpart:=(hx.drop (i*sz+f)).take ds.length;have hfp:=zFa hu hel hb;rw[hfp,ba hp]at hpart;have hlen:xs.length=els.length*sz:=by rw[hx.length,kT hu]
 have hin:i*sz+sz<=els.length*sz:=by
  have:=y2k sz (show i+1<=els.length by omega);rwa [y4c]at this
 have hmemory:(l.drop (oo+i*sz+f)).take ds.length=(xs.drop (i*sz+f)).take ds.length:=by
  rw[<- e3,List.drop_take,ay,y5a,y4m oo];congr 1;rw[y4u];omega
 unfold mkD at hm;split at hm
 ·rename_i n hn;obtain⟨hq,hm⟩:=yP hm;have:=y1b hq;cases hm;refine⟨.agg ((xs.drop (i*sz+f)).take ds.length).toArray,by simp only[VR];exact⟨_,rfl,hpart.vrl⟩,?_⟩;refine eG hn e2 (by rw[<- this];exact hmemory) ?_;rw[hpart.length,this]
 ·obtain⟨hq,hm⟩:=yP hm;split at hm<;>first|(cases hm;done)|skip
  rename_i d;cases hm;simp only[y1d,y2r,DRL]at hpart hmemory;obtain⟨y,ys,e4,h4,h5⟩:=hpart;subst h5;refine⟨y,by simpa only[VR]using h4,j7 hq e2 ?_⟩;have:((l.drop (oo+i*sz+f)).take 1)[0]? =ap y:=by rw[hmemory,e4];rfl
  rw[y4v,y1a (by omega),y3p]at this;simpa using this
def z3o (P:ab) (t:ac) (vs:List V) (off:Nat):Option V:=
 match zIm P t with
 |some sz=>bif be (off+sz) vs.length then ap (.agg ((vs.drop off).take sz))else aq
 |none=>bif zAu P t then vs[off]? else aq
def zHy {P:ab} {E:Ev} {w:af} {t b off:Nat} {vs:List V} {l:List aa} {T:ac} {fr:Nat×Nat} {v:V} (hv:VRL E vs l) (hb:w.heap[b]? =ap (.cells l.toArray T fr)) (h:z3o P t vs off=ap v):
 ∃y,VR E v y/\aO P t ⟨b,off,aq⟩ w y:=by
 unfold z3o at h;split at h
 ·rename_i n hn;obtain⟨hq,h⟩:=yP h;have hq:=y3e hq;cases h;have hp:=(hv.drop off).take n;refine⟨.agg ((l.drop off).take n).toArray,by simp only[VR];exact⟨_,rfl,hp⟩,eG hn hb rfl ?_⟩;rw[hp.length,y1q,y1w];omega
 ·obtain⟨hq,h⟩:=yP h;obtain⟨y,h1,h2⟩:=hv.get h;exact⟨y,h2,j7 hq hb h1⟩
def qF (s:ByteArray):List (List D):=s.data.toList.map λb=>[.v (.int .u8 b.toNat)]
def cD:aa->aa->Bool
 | .int k a,.int k' b=>keq k k' && decide (a=b)
 | .string a,.string b=>decide (a=b)
 |_,_=>au
def qQ (x:aa):List (aa×List D)->Option (List D)
 |[]=>aq
 |(y,ds)::l=>bif cD x y then ap ds else qQ x l
def LK (es:List (aa×List D)) (x:aa) (z ds:List D) (b:Bool):Prop:=(qQ x es=ap ds/\b=ar)\/(qQ x es=aq/\ds=z/\b=au)
def yRb:aa->Bool
 | .int _ _=>ar
 |_=>au
def yOf:aa->Bool
 | .string _=>ar
 |_=>au
def z8e (P:ab) (t:ac) (x:aa):Bool:=
 match P.underlying t with
 |some (.int _)=>yRb x
 |some .string=>yOf x
 |_=>au
def like:aa->aa->Bool
 | .int k _,.int k' _=>keq k k'
 | .string _,.string _=>ar
 |_,_=>au
def pX (x:aa) (es:List (aa×List D)):Prop:=∀p∈es,like x p.1=ar
def vF (x:aa) (ds:List D):List (aa×List D)->List (aa×List D)
 |[]=>[(x,ds)]
 |(y,e)::l=>bif cD x y then(y,ds)::l else(y,e)::vF x ds l
def lV (x:aa):List (aa×List D)->List (aa×List D)
 |[]=>[]
 |(y,e)::l=>bif cD x y then l else(y,e)::lV x l
def mkM (P:ab) (t:ac) (ds:List D):Option V:=
 match zIm P t with
 |some n=>bif bc ds.length n && !(bc n 1)then ap (.agg (ds.map .d))else aq
 |none=>bif zAu P t then(match ds with
  |[d]=>ap (.d d)
  |_=>aq)else aq
def zOh (P:ab) (t:ac):Option (ac×ac):=
 match P.underlying t with
 |some (.map k e)=>ap (k,e)
 |_=>aq
def yEl {a b:ao} (h:keq a b=ar):a=b:=by
 cases a<;>cases b<;>first|rfl|cases h
def yJy {x y:aa} (h:cD x y=ar):x=y:=by
 unfold cD at h;split at h
 ·simp only[y1l,y2v]at h;rw[yEl h.1,h.2]
 ·rw[y1y h]
 ·cases h
def tX {P:ab} {t:ac} {x:aa} (h:z8e P t x=ar):∃kd,P.underlying t=ap kd/\zUt kd x:=by
 unfold z8e at h;split at h
 ·rename_i ik hu;refine⟨_,hu,.inl ?_⟩;cases x<;>first|(cases h;done)|exact⟨_,_,_,rfl,rfl⟩
 ·rename_i hu;refine⟨_,hu,.inr ?_⟩;cases x<;>first|(cases h;done)|exact⟨_,rfl,rfl⟩
 ·cases h
def z3i (s s':ByteArray):(s==s')=decide (s=s'):=by
 by_cases h:s=s'
 ·subst h;rw[y1v rfl];show(s.data==s.data)=ar;simp
 ·rw[y1s h];cases hb:s==s'
  ·rfl
  ·have:(s.data==s'.data)=ar:=hb;exact absurd (ByteArray.ext (eq_of_beq this)) h
def pI {kd:TypeDesc} {x y:aa} (hk:zUt kd x) (hl:like x y=ar):Instr.sameNow kd x y=ap (cD x y):=by
 rcases hk with⟨ik,k,n,rfl,rfl⟩|⟨s,rfl,rfl⟩
 ·cases y<;>simp only[like,y1p]at hl
  rename_i k' m;have:=yEl hl;subst this;simp only[Instr.sameNow,if_true,cD,hl,y4b];rfl
 ·cases y<;>simp only[like,y1p]at hl
  rename_i s';simp only[Instr.sameNow,cD];congr 1;exact z3i s s'
def zVm (k:ao):keq k k=ar:=by cases k<;>rfl
def zOq {kd:TypeDesc} {x:aa} (hk:zUt kd x):like x x=ar:=by
 rcases hk with⟨ik,k,n,rfl,rfl⟩|⟨s,rfl,rfl⟩
 ·exact zVm k
 ·rfl
def zQm {kd:TypeDesc} {x:aa} (hk:zUt kd x):cD x x=ar:=by
 rcases hk with⟨ik,k,n,rfl,rfl⟩|⟨s,rfl,rfl⟩
 ·simp only[cD,zVm,y4b,decide_true]
 ·simp only[cD,decide_true]
def zOk {l:List aj} {ck:Nat} (h:wI l ck) {e:aj} (he:e.born=ck):wI (l++[e]) (ck+1):=by
 refine⟨?_,λx hx=> ?_⟩
 ·rw[y1i,y3g];refine⟨h.1,by simp,λa ha b hb=> ?_⟩;obtain⟨x,hx,rfl⟩:=y2m.1 ha;have:=h.2 x hx;simp only[y1m,y4q,y2l]at hb;omega
 ·rcases y2f.1 hx with hx|hx
  ·have:=h.2 x hx;omega
  ·rw[y2l.1 hx,he];omega
def zLt {l:List aj} {ck q:Nat} (h:wI l ck) {m e:aj} (hm:l[q]? =ap m) (he:e.born=m.born):wI (l.set q e) ck:=by
 have hq:(l.set q e).map (·.born)=l.map (·.born):=by
  apply y5c;intro i;rw[y2n,y2n,y4l];split
  ·rename_i hi;subst hi;split
   ·rw[hm];simp[he]
   ·rename_i hlt;rw[y2i (by omega)];first|rfl|done
  ·rfl
 refine⟨by rw[hq];exact h.1,λx hx=> ?_⟩;rcases List.mem_or_eq_of_mem_set hx with hx|rfl
 ·exact h.2 x hx
 ·rw[he];exact h.2 m (y1j hm)
def z1l {l:List aj} {ck q:Nat} (h:wI l ck):wI (l.eraseIdx q) ck:=
 ⟨((List.eraseIdx_sublist l q).map _).nodup h.1,λx hx=>h.2 x ((List.eraseIdx_sublist l q).mem hx)⟩
def yEd:wI [] 0:=⟨by simp,by simp⟩
def eN {F:PH} {kd:TypeDesc} {x:aa} (hk:zUt kd x):∀{es:List (aa×List D)} {ents:List aj} (i:Nat),MR F es ents->pX x es->
 (bp kd x ents i=ap aq/\qQ x es=aq/\(∀ds,vF x ds es=es++[(x,ds)])/\lV x es=es/\∀e:aj,e.key=x->bp kd x (ents++[e]) i=ap (ap (i+ents.length,e.val)))\/
 (∃q m ds ys,bp kd x ents i=ap (ap (i+q,m.val))/\ents[q]? =ap m/\m.key=x/\qQ x es=ap ds/\DRL F ds ys/\m.val=nE ys/\
   (∀ds' ys' (e:aj),DRL F ds' ys'->e.key=x->e.val=nE ys'->MR F (vF x ds' es) (ents.set q e))/\MR F (lV x es) (ents.eraseIdx q)/\∀e:aj,e.key=x->bp kd x (ents.set q e) i=ap (ap (i+q,e.val)))
 |[],ents,i,h,_=>by
  simp only[MR]at h;subst h;exact .inl ⟨rfl,rfl,λds=>rfl,rfl,λe he=>by
   have hx:like x x=ar:=zOq hk;simp only[y3k,bp,he,pI hk hx,zQm hk];rfl⟩
 |(y,e)::es,ents,i,h,hl=>by
  simp only[MR]at h;obtain⟨m,ms,rfl,h1,⟨ys,h2,h3⟩,h4⟩:=h;have hy:like x y=ar:=hl (y,e) y1f;have hs:=pI hk hy;cases hb:cD x y with
  |true=>
   have hxy:=yJy hb;refine .inr ⟨0,m,e,ys,?_,rfl,by rw[h1,hxy],?_,h2,h3,?_,?_,?_⟩
   ·simp only[bp,h1,hs,hb];rfl
   ·simp only[qQ,hb,cond_true]
   ·intro ds' ys' e' q1 q2 q3;simp only[vF,hb,cond_true,y6o,MR];exact⟨e',ms,rfl,by rw[q2,hxy],⟨ys',q1,q3⟩,h4⟩
   ·simp only[lV,hb,cond_true,List.eraseIdx_cons_zero];exact h4
   ·intro e' he';simp only[y6o,bp,he',pI hk (zOq hk),zQm hk];rfl
  |false=>
   have hl':pX x es:=λp hp=>hl p (y1g _ hp)
   rcases eN hk (i+1) h4 hl' with⟨q1,q2,q3,q4,q5⟩|⟨q,m',ds,ys',q1,q2,q3,q4,q5,q6,q7,q8,q9⟩
   ·refine .inl ⟨?_,?_,λds=> ?_,?_,λe' he'=> ?_⟩
    ·simp only[bp,h1,hs,hb];exact q1
    ·simp only[qQ,hb,cond_false];exact q2
    ·simp only[vF,hb,cond_false,q3 ds,y2p]
    ·simp only[lV,hb,cond_false,q4]
    ·simp only[y2p,bp,h1,hs,hb];rw[q5 e' he',y1d,show i+1+ms.length=i+(ms.length+1)by omega]
   ·refine .inr ⟨q+1,m',ds,ys',?_,by simpa using q2,q3,?_,q5,q6,?_,?_,λe' he'=> ?_⟩
    ·simp only[bp,h1,hs,hb];rw[q1,show i+1+q=i+(q+1)by omega]
    ·simp only[qQ,hb,cond_false];exact q4
    ·intro ds' ys2 e' r1 r2 r3;simp only[vF,hb,cond_false,y6p,MR];exact⟨m,_,rfl,h1,⟨ys,h2,h3⟩,q7 ds' ys2 e' r1 r2 r3⟩
    ·simp only[lV,hb,cond_false,List.eraseIdx_cons_succ,MR];exact⟨m,_,rfl,h1,⟨ys,h2,h3⟩,q8⟩
    ·simp only[y6p,bp,h1,hs,hb];rw[q9 e' he',show i+1+q=i+(q+1)by omega]
def kP {P:ab} {kt:ac} {kd:TypeDesc} (hu:P.underlying kt=ap kd) {x:aa} (hk:zUt kd x) (b:Bool) (w:af):(Instr.checkKey b 10000 kt x).run P w= .ok () w:=by
 rcases hk with⟨ik,k,n,rfl,rfl⟩|⟨s,rfl,rfl⟩<;>
  (unfold Instr.checkKey;simp only[bind,run_bind,Cv.run_underlying hu];rfl)
def jQ {P:ab} {kt:ac} {kd:TypeDesc} (hu:P.underlying kt=ap kd) {x:aa} {ents:List aj} {r:Option (Nat×aa)} (h:bp kd x ents 0=ap r) (w:af):(Instr.findKey kt x ents).run P w= .ok r w:=by
 simp only[Instr.findKey,bind,run_bind,Cv.run_underlying hu,h];rfl
def vG {P:ab} {t:ac} {ke:ac×ac} (h:zOh P t=ap ke):P.underlying t=ap (.map ke.1 ke.2):=by
 unfold zOh at h;split at h
 ·rename_i k e hu;cases h;exact hu
 ·cases h
def zSw {P:ab} {E:Ev} {t:ac} {ds:List D} {v:V} (h:mkM P t ds=ap v) {ys:List aa} (hd:DRL E.F ds ys):VR E v (nE ys):=by
 unfold mkM at h;split at h
 ·obtain⟨hb,h⟩:=yP h;cases h;simp only[y1l,y4k]at hb;have h1:=y1b hb.1;have hl:ys.length=ds.length:=hd.length;have:nE ys= .agg ys.toArray:=by
   unfold nE;split
   ·rename_i y;rw[h1]at hl;simp only[y1d,y2r]at hl;rw[<- hl]at hb;exact absurd hb.2 (by decide)
   ·rfl
  rw[this];simp only[VR];exact⟨ys,rfl,hd.vrl⟩
 ·obtain⟨hb,h⟩:=yP h;split at h<;>first|(cases h;done)|skip
  cases h;simp only[DRL]at hd;obtain⟨x,xs,rfl,h1,rfl⟩:=hd;simpa only[VR,nE]using h1
def zPb (P:ab) (t:ac):Option (List D):=
 match aX P t with
 |some (.agg cs)=>(match zIm P t with
  |some _=>bif okc (.agg cs)then ap (cs.toList.map .v)else aq
  |none=>aq)
 |some z=>(match zIm P t with
  |some _=>aq
  |none=>bif z.oneC then ap [.v z]else aq)
 |none=>aq
def yAr {P:ab} {E:Ev} {t:ac} {ds:List D} {v:V} (h:zPb P t=ap ds) (hm:mkM P t ds=ap v):∃z,aX P t=ap z/\VR E v z:=by
 unfold zPb at h;split at h
 ·rename_i cs hz;split at h<;>first|(cases h;done)|skip
  rename_i n hn;obtain⟨hb,h⟩:=yP h;cases h;refine⟨_,hz,?_⟩;simp only[mkM,hn]at hm;obtain⟨_,hm⟩:=yP hm;cases hm;simp only[VR];refine⟨cs.toList,by simp,?_⟩;rw[y3j];exact yFg hb
 ·rename_i z hne hz;split at h<;>first|(cases h;done)|skip
  rename_i hn;obtain⟨hb,h⟩:=yP h;cases h;refine⟨_,hz,?_⟩;simp only[mkM,hn]at hm;obtain⟨_,hm⟩:=yP hm;cases hm;simp only[VR,DR];exact⟨trivial,hb⟩
 ·cases h
def zBo (s:St) (n:Nat):Option Nat:=
 match s.get n with
 |some (.objs _ _ _ _ l _)=>ap l.length
 |_=>aq
def zGf {k:Ko} {L:List HP} {E:Ev} {s:St} {w:af} (R:Rel k L E s w) {n len:Nat} (h:zBo s n=ap len):
 ∃a c sub,E.tab[n]? =ap (.slice a len c,sub)/\sub.length=len/\(∀p∈sub,∃b oo,p= .pointer (ap ⟨b,oo,aq⟩))/\Sat w (slR 1 a len c sub):=by
 unfold zBo at h;split at h<;>first|(cases h;done)|skip
 rename_i t T m unf l hole hg;cases h;obtain⟨⟨v,sub⟩,x,h1,h2,h3⟩:=R.row hg (by simp);simp only[rowHP]at h2;obtain⟨a,c,e1,e2,e3,e4⟩:=h2;obtain⟨g,g',q1,q2,q3,rfl⟩:=e4;subst e1;exact⟨a,c,sub,h1,e2,e3,g,bF q1,λb o e=>h3 b o (by simp[un,e])⟩
structure HolI where
 q:Bool
 T:Nat
 sz:Nat
 els:List (List D)
 i:Nat
 f:Nat
 b:Bool
 m:Option Nat
def aL (s:St) (n:Nat):Option HolI:=
 match s.get n with
 |some (.hol q t sz els i f b m)=>ap ⟨q,t,sz,els,i,f,b,m⟩
 |_=>aq
def pH {s:St} {n:Nat} {x:HolI} (h:aL s n=ap x):s.get n=ap (.hol x.q x.T x.sz x.els x.i x.f x.b x.m):=by
 unfold aL at h;split at h<;>first|(cases h;done)|skip
 rename_i hg;cases h;exact hg
def HolI.clear (x:HolI) (i f k:Nat):Prop:=x.f<x.sz/\(x.b=ar->i=x.i->f+k<=x.f\/x.f<f)
def Rel.hol {k:Ko} {L:List HP} {E:Ev} {s:St} {w:af} (R:Rel k L E s w) {n:Nat} {x:HolI} (h:aL s n=ap x):
 ∃a c sub ys xs,E.tab[n]? =ap (.slice a x.els.length c,sub)/\DRL E.F x.els.flatten ys/\(∀el∈x.els,el.length=x.sz)/\HolX E.tab (x.i*x.sz+x.f) x.b ys xs x.m/\Sat w (slR x.sz a x.els.length c xs):=by
 obtain⟨⟨hv,sub⟩,z,h1,h2,h3⟩:=R.row (pH h) (by simp);simp only[rowHP]at h2;obtain⟨a,c,ys,xs,rfl,q2,q3,q4,q5⟩:=h2;exact⟨a,c,sub,ys,xs,h1,q2,q3,q4,z,bF q5,h3⟩
def zLw {tab:List Hd} {p:Nat} {b:Bool} {ys xs:List aa}:∀{m:Option Nat},HolX tab p b ys xs m->xs.length=ys.length
 |some m,⟨y,l,h1,h2,h3⟩=>by cases b<;>simp[h3]
 |none,⟨y,h1,h3⟩=>by cases b<;>simp[h3]
def yAh {tab:List Hd} {p:Nat} {b:Bool} {ys xs:List aa}:∀{m:Option Nat},HolX tab p b ys xs m->∀o n,(b=ar->o+n<=p\/p<o)->(xs.drop o).take n=(ys.drop o).take n:=by
 have key:∀{y:aa},xs=(bif b then ys.set p y else ys)->∀o n,(b=ar->o+n<=p\/p<o)->(xs.drop o).take n=(ys.drop o).take n:=by
  intro y h o n hc;cases b with
  |false=>rw[h];rfl
  |true=>
   rw[h,cond_true];apply y5c;intro j;rw[y4v,y4v];split
   ·rw[y3p,y3p,y4l,y0y (by have:=hc rfl;omega)]
   ·rfl
 intro m;cases m with
 |none=>rintro⟨y,_,h⟩;exact key h
 |some m=>rintro⟨y,l,_,_,h⟩;exact key h
def z4u {sz i f i0 f0 k:Nat} (h1:f+k<=sz) (h2:f0<sz) (hne:i=i0->f+k<=f0\/f0<f):i*sz+f+k<=i0*sz+f0\/i0*sz+f0<i*sz+f:=by
 rcases Nat.lt_trichotomy i i0 with h|h|h
 ·have:=y2k sz (show i+1<=i0 by omega);rw[y4c]at this;left;omega
 ·subst h;rcases hne rfl with h|h
  ·left;omega
  ·right;omega
 ·have:=y2k sz (show i0+1<=i by omega);rw[y4c]at this;right;omega
def zOb {P:ab} {E:Ev} {w:af} {t sz i f:Nat} {els:List (List D)} {b oo:Nat} {c:Nat} {xs:List aa} {ds:List D} {v:V} (hlen:xs.length=els.length*sz) (hu:∀el∈els,el.length=sz)
 (hs:Sat w (slR sz (ap ⟨b,oo,aq⟩) els.length c xs)) (hp:zE els i f ds.length=ap ds) (hpart:DRL E.F ds ((xs.drop (i*sz+f)).take ds.length)) (hm:mkD P t ds=ap v):∃y,VR E v y/\aO P t ⟨b,oo+i*sz+f,aq⟩ w y:=by
 unfold zE at hp;split at hp<;>first|(cases hp;done)|skip
 rename_i el hel;obtain⟨hb,hp⟩:=yP hp;have hb:=y3e hb;have hmem:=y1j hel;have hi:i<els.length:=(y1c.1 hel).1;rw[hu el hmem]at hb;obtain⟨b',o',l,T,fr,e1,e2,e3⟩:=zBa hs (by omega);cases e1;have hin:i*sz+sz<=els.length*sz:=by
  have:=y2k sz (show i+1<=els.length by omega);rwa [y4c]at this
 have hmemory:(l.drop (oo+i*sz+f)).take ds.length=(xs.drop (i*sz+f)).take ds.length:=by
  rw[<- e3,List.drop_take,ay,y5a,y4m oo];congr 1;rw[y4u];omega
 unfold mkD at hm;split at hm
 ·rename_i n hn;obtain⟨hq,hm⟩:=yP hm;have:=y1b hq;cases hm;refine⟨.agg ((xs.drop (i*sz+f)).take ds.length).toArray,by simp only[VR];exact⟨_,rfl,hpart.vrl⟩,?_⟩;refine eG hn e2 (by rw[<- this];exact hmemory) ?_;rw[hpart.length,this]
 ·obtain⟨hq,hm⟩:=yP hm;split at hm<;>first|(cases hm;done)|skip
  rename_i d;cases hm;simp only[y1d,y2r,DRL]at hpart hmemory;obtain⟨y,ys,e4,h4,h5⟩:=hpart;subst h5;refine⟨y,by simpa only[VR]using h4,j7 hq e2 ?_⟩;have:((l.drop (oo+i*sz+f)).take 1)[0]? =ap y:=by rw[hmemory,e4];rfl
  rw[y4v,y1a (by omega),y3p]at this;simpa using this
def zRt (P:ab) (t:ac) (x:HolI) (sz i f:Nat) (K:V->Prop):Prop:=
 bif bc sz x.sz then(match x.q,x.m,v7 P t with
  |true,ap c,ap _=>bif zAu P t then(i=x.i/\f=x.f/\x.b=ar/\i<x.els.length/\f<sz)/\K (.own c)else False
  |_,_,_=>shT P t λds=>zE x.els i f ds.length=ap ds/\x.clear i f ds.length/\optK (mkD P t ds) K)else False
def z2m {P:ab} {k:Ko} {L:List HP} {E:Ev} {s:St} {w:af} (R:Rel k L E s w) {t n sz i f:Nat} {x:HolI} {K:V->Prop} (hx:aL s n=ap x) (h:zRt P t x sz i f K)
 {b oo m c:Nat} {l:List aa} (e1:E.tab[n]? =ap (.slice (ap ⟨b,oo,aq⟩) m c,l)):∃v y,K v/\VR E v y/\aO P t ⟨b,oo+i*sz+f,aq⟩ w y:=by
 unfold zRt at h;obtain⟨hb,h⟩:=zJ h;have e:=y1b hb;subst e;obtain⟨a,c',sub,ys,xs,q1,q2,q3,q4,q5⟩:=R.hol hx;rw[e1]at q1;cases q1;have hyl:ys.length=x.els.length*x.sz:=by rw[q2.length,kT q3]
 have hxl:xs.length=x.els.length*x.sz:=by rw[zLw q4,hyl]
 split at h
 ·rename_i cc tt hq hm hs;obtain⟨hsc,⟨rfl,rfl,hbt,hi,hf⟩,hk⟩:=zJ h;rw[hm]at q4;obtain⟨y,ly,r1,⟨ya,yn,yc,r2⟩,r3⟩:=q4;rw[hbt,cond_true]at r3;have hin:x.i*x.sz+x.sz<=x.els.length*x.sz:=by
   have:=y2k x.sz (show x.i+1<=x.els.length by omega);rwa [y4c]at this
  obtain⟨b',o',l',T,fr,e2,e3,e4⟩:=zBa q5 (by omega);cases e2;refine⟨_,y,hk,by simp only[VR];exact⟨ly,r1,ya,yn,yc,r2⟩,j7 hsc e3 ?_⟩;have:xs[x.i*x.sz+x.f]? =ap y:=by rw[r3,y4l,y1a rfl,y1a (by omega)]
  rw[<- e4,y4v,y1a (by omega),y3p]at this;rw[show oo+x.i*x.sz+x.f=oo+(x.i*x.sz+x.f)by omega];exact this
 ·obtain⟨ds,hp,⟨hfs,hcl⟩,h⟩:=cB h;obtain⟨v,hm,hk⟩:=zK h;have hpp:=hp;unfold zE at hpp;split at hpp<;>first|(cases hpp;done)|skip
  rename_i el hel;obtain⟨hbb,hpp⟩:=yP hpp;have hbb:=y3e hbb;rw[q3 el (y1j hel)]at hbb;have hpart:=(q2.drop (i*x.sz+f)).take ds.length;rw[zFa q3 hel hbb,ba hpp]at hpart;rw[<- yAh q4 (i*x.sz+f) ds.length (λhb=>z4u hbb hfs (hcl hb))]at hpart;obtain⟨y,hy,hh⟩:=zOb hxl q3 q5 hp hpart hm;exact⟨v,y,hk,hy,hh⟩
def sr (P:ab) (o:ak) (ρ:yZ) (s:St) (K:V->Prop):Prop:=
 match o.op with
 | .load t x=>match sev ρ x with
   | .nm n off=>match s.get n with
     |some (.cells vs _)=>optK (z3o P t vs off) K
     |_=>False
   | .el n sz i f=>match zBo s n with
     |some len=>bif bc sz 1 && bc f 0 && zAu P t then i<len/\K (.sub n i)else False
     |none=>match aL s n with
     |some x=>zRt P t x sz i f K
     |none=>optK (n5 s (.own n)) λse=>bif bc sz se.1 then shT P t λds=>zE se.2 i f ds.length=ap ds/\optK (mkD P t ds) K else False
   | .re sz els i f=>shT P t λds=>zE els i f ds.length=ap ds/\optK (mkD P t ds) K
   | .na n off i=>match s.get n with
     |some (.cells vs _)=>bif zAu P t then shT P t λds=>match ds with
      |[d]=>(vs.drop off)[i]?=ap (.d d)/\K (.d d)
      |_=>False else False
     |some (.vec es _)=>bif zAu P t then shT P t λds=>match ds with
      |[d]=>(es.drop off)[i]?=ap d/\K (.d d)
      |_=>False else False
     |_=>False
   |_=>False
 | .indexAddr t x i=>match sev ρ x with
   | .own n=>match sev ρ i with
     | .d (.v (.int _ i))=>optK (v7 P t) λsz=>match zBo s n with
       |some len=>bif bc sz 1 then(0<=i/\i<len)/\K (.el n 1 i.toNat 0)else False
       |none=>match aL s n with
       |some x=>bif bc sz x.sz then(0<=i/\i<x.els.length)/\K (.el n sz i.toNat 0)else False
       |none=>optK (n5 s (.own n)) λse=>bif bc sz se.1 then(0<=i/\i<se.2.length)/\K (.el n sz i.toNat 0)else False
     |_=>False
   |_=>False
 | .binOp op t x y _=>match sev ρ x with
   | .own n=>bif zTn y && zDi P t then optK (n5 s (.own n)) λse=>zZm op se.2 K else False
   |_=>False
 | .convert st d x=>bif yAv P st && zBf P d then optK (n5 s (sev ρ x)) λse=>∃b:ByteArray,se.1=1/\se.2=qF b/\K (.d (.v (.string b)))else False
 | .call c=>match c.callee with
   | .builtin .len=>match evs ρ c.args.toList with
     |[.own n]=>optK c.argTypes[0]? λt=>bif zDi P t then(match zBo s n with
      |some len=>K (.d (.v (.int .i64 len)))
      |none=>optK (n5 s (.own n)) λse=>K (.d (.v (.int .i64 se.2.length))))else False
     |[.mp n]=>optK c.argTypes[0]? λt=>bif z1t P t then(match s.get n with
      |some (.map es)=>K (.d (.v (.int .i64 es.length)))
      |_=>False)else False
     |_=>False
   |_=>False
 | .lookup t x i ok=>match sev ρ x with
   | .mp n=>match s.get n with
     |some (.map es)=>optK (zOh P t) λke=>optK (zOe (sev ρ i)) λkv=>bif z8e P ke.1 kv then optK (zPb P ke.2) λz=>pX kv es/\∃b,shT P ke.2 λds=>LK es kv z ds b/\optK (mkM P ke.2 ds) λv=>K (bif ok then .tup [v,.d (.v (.bool b))]else v)else False
     |_=>False
   |_=>False
 |_=>False
def y0m (P:ab) (E:Ev) (o:ak) (ρ:Env) (w:af) (K:V->Prop):Prop:=∃v y,K v/\VR E v y/\(ae (ev ρ) o).run P w=.ok (.value y) w
def zZe {P:ab} {F:PH} {b:ByteArray} {xs:List aa} (h:DRL F (qF b).flatten xs):xs=(b.data.toList.map UInt8.toNat).map λ(n:Nat)=>Value.int .u8 (n:Int):=by
 unfold qF at h;revert h;generalize b.data.toList=l
 induction l generalizing xs with
 |nil=>intro h;simpa[DRL]using h
 |cons a l ih=>
  intro h;simp only[y1m,y3o,y2p,y3k,DRL,DR]at h;obtain⟨x,ys,rfl,⟨rfl,_⟩,h⟩:=h;simp only[y1m];rw[ih h]
def zNx {P:ab} {k:Ko} {L:List HP} {E:Ev} {s:St} {w:af} (R:Rel k L E s w) {ρS:yZ} {ρ:Env} (he:EnvR E ρS ρ) {o:ak} {K:V->Prop} (h:sr P o ρS s K):y0m P E o ρ w K:=by
 cases ho:o.op
 case load t x=>
  simp only[sr,ho]at h;have hv:=he.ev x;split at h<;>first|exact h.elim|skip
  ·rename_i n off hx;rw[hx]at hv;simp only[VR]at hv;obtain⟨b,oo,l,e1,e2⟩:=hv;split at h<;>first|exact h.elim|skip
   rename_i vs T hg;obtain⟨v,hp,hk⟩:=zK h;obtain⟨b',l',sub,q1,q2,q3⟩:=R.cells hg;rw[e1]at q1;cases q1;obtain⟨y,hy,hh⟩:=zHy q2 q3 hp;refine⟨v,y,hk,hy,?_⟩;simp only[ae,ho,e2,y1x];exact yD hh
  ·rename_i n sz i f hx;rw[hx]at hv;simp only[VR]at hv;obtain⟨b,oo,m,c,l,e1,e2⟩:=hv;split at h
   ·rename_i len hob;obtain⟨hb,hi,hk⟩:=zJ h;simp only[y1l]at hb;have b1:=y1b hb.1.1;have b2:=y1b hb.1.2;subst b1 b2;obtain⟨a,c',sub,q1,q2,q3,q4⟩:=zGf R hob;rw[e1]at q1;cases q1;obtain⟨bb,o',ll,T,fr,r1,r2,r3⟩:=zBa q4 (by omega);cases r1;obtain⟨p,hp⟩:∃p,l[i]? =ap p:=⟨_,y2h (by omega)⟩
    obtain⟨pb,po,rfl⟩:=q3 p (y1j hp);refine⟨.sub n i,.pointer (ap ⟨pb,po,aq⟩),hk,by simp only[VR];exact⟨_,l,pb,po,e1,hp,rfl⟩,?_⟩;simp only[ae,ho,e2];refine yD (j7 hb.2 r2 ?_);rw[<- r3,y4v,y1a (by omega),y3p]at hp;rw[show oo+i*1+0=oo+i by omega];exact hp
   split at h
   ·rename_i x hx;obtain⟨v,y,hk,hy,hh⟩:=z2m R hx h e1;refine⟨v,y,hk,hy,?_⟩;simp only[ae,ho,e2];exact yD hh
   obtain⟨⟨sz',els⟩,hd,h⟩:=zK h;obtain⟨hb,h⟩:=zJ h;have:=y1b hb;simp only at this;subst this;obtain⟨ds,hp,h⟩:=cB h;obtain⟨v,hm,hk⟩:=zK h;obtain⟨a,c',xs,q1,q2,q3,q4,q5⟩:=cO R (v:= .own n) (y:= .slice (ap ⟨b,oo,aq⟩) m c) (by simp only[VR];exact⟨l,e1,_,_,_,rfl⟩) hd;cases q1;obtain⟨y,hy,hh⟩:=zHs q3 q4 q5 hp hm;refine⟨v,y,hk,hy,?_⟩;simp only[ae,ho,e2];exact yD hh
  ·rename_i sz els i f hx;rw[hx]at hv;simp only[VR]at hv;obtain⟨e0,e1,b,oo,l,T,fr,e2,e3,e4⟩:=hv;obtain⟨ds,hp,h⟩:=cB h;obtain⟨v,hm,hk⟩:=zK h;obtain⟨a,c',xs,q1,q2,q3,q4,q5⟩:=zFf R (sz:=sz) (els:=els) (y:= .slice (ap ⟨b,oo,aq⟩) els.length els.length) (by
    simp only[DR];exact⟨_,_,rfl,y1u _,e1,.inr ⟨b,oo,l,T,fr,rfl,e3,e4⟩⟩)
   cases q1;obtain⟨y,hy,hh⟩:=zHs q3 q4 q5 hp hm;refine⟨v,y,hk,hy,?_⟩;simp only[ae,ho,e2];exact yD hh
  ·rename_i n off i hx;rw[hx]at hv;simp only[VR]at hv;obtain⟨b,oo,l,e1,e2⟩:=hv;split at h<;>first|exact h.elim|skip
   rename_i vs T hg;obtain⟨hsc,h⟩:=zJ h;obtain⟨ds,h⟩:=cB h;split at h<;>first|exact h.elim|skip
   rename_i d;obtain⟨hd,hk⟩:=h;obtain⟨b',l',sub,q1,q2,q3⟩:=R.cells hg;rw[e1]at q1;cases q1;obtain⟨y,hy,hh⟩:=(q2.drop off).get hd;rw[y3p]at hy;refine⟨.d d,y,hk,hh,?_⟩;simp only[ae,ho,e2,y1x];exact yD (j7 hsc q3 hy);rename_i vs T hg;obtain⟨hsc,h⟩:=zJ h;obtain⟨ds,h⟩:=cB h;split at h<;>first|exact h.elim|skip
   rename_i d;obtain⟨hd,hk⟩:=h;obtain⟨b',l',sub,q1,q2,q3⟩:=R.vec hg;rw[e1]at q1;cases q1;obtain⟨y,hy,hh⟩:=(q2.drop off).get hd;rw[y3p]at hy;refine⟨.d d,y,hk,by simpa only[VR]using hh,?_⟩;simp only[ae,ho,e2,y1x];exact yD (j7 hsc q3 hy)
 case indexAddr t x i=>
  simp only[sr,ho]at h;have hv:=he.ev x;split at h<;>first|exact h.elim|skip
  rename_i n hx;split at h<;>first|exact h.elim|skip
  rename_i kk i' hi;have hiv:=he.ev i;rw[hi]at hiv;have hiv:=hiv.intv;obtain⟨sz,hs,h⟩:=zK h;split at h
  ·rename_i len hob;obtain⟨hb,⟨h0,h1⟩,hk⟩:=zJ h;have b1:=y1b hb;subst b1;obtain⟨a,c',sub,q1,q2,q3,q4⟩:=zGf R hob;rw[hx]at hv;simp only[VR]at hv;obtain⟨l,e1,_⟩:=hv;rw[q1]at e1;obtain⟨b,oo,ll,T,fr,rfl,r2,r3⟩:=zBa q4 (by omega);have e1:=ba e1;have e2:ev ρ x= .slice (ap ⟨b,oo,aq⟩) len c':=(congrArg Prod.fst e1).symm;refine⟨_,.pointer (ap ⟨b,oo+i'.toNat*1+0,aq⟩),hk,by simp only[VR];exact⟨_,_,_,_,_,q1,rfl⟩,?_⟩;simp only[ae,ho,e2,hiv];refine yD ?_;rw[kL hs ⟨h0,by omega⟩,wO];rfl
  split at h
  ·rename_i xh hxh;obtain⟨hb,⟨h0,h1⟩,hk⟩:=zJ h;have b1:=y1b hb;subst b1;obtain⟨a,c',sub,ys,xs,q1,q2,q3,q4,q5⟩:=R.hol hxh;rw[hx]at hv;simp only[VR]at hv;obtain⟨l,e1,_⟩:=hv;rw[q1]at e1;obtain⟨b,oo,ll,T,fr,rfl,r2,r3⟩:=zBa q5 (by omega);have e1:=ba e1;have e2:ev ρ x= .slice (ap ⟨b,oo,aq⟩) xh.els.length c':=(congrArg Prod.fst e1).symm;refine⟨_,.pointer (ap ⟨b,oo+i'.toNat*xh.sz+0,aq⟩),hk,by simp only[VR];exact⟨_,_,_,_,_,q1,rfl⟩,?_⟩;simp only[ae,ho,e2,hiv];refine yD ?_;rw[kL hs ⟨h0,by omega⟩,wO];rfl
  obtain⟨⟨sz',els⟩,hd,h⟩:=zK h;obtain⟨hb,⟨h0,h1⟩,hk⟩:=zJ h;have:=y1b hb;simp only at this;subst this;simp only at h1;rw[hx]at hv;have hv':=hv;simp only[VR]at hv';obtain⟨sub,e1,_⟩:=hv';obtain⟨a,c',xs,q1,q2,q3,q4,q5⟩:=cO R hv hd;obtain⟨b,oo,l,T,fr,rfl,e2,e3⟩:=zBa q5 (by omega);rw[q1]at e1;refine⟨_,.pointer (ap ⟨b,oo+i'.toNat*sz+0,aq⟩),hk,by simp only[VR];exact⟨_,_,_,_,_,e1,rfl⟩,?_⟩;simp only[ae,ho,q1,hiv];refine yD ?_;rw[kL hs ⟨h0,by omega⟩,wO];rfl
 case binOp op t x y u=>
  simp only[sr,ho]at h;split at h<;>first|exact h.elim|skip
  rename_i n hx;obtain⟨hb,h⟩:=zJ h;simp only[y1l]at hb;obtain⟨⟨sz',els⟩,hd,hk⟩:=zK h;have hv:=he.ev x;rw[hx]at hv;obtain⟨a,c',xs,q1,q2,q3,q4,q5⟩:=cO R hv hd;obtain⟨v,y',h1,h2,h3⟩:=zKq (E:=E) ho hb.1 hb.2 q1 (λha=>by
   obtain⟨z,hz,_⟩:=q5;rcases hz with⟨h1,_⟩|⟨_,_,_,_,_,h1,_⟩
   ·exact y1z h1
   ·rw[ha]at h1;cases h1) hk
  exact⟨v,y',h1,h2,h3 w⟩
 case convert st d x=>
  simp only[sr,ho]at h;obtain⟨hb,h⟩:=zJ h;simp only[y1l]at hb;obtain⟨⟨sz',els⟩,hd,h⟩:=zK h;obtain⟨b,rfl,rfl,hk⟩:=h;obtain⟨a,c',xs,q1,q2,q3,q4,q5⟩:=cO R (he.ev x) hd;refine⟨_,.string b,hk,kN rfl,?_⟩;obtain⟨e,hes,hu⟩:=z9i hb.1;simp only[ae,ho,q1];refine yD ?_;have hxs:=zZe (P:=P) q3;obtain⟨r1,hfc,r3⟩:=zDw (P:=P) (.inl ⟨a,c',rfl,q5⟩);rcases a with _|ad
  ·obtain⟨x,hx,hs⟩:=q5;have hz:(qF b).length=0:=by
    rcases hx with⟨h1,_⟩|⟨_,_,_,_,_,h1,_⟩
    ·exact h1
    ·cases h1
   have hb0:b= .empty:=by
    unfold qF at hz;simp at hz;simpa using hz
   subst hb0;simp only[convert,bind,run_bind,Cv.run_underlying hes,Cv.run_underlying (aW hb.2),Cv.run_underlying hu];rfl
  ·simp only[cn,Nat.mul_one]at hfc;rw[hxs]at hfc;simp only[convert,bind,run_bind,Cv.run_underlying hes,Cv.run_underlying (aW hb.2),Cv.run_underlying hu,Conv.bytesToString,hfc];rw[<- Array.forIn_toList];simp only[bind,pure];rw[zCk (P:=P) w (λ_ _=>rfl) _ .empty];simp only[bu];congr 2;rw[Cv.bs_toNat];apply ByteArray.ext;simp
 case call c=>
  simp only[sr,ho]at h;split at h<;>first|exact h.elim|skip
  rename_i hc;obtain⟨ys,e1,e2⟩:=cJ he c.args;split at h<;>first|exact h.elim|skip
  ·rename_i n hargs;obtain⟨t,ht,h⟩:=zK h;obtain⟨hs,h⟩:=zJ h;split at h
   ·rename_i len hob;rw[hargs]at e2;simp only[VRL,VR]at e2;obtain⟨y,_,rfl,⟨l,hv,_⟩,rfl⟩:=e2;obtain⟨a,c',sub,q1,q2,q3,q4⟩:=zGf R hob;rw[hv]at q1;have e3:y= .slice a len c':=congrArg Prod.fst (ba q1);subst e3;refine⟨_,.int .i64 len,h,kN rfl,?_⟩;rw[kR ho hc,e1];obtain⟨e,hse⟩:=rT hs;refine yD ?_;simp only[cm,ht,y2y,y3h,bind,run_bind,Cv.run_underlying hse];rfl
   obtain⟨⟨sz',els⟩,hd,hk⟩:=zK h;rw[hargs]at e2;simp only[VRL]at e2;obtain⟨y,_,rfl,hv,rfl⟩:=e2;obtain⟨a,c',xs,rfl,q2,q3,q4,q5⟩:=cO R hv hd;refine⟨_,.int .i64 els.length,hk,kN rfl,?_⟩;rw[kR ho hc,e1];obtain⟨e,hse⟩:=rT hs;refine yD ?_;simp only[cm,ht,y2y,y3h,bind,run_bind,Cv.run_underlying hse];rfl
  ·rename_i n hargs;obtain⟨t,ht,h⟩:=zK h;obtain⟨hs,h⟩:=zJ h;split at h<;>first|exact h.elim|skip
   rename_i es hg;rw[hargs]at e2;simp only[VRL,VR]at e2;obtain⟨y,_,rfl,⟨bm,sub,e3,rfl⟩,rfl⟩:=e2;obtain⟨hd,x,q1,q2,q3⟩:=R.row hg (by simp);rw[e3]at q1;cases q1;simp only[rowHP]at q2;obtain⟨b,ents,ck,e4,e5,e6,rfl⟩:=q2;cases e4;have hm:=q3 bm _ (by simp[one];rfl);have hl:ents.length=es.length:=by
    clear q3 hm hg h e6
    induction es generalizing ents with
    |nil=>simp only[MR]at e5;rw[e5];rfl
    |cons p es ih=>obtain⟨m,ms,rfl,_,_,e5⟩:=e5;simp[ih _ e5]
   refine⟨_,.int .i64 es.length,h,kN rfl,?_⟩;rw[kR ho hc,e1];obtain⟨kt,e,hse⟩:=zXq hs;refine yD ?_;simp only[cm,ht,y2y,y3h,bind,run_bind,Cv.run_underlying hse,x3 hm trivial];simp[pure,bu,goInt,hl]
 case lookup t x i ok=>
  simp only[sr,ho]at h;split at h<;>first|exact h.elim|skip
  rename_i n hx;split at h<;>first|exact h.elim|skip
  rename_i es hg;obtain⟨ke,hke,h⟩:=zK h;obtain⟨kv,hkv,h⟩:=zK h;obtain⟨hks,h⟩:=zJ h;obtain⟨z,hz,hal,b,h⟩:=zK h;obtain⟨ds,hlk,h⟩:=cB h;obtain⟨v,hm,hk⟩:=zK h;have hv:=he.ev x;rw[hx]at hv;simp only[VR]at hv;obtain⟨bm,sub,e1,e2⟩:=hv;obtain⟨hd,x',q1,q2,q3⟩:=R.row hg (by simp);rw[e1]at q1;cases q1;simp only[rowHP]at q2;obtain⟨b',ents,ck,e4,e5,e6,rfl⟩:=q2;rw[e2]at e4;cases e4;have hmm:=q3 bm _ (by simp[one];rfl);have hi:ev ρ i=kv:=rG hkv (he.ev i);obtain⟨kd,hu,hkt⟩:=tX hks;have hzr:∀v,mkM P ke.2 z=ap v->∃zv,aX P ke.2=ap zv/\VR E v zv:=λv hv=>yAr hz hv
  refine⟨bif ok then .tup [v,.d (.v (.bool b))]else v,?_⟩;have run:∃y,VR E v y/\(bt t (.map (ap bm)) kv ok).run P w= .ok (if ok then .tuple #[y,.bool b]else y) w:=by
   rcases eN hkt 0 e5 hal with⟨r1,r2,r3,r4,_⟩|⟨q,m,ds',ys,r1,r2,r3,r4,r5,r6,r7,r8,_⟩
   ·rcases hlk with⟨l1,l2⟩|⟨l1,l2,l3⟩
    ·rw[r2]at l1;cases l1
    ·subst l2 l3;obtain⟨zv,z1,z2⟩:=hzr v hm;refine⟨zv,z2,?_⟩;simp only[bt,bind,run_bind,Cv.run_underlying (vG hke),x3 hmm trivial,pure,bu,kP hu hkt,jQ hu r1,zero_run (fB z1)]
   ·rcases hlk with⟨l1,l2⟩|⟨l1,l2,l3⟩
    ·rw[r4]at l1;cases l1;subst l2;refine⟨nE ys,zSw hm r5,?_⟩;simp only[bt,bind,run_bind,Cv.run_underlying (vG hke),x3 hmm trivial,pure,bu,kP hu hkt,jQ hu r1,r6]
    ·rw[r4]at l1;cases l1
  obtain⟨y,hy,hrun⟩:=run;refine⟨if ok then .tuple #[y,.bool b]else y,hk,?_,?_⟩
  ·cases ok
   ·exact hy
   ·simp only[cond_true,if_true,VR,VRL,DR];exact⟨[y,.bool b],rfl,y,_,rfl,hy,_,_,rfl,⟨rfl,rfl⟩,rfl⟩
  ·simp only[ae,ho,e2,hi];exact yD hrun
 all_goals(simp only[sr,ho]at h)
variable {P:ab} {k:Ko} {L:List HP} {E:Ev} {s:St} {w:af}
def yFy {α:Type _} {w:af} {f g:α->HP} (h:∀a x,f a x->g a x):∀{l:List α} {M:List HP} {hs:List PH},Hs w (l.map f++M) hs->Hs w (l.map g++M) hs
 |[],M,hs,H=>H
 |a::l,M,hs,H=>by
  simp only[y1m,y2p]at H ⊢;cases H with
  |cons ha hsub hd hr=>exact .cons (h _ _ ha) hsub hd (yFy h hr)
def jK {α:Type _} {f g:α->HP} (h:∀a x,f a x->g a x) {l:List α} {M:List HP} (H:Hp k w (l.map f++M)):Hp k w (l.map g++M):=
 ⟨H.1,let⟨hs,hh⟩:=H.2;⟨hs,yFy h hh⟩⟩
def zRo {A:HP} {F:PH} {M:List HP} (H:Hp k w (A::fz F::M)):∃x,A x/\Dj x F/\Sub x w/\Hp k w (fz (un x F)::M):=by
 obtain⟨hk,hs,hh⟩:=H;cases hh with
 |cons ha hsub hd hr=>
  cases hr with
  |cons hf hfs hfd hr=>
   simp only[fz]at hf;obtain⟨rfl,hgt⟩:=hf;refine⟨_,ha,hd _ y1f,hsub,hk,_,.cons ⟨rfl,hgt.mono (λb o e=>by
    rcases hd _ y1f b with h|h
    ·simp[un,h,e]
    ·rw[e]at h;cases h)⟩ (yBd hsub hfs) (λg hg=>z5u (hd g (y1g _ hg)) (hfd g hg)) hr⟩
def zZj {x F:PH} (d:Dj x F):FLe F (un x F):=λb o e=>by
 rcases d b with h|h
 ·simp[un,h,e]
 ·rw[e]at h;cases h
def Rel.new (R:Rel k L E s w) {o:AObj} {O:Obj} {hd:Hd} (h:rowHP E.F o (E.tab++[hd]) hd (one w.heap.size O)):E.le ⟨E.F,E.tab++[hd]⟩/\Rel k L ⟨E.F,E.tab++[hd]⟩ (s.new o) (w.alloc O)/\(E.tab++[hd])[s.nx]? =ap hd:=by
 have hle:E.le ⟨E.F,E.tab++[hd]⟩:=⟨FLe.refl _,y4w _ _⟩
 have hget:(E.tab++[hd])[s.nx]? =ap hd:=by rw[<- R.nx];simp
 refine⟨hle,⟨by simp[St.new,R.nx],?_⟩,hget⟩;have H:=R.hp.new O;have H1:Hp k (w.alloc O) (s.rows.map (rHP E)++(pt w.heap.size O::fz E.F::L)):=H.perm (y1n (l₁:=s.rows.map (rHP E))).symm;have H2:=jK (λr x=>rHP.mono hle r) H1;have H3:Hp k (w.alloc O) (pt w.heap.size O::(s.rows.map (rHP ⟨E.F,E.tab++[hd]⟩)++fz E.F::L)):=H2.perm y1n;exact H3.imp λx hx=> .inr ⟨hd,hget,by rw[show x=one w.heap.size O from hx];exact h⟩
def Rel.freeze (R:Rel k L E s w) {n t sz:Nat} {els:List (List D)} (h:s.get n=ap (.own t sz els)):∃E',E.le E'/\E'.tab=E.tab/\Rel k L E' (s.set n (.fro sz els)) w:=by
 have H:Hp k w (rHP E (n,.own t sz els)::fz E.F::((wA n s.rows).map (rHP E)++L)):=(R.focus h).cons y1n;obtain⟨x,hx,hd,hsub,H⟩:=zRo H;rcases hx with⟨e,_⟩|⟨hv,h1,h2⟩
 ·cases e
 simp only[rowHP]at h2;obtain⟨a,c,xs,h3,h4,h5,h6⟩:=h2;have hle:E.le ⟨un x E.F,E.tab⟩:=⟨zZj hd,y5i _⟩
 refine⟨⟨un x E.F,E.tab⟩,hle,rfl,?_⟩;have H1:Hp k w ((wA n s.rows).map (rHP E)++fz (un x E.F)::L):=H.perm y1n.symm;have H2:=jK (λr x=>rHP.mono hle r) H1;have H3:Hp k w (rHP ⟨un x E.F,E.tab⟩ (n,.fro sz els)::((wA n s.rows).map (rHP ⟨un x E.F,E.tab⟩)++fz (un x E.F)::L)):=by
  have:=(@vR k w True _).2 ⟨trivial,H2⟩;refine this.imp λy hy=> .inr ⟨hv,h1,?_⟩
  simp only[rowHP];refine⟨hy.2,?_⟩;simp only[DR];refine⟨a,c,h3,(zJe h6).2,h5,?_⟩;rcases h6 with⟨rfl,q2,rfl,rfl,rfl⟩|⟨b,r,rfl,rfl,q3,q4,q5⟩
  ·exact .inl (y1z q2)
  ·refine .inr ⟨b,0,xs++r,t,(0,0),rfl,?_,DRS_iff.2 ⟨xs,r,rfl,h4.mono hle.1⟩⟩;simp[un,one]
 refine⟨by simpa[St.set]using R.nx,H3.perm ?_⟩;have:=(((wB h).2 (.fro sz els)).map (rHP ⟨un x E.F,E.tab⟩)).append_right (fz (un x E.F)::L);simpa[St.set]using this.symm
def zYt (s:St):V->Option (D×St)
 | .d d=>ap (d,s)
 | .own n=>match s.get n with
   |some (.own _ sz els)=>ap (.ro sz els,s.set n (.fro sz els))
   |some (.fro sz els)=>ap (.ro sz els,s)
   |_=>aq
 |_=>aq
def yEv (s:St):List V->Option (List D×St)
 |[]=>ap ([],s)
 |v::l=>match zYt s v with
  |some (d,s')=>match yEv s' l with
   |some (ds,s2)=>ap (d::ds,s2)
   |none=>aq
  |none=>aq
def zEa (R:Rel k L E s w) {v:V} {d:D} {s':St} (h:zYt s v=ap (d,s')) {y:aa} (hv:VR E v y):∃E',E.le E'/\E'.tab=E.tab/\Rel k L E' s' w/\s'.nx=s.nx/\DR E'.F d y:=by
 unfold zYt at h;split at h<;>first|(cases h;done)|skip
 ·cases h;exact⟨E,Ev.le.refl _,rfl,R,rfl,by simpa only[VR]using hv⟩
 ·rename_i n;simp only[VR]at hv;obtain⟨sub,h1,_⟩:=hv;split at h<;>first|(cases h;done)|skip
  ·rename_i t sz els hg;cases h;obtain⟨E',q1,q2,q3⟩:=R.freeze hg;refine⟨E',q1,q2,q3,rfl,?_⟩;have hg':(s.set n (.fro sz els)).get n=ap (.fro sz els):=by
    simp only[St.get,St.set];have:∀l:List (Nat×AObj),sB n l≠aq->sB n (pW n (.fro sz els) l)=ap (.fro sz els):=by
     intro l
     induction l with
     |nil=>intro h;exact absurd rfl h
     |cons p l ih=>
      obtain⟨m,o⟩:=p;intro h;simp only[sB,pW]at h ⊢;cases hb:bc m n
      ·rw[hb]at h;simp only[sB,hb,cond_false]at h ⊢;exact ih h
      ·simp only[sB,hb,cond_true]
    exact this _ (by simp only[St.get]at hg;rw[hg];simp)
   obtain⟨hd,x,e1,e2,e3⟩:=q3.row hg' (by simp);rw[q2,h1]at e1;cases e1;simp only[rowHP]at e2;exact e2.2
  ·rename_i sz els hg;cases h;obtain⟨hd,x,e1,e2,e3⟩:=R.row hg (by simp);rw[h1]at e1;cases e1;simp only[rowHP]at e2;exact⟨E,Ev.le.refl _,rfl,R,rfl,e2.2⟩
def z2w:∀{vs:List V} {s:St} {E:Ev} (R:Rel k L E s w) {ds:List D} {s':St} (h:yEv s vs=ap (ds,s')) {ys:List aa} (hv:VRL E vs ys),
 ∃E',E.le E'/\E'.tab=E.tab/\Rel k L E' s' w/\s'.nx=s.nx/\DRL E'.F ds ys
 |[],s,E,R,ds,s',h,ys,hv=>by
  simp only[yEv,az,cj]at h;obtain⟨rfl,rfl⟩:=h;simp only[VRL]at hv;exact⟨E,Ev.le.refl _,rfl,R,rfl,by simpa only[DRL]using hv⟩
 |v::vs,s,E,R,ds,s',h,ys,hv=>by
  simp only[yEv]at h;simp only[VRL]at hv;obtain⟨y,ys,rfl,h1,h2⟩:=hv;split at h<;>first|(cases h;done)|skip
  rename_i d s1 hd;split at h<;>first|(cases h;done)|skip
  rename_i ds s2 hds;cases h;obtain⟨E1,q1,q2,q3,q4,q5⟩:=zEa R hd h1;obtain⟨E2,r1,r2,r3,r4,r5⟩:=z2w q3 hds (h2.mono q1);exact⟨E2,q1.trans r1,r2.trans q2,r3,r4.trans q4,by simp only[DRL];exact⟨_,_,rfl,q5.mono r1.1,r5⟩⟩
def z0n:D->Bool
 | .v (.slice aq 0 0)=>ar
 |_=>au
def sN (P:ab):List ac->List D->List D
 |t::ts,d::ds=>(match v7 P t with
  |some sz=>bif z0n d then .ro sz []else d
  |none=>d)::sN P ts ds
 |_,ds=>ds
def zJp {F:PH}:∀{ts:List ac} {ds:List D} {ys:List aa},DRL F ds ys->DRL F (sN P ts ds) ys
 |[],ds,ys,h=>by unfold sN;exact h
 |t::ts,[],ys,h=>by unfold sN;exact h
 |t::ts,d::ds,ys,h=>by
  unfold sN;simp only[DRL]at h ⊢;obtain⟨x,xs,rfl,h1,h2⟩:=h;refine⟨x,xs,rfl,?_,zJp h2⟩;split
  ·cases hb:z0n d
   ·exact h1
   ·unfold z0n at hb;split at hb
    ·simp only[DR]at h1;obtain⟨rfl,_⟩:=h1;simp only[cond_true,DR];exact⟨aq,0,rfl,y1u _,by simp,.inl trivial⟩
    ·cases hb
  ·exact h1
def zOo:∀(ts:List ac) (ds:List D),(sN P ts ds).length=ds.length
 |[],ds=>by unfold sN;rfl
 |t::ts,[]=>by unfold sN;rfl
 |t::ts,d::ds=>by unfold sN;simp[zOo ts ds]
def elD (P:ab) (s:St) (t:ac) (v:V):Option (List D×St):=
 bif sQ v then(match yEv s v.cl with
  |some (ds,s')=>ap (sN P (zCz P 6 t) ds,s')
  |none=>aq)else aq
def bK {α:Type _} {b:Bool} {x:Option α} {v:α} (h:(bif b then x else aq)=ap v):b=ar/\x=ap v:=by
 cases b
 ·cases h
 ·exact⟨rfl,h⟩
def zGo (R:Rel k L E s w) {t:ac} {v:V} {ds:List D} {s':St} (h:elD P s t v=ap (ds,s')) {y:aa} (hv:VR E v y):
 ∃E' ys,E.le E'/\E'.tab=E.tab/\Rel k L E' s' w/\s'.nx=s.nx/\y.cells=ys.toArray/\DRL E'.F ds ys:=by
 unfold elD at h;obtain⟨hb,h⟩:=bK h;split at h<;>first|(cases h;done)|skip
 rename_i ds0 s0 hf;cases h;obtain⟨l,hl,hvl⟩:=VR.cells hb hv;obtain⟨E',q1,q2,q3,q4,q5⟩:=z2w R hf hvl;exact⟨E',l,q1,q2,q3,q4,hl,zJp q5⟩
variable {P:ab} {k:Ko} {L:List HP} {E:Ev} {s:St} {w:af}
def zMi (F:PH) (T:Type) (m:Nat) (unf:T->Nat->AObj) (x:T) (p:aa) (l0:List aa):HP:=λh=>
 ∃tab1:List Hd,tab1[0]? =ap (p,l0)/\tab1.length=m/\hS ((av m).map λj=>λh=>∃hd',tab1[j]? =ap hd'/\rowHP F (unf x j) tab1 hd' h) h
def xG (F:PH) (T:Type) (m:Nat) (unf:T->Nat->AObj) (l:List T) (sub:List aa) (hole:Option Nat) (i:Nat):HP:=λh=>
 if hole=ap i then h=pe else ∃x p l0,l[i]? =ap x/\sub[i]? =ap p/\zMi F T m unf x p l0 h
def yIv (sub:List aa):Prop:=∀p∈sub,∃b oo,p=.pointer (ap ⟨b,oo,aq⟩)
def rowHP_objs {F:PH} {t:Nat} {T:Type} {m:Nat} {unf:T->Nat->AObj} {l:List T} {hole:Option Nat} {tab:List Hd} {hd:Hd} {h:PH}:
 rowHP F (.objs t T m unf l hole) tab hd h↔∃a c,hd.1= .slice a l.length c/\hd.2.length=l.length/\yIv hd.2/\hS2 (slO t 1 a l.length c hd.2) (hS ((av l.length).map (xG F T m unf l hd.2 hole))) h:=by
 simp only[rowHP];constructor
 ·rintro⟨a,c,h1,h2,h3,g,g',h4,h5,h6,h7⟩;refine⟨a,c,h1,h2,h3,g,g',h4,zAh (λi x hx=> ?_) h5,h6,h7⟩;unfold xG;split
  ·rename_i hi;rwa [y1a hi]at hx
  ·rename_i hi;rw[y0y hi]at hx;obtain⟨x,p,l0,tab1,r1,r2,r3,r4,r5⟩:=hx;exact⟨x,p,l0,r1,r2,tab1,r3,r4,r5⟩
 ·rintro⟨a,c,h1,h2,h3,g,g',h4,h5,h6,h7⟩;refine⟨a,c,h1,h2,h3,g,g',h4,zAh (λi x hx=> ?_) h5,h6,h7⟩;unfold xG at hx;split
  ·rename_i hi;rwa [y1a hi]at hx
  ·rename_i hi;rw[y0y hi]at hx;obtain⟨x,p,l0,r1,r2,tab1,r3,r4,r5⟩:=hx;exact⟨x,p,l0,tab1,r1,r2,r3,r4,r5⟩
def zDn (R:Rel k L E s w) {n t:Nat} {T:Type} {m:Nat} {unf:T->Nat->AObj} {l:List T} {hole:Option Nat} (h:s.get n=ap (.objs t T m unf l hole)):
 ∃a c sub,E.tab[n]? =ap (.slice a l.length c,sub)/\sub.length=l.length/\yIv sub/\
  Hp k w (slO t 1 a l.length c sub::((av l.length).map (xG E.F T m unf l sub hole)++((wA n s.rows).map (rHP E)++fz E.F::L))):=by
 obtain⟨hk,hs,hh⟩:=R.focus h;cases hh with
 |cons ha hsub hd hr=>
  rcases ha with⟨e,_⟩|⟨⟨hv,sub⟩,h1,h2⟩
  ·cases e
  ·obtain⟨a,c,rfl,q2,q3,q4⟩:=rowHP_objs.1 h2;refine⟨a,c,sub,h1,q2,q3,?_⟩;have H:Hp k w (hS2 (slO t 1 a l.length c sub) (hS ((av l.length).map (xG E.F T m unf l sub hole)))::((wA n s.rows).map (rHP E)++fz E.F::L)):=⟨hk,_,.cons q4 hsub hd hr⟩
   have H1:=hp_star2.1 H;have H2:=hp_star.1 H1.swap;exact H2.perm y1n
def zKi {n t:Nat} {T:Type} {m:Nat} {unf:T->Nat->AObj} {l:List T} {hole:Option Nat} {a:Option am} {c:Nat} {sub:List aa} {M:List HP}
 (ht:E.tab[n]? =ap (.slice a l.length c,sub)) (hl:sub.length=l.length) (hp:yIv sub)
 (H:Hp k w (slO t 1 a l.length c sub::((av l.length).map (xG E.F T m unf l sub hole)++M))):Hp k w (rHP E (n,.objs t T m unf l hole)::M):=by
 have H1:Hp k w ((av l.length).map (xG E.F T m unf l sub hole)++slO t 1 a l.length c sub::M):=H.perm y1n.symm;have H2:=(hp_star.2 H1).swap;exact(hp_star2.2 H2).imp λx hx=> .inr ⟨_,ht,rowHP_objs.2 ⟨a,c,rfl,hl,hp,hx⟩⟩
def zHe {n i:Nat} (h:i<n):∃B,av n=av i++i::B/\∀j∈B,j≠i:=by
 refine⟨(av (n-i-1)).map (λj=>i+1+j),?_,λj hj=> ?_⟩
 ·have:n=i+(1+(n-i-1)):=by omega
  conv=>lhs;rw[this]
  rw[List.range_add,List.range_add,y1i];simp[Function.comp_def,y4m]
 ·obtain⟨q,_,rfl⟩:=y2m.1 hj;omega
def yCq (H:Hp k w L):Hp k w ((λh=>h=pe)::L):=((@vR k w True L).2 ⟨trivial,H⟩).imp λx hx=>hx.2
def yOe (H:Hp k w ((λh=>h=pe)::L)):Hp k w L:=((@vR k w True L).1 (H.imp λx hx=>⟨trivial,hx⟩)).2
def yAe {F:PH} {T:Type} {m:Nat} {unf:T->Nat->AObj} {l:List T} {sub:List aa} {M:List HP} {i:Nat} {x:T} {p:aa} (hx:l[i]? =ap x) (hp:sub[i]? =ap p)
 (H:Hp k w ((av l.length).map (xG F T m unf l sub aq)++M)):∃l0,Hp k w (zMi F T m unf x p l0::((av l.length).map (xG F T m unf l sub (ap i))++M)):=by
 have hi:i<l.length:=(y1c.1 hx).1;obtain⟨B,hB,hne⟩:=zHe hi;have e1:∀j,j≠i->xG F T m unf l sub aq j=xG F T m unf l sub (ap i) j:=λj hj=>by
  funext h;unfold xG;rw[y0y (by simp),y0y (by simp only[az];omega)]
 have e2:xG F T m unf l sub (ap i) i=λh=>h=pe:=by funext h;unfold xG;rw[y1a rfl]
 have ea:(av i).map (xG F T m unf l sub (ap i))=(av i).map (xG F T m unf l sub aq):=y2g λj hj=>(e1 j (by have:=y4f.1 hj;omega)).symm
 have eb:B.map (xG F T m unf l sub (ap i))=B.map (xG F T m unf l sub aq):=y2g λj hj=>(e1 j (hne j hj)).symm
 rw[hB,y1i,y1m]at H ⊢;rw[ea,eb,e2];have H1:Hp k w (xG F T m unf l sub aq i::((av i).map (xG F T m unf l sub aq)++(B.map (xG F T m unf l sub aq)++M))):=by
  rw[y1e]at H;exact H.perm y1n
 obtain⟨l0,H2⟩:∃l0,Hp k w (zMi F T m unf x p l0::((av i).map (xG F T m unf l sub aq)++(B.map (xG F T m unf l sub aq)++M))):=by
  obtain⟨hk,hs,hh⟩:=H1;cases hh with
  |cons ha hsub hd hr=>
   unfold xG at ha;rw[y0y (by simp)]at ha;obtain⟨x',p',l0,r1,r2,r3⟩:=ha;rw[hx]at r1;rw[hp]at r2;cases r1;cases r2;exact⟨l0,hk,_,.cons r3 hsub hd hr⟩
 have H3:=yCq H2;rw[y1e];refine⟨l0,H3.swap.cons ?_⟩;exact y1n.symm
def yHp {F:PH} {T:Type} {m:Nat} {unf:T->Nat->AObj} {l:List T} {sub:List aa} {M:List HP} {i:Nat} {x:T} {p:aa} {l0:List aa} (hi:i<l.length) (hp:sub[i]? =ap p)
 (H:Hp k w (zMi F T m unf x p l0::((av l.length).map (xG F T m unf l sub (ap i))++M))):Hp k w ((av l.length).map (xG F T m unf (l.set i x) sub aq)++M):=by
 obtain⟨B,hB,hne⟩:=zHe hi;have e1:∀j,j≠i->xG F T m unf (l.set i x) sub aq j=xG F T m unf l sub (ap i) j:=λj hj=>by
  funext h;unfold xG;rw[y0y (by simp),y0y (by simp only[az];omega),List.getElem?_set_ne (by omega)]
 have e2:xG F T m unf l sub (ap i) i=λh=>h=pe:=by funext h;unfold xG;rw[y1a rfl]
 have ea:(av i).map (xG F T m unf (l.set i x) sub aq)=(av i).map (xG F T m unf l sub (ap i)):=y2g λj hj=>e1 j (by have:=y4f.1 hj;omega)
 have eb:B.map (xG F T m unf (l.set i x) sub aq)=B.map (xG F T m unf l sub (ap i)):=y2g λj hj=>e1 j (hne j hj)
 rw[hB,y1i,y1m,y1e]at H ⊢;rw[e2]at H;rw[ea,eb];have H1:Hp k w ((λh=>h=pe)::zMi F T m unf x p l0::((av i).map (xG F T m unf l sub (ap i))++(B.map (xG F T m unf l sub (ap i))++M))):=
  H.perm ((ce _ y1n).trans (.swap _ _ _))
 have H2:=yOe H1;have H3:Hp k w (xG F T m unf (l.set i x) sub aq i::((av i).map (xG F T m unf l sub (ap i))++(B.map (xG F T m unf l sub (ap i))++M))):=H2.imp λh hh=>by
  unfold xG;rw[y0y (by simp)];exact⟨x,p,l0,by rw[List.getElem?_set_self hi],hp,hh⟩
 exact H3.perm y1n.symm
def yFj {F:PH} {T:Type} {m:Nat} {unf:T->Nat->AObj} {l l2:List T} {sub sub2:List aa} (hl:sub.length=l.length) {M:List HP}
 (H:Hp k w ((av l.length).map (xG F T m unf l sub aq)++((av l2.length).map (xG F T m unf l2 sub2 aq)++M))):
 Hp k w ((av (l++l2).length).map (xG F T m unf (l++l2) (sub++sub2) aq)++M):=by
 rw[y0x,List.range_add,y1i,y3j,y1e];have ea:(av l.length).map (xG F T m unf (l++l2) (sub++sub2) aq)=(av l.length).map (xG F T m unf l sub aq):=y2g λj hj=>by
  have hj:=y4f.1 hj;funext h;unfold xG;rw[y0y (by simp),y0y (by simp),y3r hj,y3r (by omega)]
 have eb:(av l2.length).map ((xG F T m unf (l++l2) (sub++sub2) aq)∘(l.length+·))=(av l2.length).map (xG F T m unf l2 sub2 aq):=y2g λj hj=>by
  funext h;simp only[Function.comp];unfold xG;rw[y0y (by simp),y0y (by simp),y3c (by omega),y3c (by omega)];rw[show l.length+j-l.length=j by omega,show l.length+j-sub.length=j by omega]
 rw[ea,eb];exact H
def zIb {n:Nat} {T:Type} {m:Nat} {unf:T->Nat->AObj} {x:T} {p:aa} {l0:List aa} (ht:E.tab[n]? =ap (p,l0)) {h:PH} (H:rHP E (n,.adt T m unf x) h):zMi E.F T m unf x p l0 h:=by
 rcases H with⟨e,_⟩|⟨hd,h1,h2⟩
 ·cases e
 ·rw[ht]at h1;cases h1;simp only[rowHP]at h2;exact h2
def zVy {n:Nat} {T:Type} {m:Nat} {unf:T->Nat->AObj} {x:T} {p:aa} {l0:List aa} (ht:E.tab[n]? =ap (p,l0)) {h:PH} (H:zMi E.F T m unf x p l0 h):rHP E (n,.adt T m unf x) h:=
 .inr ⟨_,ht,by simp only[rowHP];exact H⟩
def Rel.out {A:HP} {E:Ev} {s:St} (R:Rel k (A::L) E s w):Hp k w (A::(s.rows.map (rHP E)++fz E.F::L)):=by
 refine R.hp.perm ?_;have:(fz E.F::A::L).Perm (A::fz E.F::L):= .swap _ _ _;exact(this.append_left _).trans y1n
def Rel.inn {A:HP} {E:Ev} {s:St} (hn:E.tab.length=s.nx) (H:Hp k w (A::(s.rows.map (rHP E)++fz E.F::L))):Rel k (A::L) E s w:=by
 refine⟨hn,H.perm ?_⟩;have:(fz E.F::A::L).Perm (A::fz E.F::L):= .swap _ _ _;exact((this.append_left _).trans y1n).symm
def Rel.impL {A B:HP} {E:Ev} {s:St} (R:Rel k (A::L) E s w) (h:∀x,A x->B x):Rel k (B::L) E s w:=Rel.inn R.nx (R.out.imp h)
def Rel.take {E:Ev} {s:St} (R:Rel k L E s w) {n:Nat} {o:AObj} (h:s.get n=ap o):Rel k (rHP E (n,o)::L) E (s.del n) w:=Rel.inn R.nx (R.focus h)
def Rel.takeF {E:Ev} {s:St} (R:Rel k L E s w) {n:Nat} {o:AObj} (h:s.get n=ap o):Rel k (rHP E (n,o)::L) E (s.delF n o) w:=by
 cases o with
 |fro sz els=>
  obtain⟨hd,x,h1,h2,h3⟩:=R.row h (by simp);refine⟨R.nx,?_⟩;have H:Hp k w ((λh=>h=pe)::(s.rows.map (rHP E)++fz E.F::L)):=yCq R.hp;simp only[rowHP]at h2;have H1:Hp k w (rHP E (n,.fro sz els)::(s.rows.map (rHP E)++fz E.F::L)):=H.imp λy hy=> .inr ⟨hd,h1,by simp only[rowHP];exact⟨hy,h2.2⟩⟩
  refine H1.perm ?_;have:(rHP E (n,.fro sz els)::fz E.F::L).Perm (fz E.F::rHP E (n,.fro sz els)::L):= .swap _ _ _;exact y1n.symm.trans (this.append_left _)
 |_=>exact R.take h
def Rel.takeOut (R:Rel k L E s w) {n t i:Nat} {T:Type} {m:Nat} {unf:T->Nat->AObj} {l:List T} (h:s.get n=ap (.objs t T m unf l aq)) {x:T} (hx:l[i]? =ap x) {y:aa} (hv:VR E (.sub n i) y):
 ∃E1,E.le E1/\Rel k L E1 ((s.set n (.objs t T m unf l (ap i))).new (.adt T m unf x)) w/\VR E1 (.nm s.nx 0) y/\∃l0,E1.tab[s.nx]? =ap (y,l0):=by
 obtain⟨a,c,sub,h1,h2,h3,H⟩:=zDn R h;simp only[VR]at hv;obtain⟨hd,l',b,oo,e1,e2,e3⟩:=hv;rw[h1]at e1;cases e1;obtain⟨l0,H1⟩:=yAe hx e2 (H.perm y1n.symm);have H2:Hp k w (slO t 1 a l.length c sub::((av l.length).map (xG E.F T m unf l sub (ap i))++(zMi E.F T m unf x y l0::((wA n s.rows).map (rHP E)++fz E.F::L)))):=
  H1.perm ((y1n.symm.trans (cf _ (.swap _ _ _))).trans y1n)
 have H3:=(zKi h1 h2 h3 H2).swap;have H4:Hp k w (zMi E.F T m unf x y l0::((pW n (.objs t T m unf l (ap i)) s.rows).map (rHP E)++fz E.F::L)):=by
  refine H3.cons ?_;have:=(((wB h).2 (.objs t T m unf l (ap i))).map (rHP E)).append_right (fz E.F::L);simpa using this.symm
 have H5:Hp k w ((pW n (.objs t T m unf l (ap i)) s.rows).map (rHP E)++(zMi E.F T m unf x y l0::fz E.F::L)):=H4.perm y1n.symm;have hle:E.le ⟨E.F,E.tab++[(y,l0)]⟩:=⟨FLe.refl _,y4w _ _⟩
 have hget:(E.tab++[((y,l0):Hd)])[s.nx]? =ap (y,l0):=by rw[<- R.nx];simp
 have H6:=jK (λr x=>rHP.mono hle r) H5;have H7:Hp k w (zMi E.F T m unf x y l0::((pW n (.objs t T m unf l (ap i)) s.rows).map (rHP ⟨E.F,E.tab++[(y,l0)]⟩)++fz E.F::L)):=H6.perm y1n;refine⟨⟨E.F,E.tab++[(y,l0)]⟩,hle,⟨by simp[St.new,St.set,R.nx],?_⟩,by simp only[VR];exact⟨b,oo,l0,by rw[hget,e3],e3⟩,l0,hget⟩;exact H7.imp λz hz=>zVy (E:=⟨E.F,E.tab++[(y,l0)]⟩) hget hz
def Rel.putBack (R:Rel k L E s w) {n t i z:Nat} {T:Type} {m:Nat} {unf:T->Nat->AObj} {l:List T} {x:T} (ha:s.get z=ap (.adt T m unf x)) (h:(s.del z).get n=ap (.objs t T m unf l (ap i))) (hi:i<l.length)
 {y:aa} {l0:List aa} (hz:E.tab[z]? =ap (y,l0)) (hs:∀v sub,E.tab[n]? =ap (v,sub)->sub[i]? =ap y):Rel k L E ((s.del z).set n (.objs t T m unf (l.set i x) aq)) w:=by
 have R1:=R.take ha;obtain⟨a,c,sub,h1,h2,h3,H⟩:=zDn R1 h;have hp:=hs _ _ h1;have H1:Hp k w (rHP E (z,.adt T m unf x)::((av l.length).map (xG E.F T m unf l sub (ap i))++(slO t 1 a l.length c sub::((wA n (s.del z).rows).map (rHP E)++fz E.F::L)))):=by
  refine H.perm ?_;have p1:((wA n (s.del z).rows).map (rHP E)++fz E.F::rHP E (z,.adt T m unf x)::L).Perm (rHP E (z,.adt T m unf x)::((wA n (s.del z).rows).map (rHP E)++fz E.F::L)):=
   (cf _ (.swap _ _ _)).trans y1n
  refine(ce _ ((cf _ p1).trans y1n)).trans ((ci _ _ _).trans (ce _ y1n.symm))
 have H2:=yHp hi hp (H1.imp λq hq=>zIb hz hq);have H3:Hp k w (rHP E (n,.objs t T m unf (l.set i x) aq)::((wA n (s.del z).rows).map (rHP E)++fz E.F::L)):=by
  refine zKi (a:=a) (c:=c) (sub:=sub) (by rw[y2d];exact h1) (by rw[y2d];exact h2) h3 ?_;rw[y2d];exact H2.perm y1n
 refine⟨by simpa[St.set,St.del]using R1.nx,H3.perm ?_⟩;have:=(((wB h).2 (.objs t T m unf (l.set i x) aq)).map (rHP E)).append_right (fz E.F::L);simpa[St.set]using this.symm
def zFs {rows:List (Nat×AObj)} {nx t:Nat} {T:Type} {m:Nat} {unf:T->Nat->AObj} {l:List T} {a:Option am} {c:Nat} {sub:List aa} (hn:E.tab.length=nx) (hl:sub.length=l.length) (hp:yIv sub)
 (H:Hp k w (slO t 1 a l.length c sub::((av l.length).map (xG E.F T m unf l sub aq)++(rows.map (rHP E)++fz E.F::L)))):
 ∃E',E.le E'/\Rel k L E' ⟨(nx,.objs t T m unf l aq)::rows,nx+1⟩ w/\VR E' (.own nx) (.slice a l.length c):=by
 have hle:E.le ⟨E.F,E.tab++[(.slice a l.length c,sub)]⟩:=⟨FLe.refl _,y4w _ _⟩
 have hget:(E.tab++[((.slice a l.length c,sub):Hd)])[nx]? =ap (.slice a l.length c,sub):=by rw[<- hn];simp
 refine⟨⟨E.F,E.tab++[(.slice a l.length c,sub)]⟩,hle,⟨by simp[hn],?_⟩,by simp only[VR];exact⟨sub,hget,_,_,_,rfl⟩⟩;have H0:Hp k w (rows.map (rHP E)++(slO t 1 a l.length c sub::((av l.length).map (xG E.F T m unf l sub aq)++fz E.F::L))):=by
  refine H.perm ?_;refine(ce _ ?_).trans y1n.symm;rw[<- y1e,<- y1e];exact cg _ y3d
 have H1:=jK (λr x=>rHP.mono hle r) H0;have H2:Hp k w (slO t 1 a l.length c sub::((av l.length).map (xG E.F T m unf l sub aq)++(rows.map (rHP ⟨E.F,E.tab++[(.slice a l.length c,sub)]⟩)++fz E.F::L))):=by
  refine H1.perm (y1n.trans (ce _ ?_));rw[<- y1e,<- y1e];exact cg _ y3d
 exact zKi (E:=⟨E.F,E.tab++[(.slice a l.length c,sub)]⟩) hget hl hp H2
def Outc (k:Ko) (L:List HP) (E:Ev) (K:V->St->Prop) (y:aa) (w':af):Prop:=∃E' v s',E.le E'/\Rel k L E' s' w'/\VR E' v y/\K v s'
@[reducible] def Hnd:=FuncId->List V->St->(V->St->Prop)->Prop
def HOk (P:ab) (H:Hnd):Prop:=∀f args s K,H f args s K->∀(k:Ko) (L:List HP) (E:Ev) (w:af) (ys:List aa),Rel k L E s w->VRL E args ys->Does P (callFunc f ys.toArray) w (Outc k L E K)
structure SlI where
 e:ac
 sz:Nat
 by_:Nat
 z:List D
def aQ (P:ab) (t:ac):Option SlI:=
 match wS P t with
 |some (e,sz,by_,z)=>bif bc z.size sz && z.toList.all (·.oneC)then ap ⟨e,sz,by_,sN P (zCz P 6 e) (z.toList.map .v)⟩else aq
 |none=>aq
def yAu {F:PH}:∀{l:List aa},(l.all (·.oneC))=ar->DRL F (l.map .v) l
 |[],_=>by simp[DRL]
 |y::l,h=>by
  simp only[List.all_cons,y1l]at h;simp only[y1m,DRL,DR];exact⟨y,l,rfl,⟨rfl,h.1⟩,yAu h.2⟩
def gR {P:ab} {t:ac} {i:SlI} (h:aQ P t=ap i):∃z,wS P t=ap (i.e,i.sz,i.by_,z)/\z.size=i.sz/\i.z.length=i.sz/\∀F,DRL F i.z z.toList:=by
 unfold aQ at h;split at h<;>first|(cases h;done)|skip
 rename_i e sz by_ z hz;obtain⟨hb,h⟩:=bK h;cases h;simp only[y1l]at hb;have h1:=y1b hb.1;exact⟨z,hz,h1,by rw[zOo,y0z,y4t,h1],λF=>zJp (yAu hb.2)⟩
def z9l {α:Type} (l:List α) (o:Nat) (vs:List α):List α:=l.take o++(vs++l.drop (o+vs.length))
def zVr {α:Type} {sz:Nat}:∀{els:List (List α)} (i:Nat) (ds:List α),(∀el∈els,el.length=sz)->i<els.length->ds.length=sz->
 (els.set i ds).flatten=z9l els.flatten (i*sz) ds
 |[],i,ds,_,h,_=>by simp at h
 |el::els,0,ds,hu,h,hd=>by
  simp only[y6o,y3o,z9l,Nat.zero_mul,y5w,y3k,y1x];rw[hd,<- hu el y1f,List.drop_left]
 |el::els,i+1,ds,hu,h,hd=>by
  have ih:=zVr (els:=els) i ds (λe he=>hu e (y1g _ he)) (by simpa using h) hd;simp only[y6p,y3o,z9l]at ih ⊢;rw[ih];have e1:=hu el y1f;rw[y4c,bg (i*sz) sz,List.take_append,y5v,e1];rw[y1k (show el.length<=sz+i*sz by omega),show sz+i*sz-sz=i*sz by omega,y4j (show el.length<=sz+i*sz+ds.length by omega),show sz+i*sz+ds.length-sz=i*sz+ds.length by omega];simp
def zDh {F:PH} {ds es:List D} {l m:List aa} (h1:DRL F ds l) (h2:DRL F es m) (o:Nat):DRL F (ds.take o++(es++ds.drop (o+es.length))) (spl l o m):=by
 unfold spl;rw[y1e];have:=h2.length;rw[this];exact(h1.take o).append (h2.append (h1.drop _))
def zXn (P:ab) (e sz:Nat):St->List (Nat×V)->List (List D)->Option (List (List D)×St)
 |s,[],els=>ap (els,s)
 |s,(i,v)::ps,els=>match elD P s e v with
  |some (ds,s')=>bif bc ds.length sz && bo i els.length then zXn P e sz s' ps (els.set i ds)else aq
  |none=>aq
def yHy {α:Type} {sz:Nat} {els:List (List α)} {i:Nat} {ds:List α} (hu:∀el∈els,el.length=sz) (hd:ds.length=sz):∀el∈els.set i ds,el.length=sz:=by
 intro el hel;rcases List.mem_or_eq_of_mem_set hel with h|rfl
 ·exact hu el h
 ·exact hd
def zWw {P:ab} {k:Ko} {L:List HP} {w:af} {e sz:Nat}:∀{ps:List (Nat×V)} {E:Ev} {s:St} (R:Rel k L E s w) {els els':List (List D)} {s':St} {qs:List (Nat×aa)} {cs:List aa},
 zXn P e sz s ps els=ap (els',s')->PRL E ps qs->(∀el∈els,el.length=sz)->DRL E.F els.flatten cs->
 ∃E' cs',E.le E'/\E'.tab=E.tab/\Rel k L E' s' w/\s'.nx=s.nx/\(∀el∈els',el.length=sz)/\els'.length=els.length/\DRL E'.F els'.flatten cs'/\Instr.fill (λi=>ap (i*sz,sz)) cs.toArray qs=ap cs'.toArray
 |[],E,s,R,els,els',s',qs,cs,h,hp,hu,hc=>by
  simp only[zXn,az,cj]at h;obtain⟨rfl,rfl⟩:=h;simp only[PRL]at hp;subst hp;exact⟨E,cs,Ev.le.refl _,rfl,R,rfl,hu,rfl,hc,rfl⟩
 |(i,v)::ps,E,s,R,els,els',s',qs,cs,h,hp,hu,hc=>by
  simp only[zXn]at h;simp only[PRL]at hp;obtain⟨y,qs,rfl,hv,hp⟩:=hp;split at h<;>first|(cases h;done)|skip
  rename_i ds s1 hd;obtain⟨hb,h⟩:=bK h;simp only[y1l]at hb;have hlen:=y1b hb.1;have hi:i<els.length:=by simpa[y4a]using hb.2
  obtain⟨E1,ys,q1,q2,q3,q4,q5,q6⟩:=zGo R hd hv;have hp1:PRL E1 ps qs:=by
   have:∀{ps:List (Nat×V)} {qs:List (Nat×aa)},PRL E ps qs->PRL E1 ps qs:=by
    intro ps
    induction ps with
    |nil=>intro qs h;exact h
    |cons p ps ih=>obtain⟨i,v⟩:=p;intro qs h;obtain⟨y,ys,h1,h2,h3⟩:=h;exact⟨y,ys,h1,h2.mono q1,ih h3⟩
   exact this hp
  have hc1:DRL E1.F (els.set i ds).flatten (spl cs (i*sz) ys):=by
   rw[zVr i ds hu hi hlen];exact zDh (hc.mono q1.1) q6 (i*sz)
  obtain⟨E2,cs',r1,r2,r3,r4,r5,r6,r7,r8⟩:=zWw q3 h hp1 (yHy hu hlen) hc1;refine⟨E2,cs',q1.trans r1,r2.trans q2,r3,r4.trans q4,r5,by rw[r6,y2d],r7,?_⟩;have hyl:ys.length=sz:=by rw[q6.length,hlen]
  have hcl:cs.length=els.length*sz:=by rw[hc.length,kT hu]
  have hin:i*sz+sz<=els.length*sz:=by
   have:=y2k sz (show i+1<=els.length by omega);rwa [y4c]at this
  have hysz:y.cells.size=sz:=by rw[q5,y5b,hyl]
  have hbb:(decide (y.cells.size≠sz)||decide (i*sz+y.cells.size>cs.toArray.size))=au:=by
   rw[hysz,y5b];simp;omega
  have hfold:y.cells.zipIdx.foldl (λ(cs:Array aa) (p:aa×Nat)=>cs.setIfInBounds (i*sz+p.2) p.1) cs.toArray=(spl cs (i*sz) ys).toArray:=by
   have hz:ys.toArray.zipIdx=(ys.zipIdx).toArray:=by
    apply co;simp
   rw[q5,hz,List.foldl_toArray];rw[zKl (off:=i*sz) ys 0 cs (by omega)];rfl
  simp only[Instr.fill];rw[y0y (by rw[hbb];simp),hfold];exact r8
def rA {z:List aa}:∀n,(lY z.toArray (n*z.length)).toList=(aw n z).flatten
 |0=>by simp[lY]
 |n+1=>by
  have ih:=rA (z:=z) n;simp only[lY,y5b]at ih ⊢;rw[y5e,y3o,<- ih,y4c,bg,List.range_add,y1i];congr 1
  ·apply y5c;intro i;rw[y2n];by_cases hi:i<z.length
   ·rw[y5f hi];simp only[y3b,Nat.mod_eq_of_lt hi];rw[y1h];rw[y2h hi];rfl
   ·rw[y2i (by simpa using Nat.not_lt.1 hi),y2i (Nat.not_lt.1 hi)];rfl
  ·rw[y3j];refine y2g λj _=> ?_
   simp only[Function.comp,Nat.add_mod_left]
def zSf {F:PH} {ds:List D} {l:List aa} (h:DRL F ds l):∀n,DRL F (aw n ds).flatten (aw n l).flatten
 |0=>by simp[DRL]
 |n+1=>by simp only[y5e,y3o];exact h.append (zSf h n)
def zDo {α:Type} {ds:List α} {n sz:Nat} (h:ds.length=sz):∀el∈aw n ds,el.length=sz:=by
 intro el hel;rw[(List.mem_replicate.1 hel).2];exact h
def zW (els:List (List D)) (i f:Nat) (ds:List D):List (List D):=els.modify i λel=>el.take f++(ds++el.drop (f+ds.length))
def yJo:V->Bool
 | .top=>au
 | .agg _=>au
 | .tup _=>au
 |_=>ar
def zVx:List V->Bool
 |[]=>ar
 |v::l=>bif yJo v then zVx l else au
def zUr {E:Ev}:∀{vs:List V} {l:List aa},zVx vs=ar->VRL E vs l->∀y∈l,y.oneC=ar
 |[],l,_,h=>by simp only[VRL]at h;subst h;simp
 |v::vs,l,hb,h=>by
  simp only[VRL]at h;obtain⟨x,xs,rfl,h1,h2⟩:=h;simp only[zVx]at hb;obtain⟨hb1,hb2⟩:yJo v=ar/\zVx vs=ar:=by
   revert hb;generalize yJo v=b;cases b<;>simp
  intro y hy;rcases y1r.1 hy with rfl|hy
  ·cases v<;>simp only[yJo,y1p]at hb1<;>simp only[VR]at h1
   ·rename_i d;exact DRL.one (F:=E.F) (vs:=[d]) (l:=[y]) (by simp only[DRL];exact⟨_,_,rfl,h1,rfl⟩) y (by simp)
   ·obtain⟨_,_,_,_,rfl⟩:=h1;rfl
   ·obtain⟨_,_,_,_,_,_,rfl⟩:=h1;rfl
   ·obtain⟨_,_,_,_,_,_,_,rfl,_⟩:=h1;rfl
   ·obtain⟨_,_,_,_,rfl⟩:=h1;rfl
   ·obtain⟨_,_,_,_,_,rfl⟩:=h1;rfl
   ·obtain⟨_,_,_,rfl⟩:=h1;rfl
   ·obtain⟨_,_,_,_,_,_,rfl⟩:=h1;rfl
   ·obtain⟨_,_,rfl,_⟩:=h1;rfl
   ·obtain⟨_,rfl,_⟩:=h1;rfl
  ·exact zUr hb2 h2 y hy
def zUa (s:St) (sz:Nat):V->Option (List (List D))
 | .d (.v (.slice aq 0 0))=>ap []
 | .d (.v (.string b))=>bif bc sz 1 then ap (qF b)else aq
 |v=>match n5 s v with
  |some (sz',els)=>bif bc sz sz' then ap els else aq
  |none=>aq
def zSh (P:ab) (t1 t2:ac) (s:St) (x y:V) (K:V->St->Prop):Prop:=
 optK (aQ P t1) λi=>bif zZt P t2 && bo 0 i.by_ then optK (zUa s i.sz y) λys=>
  match x with
  | .d (.v (.slice aq 0 0))=>ys.length*i.by_<=140737488355328/\K (.own s.nx) (s.new (.own i.e i.sz ys))
  | .own n=>match s.get n with
    |some (.own T sz els)=>bif bc T i.e && bc sz i.sz then(els.length+ys.length)*i.by_<=140737488355328/\K (.own s.nx) ((s.del n).new (.own i.e i.sz (els++ys)))else False
    |_=>False
  |_=>False else False
def yLn:V->Bool
 | .agg l=> !(bc l.length 1)
 | .d _=>ar
 |_=>au
def zPc:List V->St->(List V->St->Prop)->Prop
 |[],s,K=>K [] s
 |v::l,s,K=>match v with
  | .d (.ro sz els)=>zPc l (s.new (.fro sz els)) λl' s'=>K (.own s.nx::l') s'
  |v=>zPc l s λl' s'=>K (v::l') s'
def zMz (P:ab) (t1 t2:ac) (s:St) (x y:V) (K:V->St->Prop):Prop:=
 match y with
 | .own n2=>(match s.get n2 with
   |some (.objs _ T2 m2 unf2 l2 aq)=>optK (aQ P t1) λi=>bif zZt P t2 && bo 0 i.by_ && bc i.sz 1 then(match x with
    | .d (.v (.slice aq 0 0))=>l2.length*i.by_<=140737488355328/\K (.own s.nx) ((s.del n2).new (.objs i.e T2 m2 unf2 l2 aq))
    | .own n=>(match(s.del n2).get n with
      |some (.objs t1' T1 m1 unf1 l1 aq)=>∃l1':List T2,AObj.objs t1' T1 m1 unf1 l1 aq=AObj.objs i.e T2 m2 unf2 l1' aq/\(l1'.length+l2.length)*i.by_<=140737488355328/\K (.own s.nx) (((s.del n2).del n).new (.objs i.e T2 m2 unf2 (l1'++l2) aq))
      |_=>False)
    |_=>False)else False
   |_=>False)
 |_=>False
def yAl (s:St):V->Bool
 | .own n=>match zBo s n with
   |some _=>ar
   |none=>au
 |_=>au
def yNi (n i a:Nat) (v:V) (s:St) (K:V->St->Prop):Prop:=
 match s.get a with
 |some o=>(match(s.del a).get n with
  |some (.objs t T m unf l (ap j))=>∃x:T,o=.adt T m unf x/\j=i/\i<l.length/\K v ((s.del a).set n (.objs t T m unf (l.set i x) aq))
  |_=>False)
 |none=>False
def yCm (H:Hnd) (f:FuncId) (args:List V) (s:St) (K:V->St->Prop):Prop:=
 match args with
 | .sub n i::rest=>(match s.get n with
   |some (.objs t T m unf l aq)=>∃x:T,l[i]?=ap x/\H f (.nm s.nx 0::rest) ((s.set n (.objs t T m unf l (ap i))).new (.adt T m unf x)) λv s'=>yNi n i s.nx v s' K
   |_=>False)
 |args=>H f args s K
def yLu (P:ab) (t:ac):Option ac:=
 match P.underlying t with
 |some (.slice e)=>(match P.underlying e with
  |some (.int .u8)=>ap e
  |_=>aq)
 |_=>aq
def zPw {P:ab} {t e:ac} (h:yLu P t=ap e):P.underlying t=ap (.slice e)/\P.underlying e=ap (.int .u8):=by
 unfold yLu at h;split at h<;>first|(cases h;done)|skip
 rename_i e' he;split at h<;>first|(cases h;done)|skip
 rename_i hu;cases h;exact⟨he,hu⟩
def zSq:List (Nat×V)->Option Nat
 |[(0,.nm m 0)]=>ap m
 |_=>aq
def zNf (P:ab) (t:ac) (x:HolI) (n sz i f:Nat) (v:V) (s:St) (K:V->St->Prop):Prop:=
 bif bc sz x.sz then(match v,v7 P t with
  | .own c,ap _=>(match s.get c with
    |some (.own _ _ _)=>optK (aP P t) λm=>bif bc m 1 && !(bc n c)then(i<x.els.length/\f<sz)/\(match x.q with
     |true=>(i=x.i/\f=x.f)/\K (.tup []) (s.set n (.hol ar x.T sz x.els x.i x.f ar (ap c)))
     |false=>(i=x.i->f=x.f->K (.tup []) (s.set n (.hol au x.T sz x.els x.i x.f ar (ap c))))/\(x.f<sz/\(¬(i=x.i/\f=x.f)->match elD P s t (.own c)with
      |some (ds,s')=>(match aL s' n with
       |some y=>bif bc ds.length 1 then y=x/\K (.tup []) (s'.set n (.hol x.q x.T sz (zW x.els i f ds) x.i x.f x.b x.m))else False
       |none=>False)
      |none=>False)))else False
    |_=>False)
  |v,_=>(match elD P s t v with
   |some (ds,s')=>(match aL s' n with
    |some y=>optK (aP P t) λm=>bif bc ds.length m then(y=x/\i<x.els.length/\f+m<=sz/\x.clear i f m)/\K (.tup []) (s'.set n (.hol x.q x.T sz (zW x.els i f ds) x.i x.f x.b x.m))else False
    |none=>False)
   |none=>False))else False
def se (P:ab) (H:Hnd) (o:ak) (ρ:yZ) (s:St) (K:V->St->Prop):Prop:=
 match o.op with
 | .alloc e=>optK (aX P e) λz=>bif sQ (toV z)then K (.nm s.nx 0) (s.new (.cells (toV z).cl e))else False
 | .box e x=>bif sQ (sev ρ x)then zPc (sev ρ x).cl s λvs s=>K (.nm s.nx 0) (s.new (.cells vs e))else False
 | .buildSlice t len ps=>match zSq (zAr ρ ps.toList)with
   |some m=>(match s.get m with
    |some (.adt T mm unf x)=>optK (aQ P t) λi=>bif bc i.sz 1 && bc len 1 then K (.own s.nx) ((s.del m).new (.objs i.e T mm unf [x] aq))else False
    |_=>False)
   |none=>optK (aQ P t) λi=>bif be (len*i.sz) 16777216 then match zXn P i.e i.sz s (zAr ρ ps.toList) (aw len i.z)with
   |some (els,s')=>K (.own s'.nx) (s'.new (.own i.e i.sz els))
   |none=>False else False
 | .makeMap _ aq=>K (.mp s.nx) (s.new (.map []))
 | .makeSlice t l c=>match sev ρ l,sev ρ c with
   | .d (.v (.int _ l)),.d (.v (.int _ c))=>optK (aQ P t) λi=>(0<=l/\l<=c/\c<=9223372036854775807/\(i.by_:Int)*c<=2 ^ 48)/\K (.own s.nx) (s.new (.own i.e i.sz (aw l.toNat i.z)))
   |_,_=>False
 | .store t x v=>match sev ρ x with
   | .nm n off=>bif sQ (sev ρ v)then zPc (sev ρ v).cl s λus s=>match s.get n with
     |some (.cells vs T)=>optK (aP P t) λm=>bif bc us.length m && be (off+m) vs.length && zVx us then
       K (.tup []) (s.set n (.cells (vs.take off++(us++vs.drop (off+m))) T))else False
     |_=>False
     else False
   | .el n sz i f=>match aL s n with
     |some x=>zNf P t x n sz i f (sev ρ v) s K
     |none=>match elD P s t (sev ρ v)with
     |some (ds,s')=>match s'.get n with
      |some (.own T sz' els)=>optK (aP P t) λm=>bif bc sz sz' && bc ds.length m && be (f+m) sz then i<els.length/\K (.tup []) (s'.set n (.own T sz (zW els i f ds)))else False
      |some (.mrk T els)=>optK (aP P t) λm=>bif bc sz 1 && bc ds.length 1 && bc m 1 && bc f 0 then i<els.length/\K (.tup []) (s'.set n (.mrk T (zW els i 0 ds)))else False
      |_=>False
     |none=>False
   | .na n off i=>match sev ρ v with
     | .d (.v u)=>(match s.get n with
       |some (.cells vs T)=>optK (aP P t) λm=>bif bc m 1 then i<(vs.drop off).length/\K (.tup []) (s.set n (.cells (vs.take off++(vs.drop off).set i (.d (.v u))) T))else False
       |some (.vec ds T)=>optK (aP P t) λm=>bif bc m 1 then i<(ds.drop off).length/\K (.tup []) (s.set n (.vec (ds.take off++(ds.drop off).set i (.v u)) T))else False
       |_=>False)
     |_=>False
   |_=>False
 | .slice t x lo hi aq=>match sev ρ x with
   | .own n=>match s.get n with
     |some (.own T sz els)=>optK (v7 P t) λsz'=>bif bc sz sz' then zIk (zOj ρ lo) (zOj ρ hi) λl h=>match l,h with
      |none,aq=>K (.own n) s
      |none,ap h=>(0<=h/\h<=els.length)/\K (.own s.nx) ((s.del n).new (.own T sz (els.take h.toNat)))
      |some l,h=>z8c sz els (ap l) h λv=>K v (s.set n (.fro sz els))else False
     |some (.fro sz els)=>optK (v7 P t) λsz'=>bif bc sz sz' then zIk (zOj ρ lo) (zOj ρ hi) λl h=>z8c sz els l h λv=>K v s else False
     |_=>False
   |_=>False
 | .mapUpdate t x i v=>match sev ρ x with
   | .mp n=>optK (zOh P t) λke=>optK (zOe (sev ρ i)) λkv=>bif z8e P ke.1 kv && yLn (sev ρ v)then(match elD P s ke.2 (sev ρ v)with
     |some (ds,s')=>(match s'.get n with
      |some (.map es)=>pX kv es/\K (.tup []) (s'.set n (.map (vF kv ds es)))
      |_=>False)
     |none=>False)else False
   |_=>False
 | .mapEntry t x i=>match sev ρ x with
   | .mp n=>optK (zOh P t) λke=>optK (zOe (sev ρ i)) λkv=>bif z8e P ke.1 kv then optK (zPb P ke.2) λz=>(match s.get n with
     |some (.map es)=>pX kv es/\∃b,shT P ke.2 λds=>LK es kv z ds b/\optK (mkM P ke.2 ds) λv=>∀x:Int,K (.tup [v,.d (.v (.int .i64 x))]) (s.set n (.mapS (vF kv ds es) kv x))
     |_=>False)else False
   |_=>False
 | .entryStore t x st v=>match sev ρ x with
   | .mp n=>(match sev ρ st with
     | .d (.v (.int _ b))=>optK (zOh P t) λke=>bif yLn (sev ρ v)then(match elD P s ke.2 (sev ρ v)with
       |some (ds,s')=>(match s'.get n with
        |some (.mapS es kv b')=>b=b'/\pX kv es/\K (.tup []) (s'.set n (.map (vF kv ds es)))
        |_=>False)
       |none=>False)else False
     |_=>False)
   |_=>False
 | .convert st d x=>match sev ρ x with
   | .d (.v (.string b))=>bif zBf P st then optK (yLu P d) λe=>K (.own s.nx) (s.new (.mrk e (qF b)))else False
   | .own n=>match s.get n with
     |some (.own T sz els)=>bif bc st d && bc sz 1 then optK (yLu P d) λe=>bif bc T e then 1<=els.length/\K (.own n) (s.set n (.fro sz els))else False else False
     |_=>False
   |_=>False
 | .range t x=>match sev ρ x with
   | .d (.v (.string b))=>bif zBf P t then K (.nm s.nx 0) (s.new (.iter b 0))else False
   |_=>False
 | .next x ar=>match sev ρ x with
   | .nm n 0=>match s.get n with
     |some (.iter b pos)=>cnd (bo pos b.size)
       (K (.tup [.d (.v (.bool ar)),.d (.v (.int .i64 (pos:Nat))),.d (.v (.int .i32 (Utf8.decode b pos).1))]) (s.set n (.iter b (pos+(Utf8.decode b pos).2))))
       (K (.tup [.d (.v (.bool au))]) s)
     |_=>False
   |_=>False
 | .call c=>match c.callee with
   | .value x=>match sev ρ x with
     | .fn f a b=>yCm H f (a++(evs ρ c.args.toList++b)) s K
     |_=>False
   | .builtin .append=>match c.argTypes.toList with
     |[t1,t2]=>match evs ρ c.args.toList with
      |[x,y]=>bif yAl s y then zMz P t1 t2 s x y K else zSh P t1 t2 s x y K
      |_=>False
     |_=>False
   | .builtin .delete=>match evs ρ c.args.toList with
     |[.mp n,y]=>optK c.argTypes[0]? λt=>optK (zOh P t) λke=>optK (zOe y) λkv=>bif z8e P ke.1 kv then(match s.get n with
      |some (.map es)=>pX kv es/\K (.tup []) (s.set n (.map (lV kv es)))
      |_=>False)else False
     |_=>False
   |_=>False
 |_=>False
def wZ {P:ab} {w:af} {r:Nat} {O O':Obj} (h:w.heap[r]? =ap O') (hO:match O' with| .cells _ _ _=>False|_=>True):(setObj r O).run P w= .ok () (World.setB w r O):=by
 simp only[setObj,bu,h];cases O'<;>first|exact hO.elim|rfl
def aK {sz:Nat}:∀{els:List (List D)} (i f:Nat) (ds:List D),(∀el∈els,el.length=sz)->i<els.length->f+ds.length<=sz->
 (zW els i f ds).flatten=z9l els.flatten (i*sz+f) ds/\∀el∈zW els i f ds,el.length=sz
 |[],i,f,ds,_,h,_=>by simp at h
 |el::els,0,f,ds,hu,h,hd=>by
  have e1:=hu el y1f;constructor
  ·simp only[zW,List.modify_zero_cons,y3o,z9l,Nat.zero_mul,y1x];rw[y2b (by omega),y3n (by omega)];simp
  ·intro e he;simp only[zW,List.modify_zero_cons,y1r]at he;rcases he with rfl|he
   ·simp only[y0x,y1q,y1w];omega
   ·exact hu e (y1g _ he)
 |el::els,i+1,f,ds,hu,h,hd=>by
  have e1:=hu el y1f;obtain⟨ih1,ih2⟩:=aK (els:=els) i f ds (λe he=>hu e (y1g _ he)) (by simpa using h) hd;constructor
  ·simp only[zW,y6c,y3o,z9l]at ih1 ⊢;rw[ih1,y4c,List.take_append,y5v,e1];rw[y1k (show el.length<=i*sz+sz+f by omega),show i*sz+sz+f-sz=i*sz+f by omega,y4j (show el.length<=i*sz+sz+f+ds.length by omega),show i*sz+sz+f+ds.length-sz=i*sz+f+ds.length by omega];simp
  ·intro e he;simp only[zW,y6c,y1r]at he ih2;rcases he with rfl|he
   ·exact e1
   ·exact ih2 e he
def zOi {P:ab} {w:af} {t b o:Nat} {v y:aa} {l:List aa} {T:ac} (hz:aP P t=ap 1) (hc:v.cells= #[y]) (ho:o<l.length) (h1:y.oneC=ar)
 (hb:w.heap[b]? =ap (.cells l.toArray T (l.length,l.length+1))):l7 P (storeVar t ⟨b,o,aq⟩ v) w (World.setB w b (.cells (l.set o y).toArray T (l.length,l.length+1))):=by
 have hcell:w.cell? ⟨b,o,aq⟩=ap l[o]:=by rw[lK hb];exact y2h ho
 have hf:w.frozen? ⟨b,o,aq⟩=au:=by
  simp only[World.frozen?,hb];simp;omega
 have hset:w.setCell ⟨b,o,aq⟩ y=World.setB w b (.cells (l.set o y).toArray T (l.length,l.length+1)):=by
  unfold World.setCell World.setB;congr 1;apply y6n;intro i;rw[Array.getElem?_modify,y4z];have hlt:b<w.heap.size:=by
   rcases y3q b w.heap.size with h|h
   ·exact h
   ·rw[y3x h]at hb;cases hb
  by_cases hi:b=i
  ·subst hi;have hb2:w.heap[b]= .cells l.toArray T (l.length,l.length+1):=by rw[y5k hlt]at hb;exact ba hb
   simp[hlt,hb2]
  ·simp[hi]
 have h0:(store ⟨b,o,aq⟩ y).run P w= .ok () (World.setB w b (.cells (l.set o y).toArray T (l.length,l.length+1))):=by
  unfold store;cases y<;>first|(cases h1;done)|(simp only[bu,hcell,hf,y1p,if_false,hset])
 unfold aP at hz;split at hz<;>first|(cases hz;done)|skip
 rename_i i hi;have hz:i.size=1:=ba hz;unfold l7 storeVar;simp only[bind,run_bind,run_sizeOf hi,hc,hz];simp only[y5b,y1d,y2r];have e:(storeCells ⟨b,o,aq⟩ [y] 0).run P w= .ok () (World.setB w b (.cells (l.set o y).toArray T (l.length,l.length+1))):=by
  unfold storeCells;simp only[bind,run_bind,wO,y5o,h0];unfold storeCells;rfl
 simpa using e
def vE {P:ab} {w:af} {t b o n:Nat} {v:aa} {l vs:List aa} {T:ac} (hz:aP P t=ap n) (hc:v.cells=vs.toArray) (hn:vs.length=n) (ho:o+n<=l.length) (h1:∀y∈vs,y.oneC=ar)
 (hb:w.heap[b]? =ap (.cells l.toArray T)):l7 P (storeVar t ⟨b,o,aq⟩ v) w (World.setB w b (.cells (spl l o vs).toArray T)):=by
 unfold aP at hz;split at hz<;>first|(cases hz;done)|skip
 rename_i i hi;cases hz;unfold l7 storeVar;have:=jF (P:=P) vs 0 o l w hb (by omega) h1;simp only[y5o]at this;simp only[bind,run_bind,run_sizeOf hi,hc,y5b,hn];simpa using this
end Sx
