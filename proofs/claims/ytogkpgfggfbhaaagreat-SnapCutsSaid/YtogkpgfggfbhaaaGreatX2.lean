/- Texts of ours, one behind the other: a walk that the kernel reckons, and contracts of functions. No condition. -/
import Derived.Laws.Cover1
import Derived.Laws.StructEq
import Derived.Lib.ConvBytes
import Derived.MapKept
import Derived.Test.YtogkpgfggfbhaaaGreatX1
namespace Sx
set_option linter.unusedSimpArgs false
set_option linter.unusedVariables false
open Go Go.RowKit Cv
theorem VRL.length {E:Ev}:∀{vs:List V} {l:List Value},VRL E vs l→l.length=vs.length
 |[],l,h=>by simp only[VRL]at h;subst h;rfl
 |v::vs,l,h=>by simp only[VRL]at h;obtain⟨x,xs,rfl,h1,h2⟩:=h;simp[h2.length]
theorem VRL.get {E:Ev}:∀{vs:List V} {l:List Value},VRL E vs l→∀{i:Nat} {v:V},vs[i]? =some v→∃y,l[i]? =some y∧VR E v y
 |[],l,h,i,v,e=>by simp at e
 |v::vs,l,h,i,u,e=>by
  simp only[VRL]at h;obtain⟨x,xs,rfl,h1,h2⟩:=h
  cases i with
  |zero=>simp at e;subst e;exact⟨x,rfl,h1⟩
  |succ i=>simp at e ⊢;exact h2.get e
theorem VRL.take {E:Ev}:∀{vs:List V} {l:List Value},VRL E vs l→∀(n:Nat),VRL E (vs.take n) (l.take n)
 |[],l,h,n=>by simp only[VRL]at h;subst h;simp[VRL]
 |v::vs,l,h,n=>by
  simp only[VRL]at h;obtain⟨x,xs,rfl,h1,h2⟩:=h
  cases n with
  |zero=>simp[VRL]
  |succ n=>simp only[yWv,VRL];exact⟨_,_,rfl,h1,h2.take n⟩
theorem VRL.drop {E:Ev}:∀{vs:List V} {l:List Value},VRL E vs l→∀(n:Nat),VRL E (vs.drop n) (l.drop n)
 |[],l,h,n=>by simp only[VRL]at h;subst h;simp[VRL]
 |v::vs,l,h,n=>by
  have h0:=h
  simp only[VRL]at h;obtain⟨x,xs,rfl,h1,h2⟩:=h
  cases n with
  |zero=>exact h0
  |succ n=>simp only[List.drop_succ_cons];exact h2.drop n
theorem VRL.append {E:Ev}:∀{vs:List V} {l:List Value},VRL E vs l→∀{us:List V} {m:List Value},VRL E us m→VRL E (vs++us) (l++m)
 |[],l,h,us,m,h'=>by simp only[VRL]at h;subst h;exact h'
 |v::vs,l,h,us,m,h'=>by
  simp only[VRL]at h;obtain⟨x,xs,rfl,h1,h2⟩:=h
  simp only[yXb,VRL];exact⟨_,_,rfl,h1,h2.append h'⟩
theorem VRL.one {E:Ev} {v:V} {y:Value} (h:VR E v y):VRL E [v] [y]:=by simp only[VRL];exact⟨_,_,rfl,h,rfl⟩
theorem VRL.nil {E:Ev}:VRL E [] []:=by simp only[VRL]
theorem DRL.length {F:PH}:∀{vs:List D} {l:List Value},DRL F vs l→l.length=vs.length
 |[],l,h=>by simp only[DRL]at h;subst h;rfl
 |v::vs,l,h=>by simp only[DRL]at h;obtain⟨x,xs,rfl,h1,h2⟩:=h;simp[h2.length]
theorem DRL.append {F:PH}:∀{vs:List D} {l:List Value},DRL F vs l→∀{us:List D} {m:List Value},DRL F us m→DRL F (vs++us) (l++m)
 |[],l,h,us,m,h'=>by simp only[DRL]at h;subst h;exact h'
 |v::vs,l,h,us,m,h'=>by
  simp only[DRL]at h;obtain⟨x,xs,rfl,h1,h2⟩:=h
  simp only[yXb,DRL];exact⟨_,_,rfl,h1,h2.append h'⟩
theorem DRL.split {F:PH}:∀{vs us:List D} {l:List Value},DRL F (vs++us) l→∃l1 l2,l=l1++l2∧DRL F vs l1∧DRL F us l2
 |[],us,l,h=>⟨[],l,rfl,by simp only[DRL],h⟩
 |v::vs,us,l,h=>by
  simp only[yXb,DRL]at h;obtain⟨x,xs,rfl,h1,h2⟩:=h
  obtain⟨l1,l2,rfl,h3,h4⟩:=h2.split
  exact⟨x::l1,l2,rfl,by simp only[DRL];exact⟨_,_,rfl,h1,h3⟩,h4⟩
theorem DRL.take {F:PH}:∀{vs:List D} {l:List Value},DRL F vs l→∀(n:Nat),DRL F (vs.take n) (l.take n)
 |[],l,h,n=>by simp only[DRL]at h;subst h;simp[DRL]
 |v::vs,l,h,n=>by
  simp only[DRL]at h;obtain⟨x,xs,rfl,h1,h2⟩:=h
  cases n with
  |zero=>simp[DRL]
  |succ n=>simp only[yWv,DRL];exact⟨_,_,rfl,h1,h2.take n⟩
theorem DRL.drop {F:PH}:∀{vs:List D} {l:List Value},DRL F vs l→∀(n:Nat),DRL F (vs.drop n) (l.drop n)
 |[],l,h,n=>by simp only[DRL]at h;subst h;simp[DRL]
 |v::vs,l,h,n=>by
  have h0:=h
  simp only[DRL]at h;obtain⟨x,xs,rfl,h1,h2⟩:=h
  cases n with
  |zero=>exact h0
  |succ n=>simp only[List.drop_succ_cons];exact h2.drop n
theorem DRL.one {F:PH}:∀{vs:List D} {l:List Value},DRL F vs l→∀v∈l,v.oneC=true
 |[],l,h=>by simp only[DRL]at h;subst h;simp
 |v::vs,l,h=>by
  simp only[DRL]at h;obtain⟨x,xs,rfl,h1,h2⟩:=h
  intro u hu
  rcases yWf.1 hu with rfl|hu
  ·cases v with
   |v y=>simp only[DR]at h1;rw[h1.1];exact h1.2
   |ro sz els=>simp only[DR]at h1;obtain⟨a,c,rfl,_⟩:=h1;rfl
  ·exact h2.one u hu
theorem DRL.get {F:PH}:∀{vs:List D} {l:List Value},DRL F vs l→∀{i:Nat} {v:D},vs[i]? =some v→∃y,l[i]? =some y∧DR F v y
 |[],l,h,i,v,e=>by simp at e
 |v::vs,l,h,i,u,e=>by
  simp only[DRL]at h;obtain⟨x,xs,rfl,h1,h2⟩:=h
  cases i with
  |zero=>simp at e;subst e;exact⟨x,rfl,h1⟩
  |succ i=>simp at e ⊢;exact h2.get e
theorem DRL.vrl {E:Ev}:∀{vs:List D} {l:List Value},DRL E.F vs l→VRL E (vs.map .d) l
 |[],l,h=>by simp only[DRL]at h;subst h;simp[VRL]
 |v::vs,l,h=>by
  simp only[DRL]at h;obtain⟨x,xs,rfl,h1,h2⟩:=h
  simp only[yVz,VRL,VR];exact⟨_,_,rfl,h1,h2.vrl⟩
theorem DRS_iff {F:PH}:∀{els:List (List D)} {l:List Value},DRS F els l↔∃xs r,l=xs++r∧DRL F els.flatten xs
 |[],l=>by simp only[DRS,List.flatten_nil,true_iff,DRL];exact⟨[],l,rfl,rfl⟩
 |el::els,l=>by
  simp only[DRS,yXq]
  constructor
  ·rintro⟨l1,l2,rfl,h1,h2⟩
   obtain⟨xs,r,rfl,h3⟩:=DRS_iff.1 h2
   exact⟨l1++xs,r,by simp,h1.append h3⟩
  ·rintro⟨xs,r,rfl,h⟩
   obtain⟨l1,l2,rfl,h1,h2⟩:=h.split
   exact⟨l1,l2++r,by simp,h1,DRS_iff.2 ⟨l2,r,rfl,h2⟩⟩
theorem wN {α:Type} {sz:Nat}:∀{els:List (List α)},(∀el∈els,el.length=sz)→els.flatten.length=els.length*sz
 |[],_=>by simp
 |el::els,h=>by
  rw[yXq,yVm,h el yVp,wN (fun e he=>h e (yVr _ he)),yVt,yZb]
  omega
theorem aO {α:Type} {sz:Nat}:∀{els:List (List α)} (i:Nat),(∀el∈els,el.length=sz)→els.flatten.drop (i*sz)=(els.drop i).flatten
 |[],i,_=>by simp
 |el::els,0,h=>by simp
 |el::els,i+1,h=>by
  rw[yXq,List.drop_succ_cons,← aO i (fun e he=>h e (yVr _ he)),yZb,y0y,← yYu]
  rw[show(el++els.flatten).drop sz=els.flatten by rw[← h el yVp,List.drop_left]]
theorem aM {α:Type} {sz:Nat}:∀{els:List (List α)} (i:Nat),(∀el∈els,el.length=sz)→els.flatten.take (i*sz)=(els.take i).flatten
 |[],i,_=>by simp
 |el::els,0,h=>by simp
 |el::els,i+1,h=>by
  rw[yXq,yWv,yXq,← aM i (fun e he=>h e (yVr _ he)),yZb,y0y,List.take_append,h el yVp]
  simp[h el yVp]
  rw[yVx (by rw[h el yVp];omega)]
theorem zNb {α:Type} {sz:Nat} {els:List (List α)} {i f n:Nat} {el:List α} (h:∀el∈els,el.length=sz) (hi:els[i]? =some el) (hf:f+n≤sz):(els.flatten.drop (i*sz+f)).take n=(el.drop f).take n:=by
 have hm:=yVv hi
 have hlt:i<els.length:=(yVn.1 hi).1
 rw[← yYu,aO i h]
 have:els.drop i=el::els.drop (i+1):=by
  rw[yXs hlt]
  congr 1
  exact(yVn.1 hi).2
 rw[this,yXq,yYd (by rw[h el hm];omega),yWm (by rw[yWh,h el hm];omega)]
def okc:Value→Bool
 | .agg cs=>cs.toList.all (·.oneC)
 | .tuple cs=>cs.toList.all (·.oneC)
 |_=>true
def toV (x:Value):V:=
 bif okc x then(match x with
 | .agg cs=> .agg (cs.toList.map fun y=> .d (.v y))
 | .tuple cs=> .tup (cs.toList.map fun y=> .d (.v y))
 |x=> .d (.v x))else .top
theorem yCa {E:Ev}:∀{l:List Value},(l.all (·.oneC))=true→VRL E (l.map fun y=> .d (.v y)) l
 |[],_=>by simp[VRL]
 |y::l,h=>by
  simp only[List.all_cons,yVy]at h
  simp only[yVz,VRL,VR,DR]
  exact⟨y,l,rfl,⟨rfl,h.1⟩,yCa h.2⟩
theorem zHn (E:Ev) (x:Value):VR E (toV x) x:=by
 unfold toV
 cases h:okc x
 ·simp[VR]
 ·cases x<;>simp only[cond_true,VR,DR]<;>first|exact⟨rfl,rfl⟩|exact⟨trivial,rfl⟩|(rename_i cs;exact⟨cs.toList,by simp,yCa h⟩)
@[reducible] def yY:=Nat→V
def sev (ρ:yY):Operand→V
 | .tmp t=>ρ t
 | .const x=>toV x
 | .func f=> .fn f [] []
 | .global _=> .top
def rY (ρ:yY):Option Nat→V→yY
 |none,_=>ρ
 |some d,v=>fun i=>bif Nat.beq i d then v else ρ i
def EnvR (E:Ev) (ρS:yY) (ρ:Env):Prop:=∀t,VR E (ρS t) (ρ t)
theorem EnvR.ev {E:Ev} {ρS:yY} {ρ:Env} (h:EnvR E ρS ρ) (x:Operand):VR E (sev ρS x) (ev ρ x):=by
 cases x with
 |tmp t=>exact h t
 |const v=>exact zHn E v
 |func f=>simp only[sev,Cv.ev,VR];exact⟨[],[],rfl,VRL.nil,VRL.nil⟩
 |global g=>simp only[sev,VR]
theorem EnvR.put {E:Ev} {ρS:yY} {ρ:Env} (h:EnvR E ρS ρ) (d:Option Nat) {v:V} {y:Value} (hv:VR E v y):EnvR E (rY ρS d v) (Cv.put ρ d y):=by
 cases d with
 |none=>exact h
 |some d=>
  intro t
  simp only[rY,Cv.put]
  cases Nat.beq t d
  ·exact h t
  ·exact hv
theorem EnvR.mono {E E':Ev} (h:E.le E') {ρS:yY} {ρ:Env} (e:EnvR E ρS ρ):EnvR E' ρS ρ:=fun t=>(e t).mono h
def evs (ρ:yY):List Operand→List V
 |[]=>[]
 |x::l=>sev ρ x::evs ρ l
theorem yCd {E:Ev} {ρS:yY} {ρ:Env} (h:EnvR E ρS ρ):∀(l:List Operand),VRL E (evs ρS l) (l.map (ev ρ))
 |[]=>by simp[evs,VRL]
 |x::l=>by simp only[evs,yVz,VRL];exact⟨_,_,rfl,h.ev x,yCd h l⟩
theorem dW {E:Ev} {ρS:yY} {ρ:Env} (h:EnvR E ρS ρ) (l:Array Operand):∃ys:List Value,l.map (ev ρ)=ys.toArray∧VRL E (evs ρS l.toList) ys:=
 ⟨l.toList.map (ev ρ),by apply Array.ext';simp,yCd h _⟩
def zSt:List V→Option (List Value)
 |[]=>some []
 | .d (.v x)::l=>match zSt l with
   |some r=>some (x::r)
   |none=>none
 |_::_=>none
def zLv:V→Option Value
 | .d (.v x)=>some x
 | .agg l=>match zSt l with
   |some r=>some (.agg r.toArray)
   |none=>none
 | .fn f [] []=>some (.func (.func f) #[] #[])
 |_=>none
theorem zSg {E:Ev}:∀{l:List V} {r ys:List Value},zSt l=some r→VRL E l ys→ys=r
 |[],r,ys,h,e=>by simp only[zSt,Option.some.injEq]at h;subst h;simpa only[VRL]using e
 |v::l,r,ys,h,e=>by
  simp only[VRL]at e;obtain⟨x,xs,rfl,h1,h2⟩:=e
  unfold zSt at h
  split at h
  ·rename_i heq;cases heq
  ·rename_i x' l' heq
   cases heq
   simp only[VR,DR]at h1
   split at h<;>first|(cases h;done)|skip
   rename_i r' hr
   cases h
   rw[h1.1,zSg hr h2]
  ·cases h
theorem nA {E:Ev} {v:V} {x y:Value} (h:zLv v=some x) (e:VR E v y):y=x:=by
 unfold zLv at h
 split at h
 ·cases h;simp only[VR,DR]at e;exact e.1
 ·rename_i l
  split at h<;>first|(cases h;done)|skip
  rename_i r hr
  cases h
  simp only[VR]at e
  obtain⟨ys,rfl,h2⟩:=e
  rw[zSg hr h2]
 ·cases h
  simp only[VR]at e
  obtain⟨as,bs,rfl,h2,h3⟩:=e
  simp only[VRL]at h2 h3
  subst h2 h3;rfl
 ·cases h
def lfy (ρ:yY):Operand→Bool
 | .tmp t=>match zLv (ρ t)with
   |some _=>true
   |none=>false
 |_=>true
def yGt (ρ:yY):List Operand→Bool
 |[]=>true
 |x::l=>bif lfy ρ x then yGt ρ l else false
def yGw (ρ:yY):Env:=fun t=>match zLv (ρ t)with
 |some x=>x
 |none=>undef
theorem yLv {E:Ev} {ρS:yY} {ρ:Env} (h:EnvR E ρS ρ) {x:Operand} (hl:lfy ρS x=true):ev (yGw ρS) x=ev ρ x:=by
 cases x with
 |tmp t=>
  simp only[lfy]at hl
  split at hl<;>first|(cases hl;done)|skip
  rename_i y hy
  simp only[Cv.ev,yGw,hy]
  exact(nA hy (h t)).symm
 |_=>rfl
theorem z1a {E:Ev} {ρS:yY} {ρ:Env} (h:EnvR E ρS ρ):∀{l:List Operand},yGt ρS l=true→∀x∈l,ev (yGw ρS) x=ev ρ x
 |[],_,x,hx=>by cases hx
 |y::l,hl,x,hx=>by
  simp only[yGt]at hl
  cases hy:lfy ρS y with
  |false=>rw[hy]at hl;cases hl
  |true=>
   rw[hy]at hl
   rcases yWf.1 hx with rfl|hx
   ·exact yLv h hy
   ·exact z1a h hl x hx
def zCd:Op→Bool
 | .binOp _ _ _ _ _=>true
 | .unOp _ _ _=>true
 | .convert _ _ _=>true
 | .index _ _ _=>true
 | .nilCheck _=>true
 | .slice _ _ _ _ none=>true
 | .call {callee:= .builtin _,..}=>true
 |_=>false
theorem z5c {ρ ρ':Env} {o:Oper} (hp:zCd o.op=true) (h:∀x∈o.op.operands.toList,ev ρ x=ev ρ' x):execOp (ev ρ) o=execOp (ev ρ') o:=by
 obtain⟨dst,op,ty,pos,after,gd⟩:=o
 cases op<;>simp only[zCd,yWc]at hp
 case binOp a b x y c=>simp only[Op.operands,yWf,List.not_mem_nil,or_false,forall_eq_or_imp,forall_eq]at h;simp only[execOp,h]
 case unOp a b x=>simp only[Op.operands,yWf,List.not_mem_nil,or_false,forall_eq]at h;simp only[execOp,h]
 case convert a b x=>simp only[Op.operands,yWf,List.not_mem_nil,or_false,forall_eq]at h;simp only[execOp,h]
 case index a x y=>simp only[Op.operands,yWf,List.not_mem_nil,or_false,forall_eq_or_imp,forall_eq]at h;simp only[execOp,h]
 case nilCheck x=>simp only[Op.operands,yWf,List.not_mem_nil,or_false,forall_eq]at h;simp only[execOp,h]
 case slice a x lo hi mx=>
  cases mx with
  |some m=>simp[zCd]at hp
  |none=>
   have hl:lo.map (ev ρ)=lo.map (ev ρ'):=by
    cases lo with
    |none=>rfl
    |some z=>simp only[yXi];rw[h z (by simp[Op.operands])]
   have hh:hi.map (ev ρ)=hi.map (ev ρ'):=by
    cases hi with
    |none=>rfl
    |some z=>simp only[yXi];rw[h z (by simp[Op.operands])]
   simp only[execOp,hl,hh,h x (by simp[Op.operands])]
   rfl
 case call c=>
  obtain⟨callee,args,ats⟩:=c
  cases callee<;>simp only[zCd,yWc]at hp
  have ha:args.map (ev ρ)=args.map (ev ρ'):=by
   apply Array.map_congr_left
   intro x hx
   exact h x (by simp[Op.operands,Call.operands,hx])
  simp only[execOp,resolve,ha]
open Go Go.RowKit Cv
def zXm (P:Program) (t:TypeId) (x y:Value):Option Bool:=
 match P.underlying t with
 |some (.int _)=>match x with
  | .int k a=>match y with
    | .int k' b=>bif keq k k' then some (a==b)else none
    |_=>none
  |_=>none
 |some .string=>match x with
  | .string a=>match y with
    | .string b=>some (a==b)
    |_=>none
  |_=>none
 |some .bool=>match x with
  | .bool a=>match y with
    | .bool b=>some (a==b)
    |_=>none
  |_=>none
 |_=>none
def z0f (P:Program) (xs ys:List Value):List Field→Option Bool
 |[]=>some true
 | f :: fs => bif f.name == "_" then none else match xs[f.offset]?, ys[f.offset]? with
   |some x,some y=>match zXm P f.type x y with
    |some a=>match z0f P xs ys fs with
     |some b=>some (a && b)
     |none=>none
    |none=>none
   |_,_=>none
def yGv (P:Program) (f:Field) (xs ys:List Value):Option Bool:=
 match P.underlying f.type with
 |some (.struct gs)=>match zGp P f.type with
  |some n=>bif P.stoodInHeld f.type then none else z0f P ((xs.drop f.offset).take n) ((ys.drop f.offset).take n) gs.toList
  |none=>none
 |_=>match xs[f.offset]?,ys[f.offset]? with
  |some x,some y=>zXm P f.type x y
  |_,_=>none
def zMz (P:Program) (xs ys:List Value):List Field→Option Bool
 |[]=>some true
 | f :: fs => bif f.name == "_" then none else match yGv P f xs ys with
   |some a=>match zMz P xs ys fs with
    |some b=>some (a && b)
    |none=>none
   |none=>none
def z7k (P:Program) (t:TypeId) (xs ys:List Value):Option Bool:=
 match P.underlying t with
 |some (.struct fs)=>bif P.stoodInHeld t then none else zMz P xs ys fs.toList
 |_=>none
theorem eH {P:Program} {t:TypeId} {x y:Value} {b:Bool} (h:zXm P t x y=some b):zCv P t=true:=by
 unfold zXm at h
 unfold zCv
 split at h<;>first|(cases h;done)|skip
 all_goals(rename_i he;rw[he])
theorem zTn {P:Program} {t:TypeId} {x y:Value} {b:Bool} {d:Nat} (h:zXm P t x y=some b) (w:World):(Op.equalIn (d+1) t x y).run P w= .ok b w:=by
 unfold zXm at h
 split at h<;>first|(cases h;done)|skip
 all_goals
  rename_i he
  split at h<;>first|(cases h;done)|skip
  split at h<;>first|(cases h;done)|skip
  unfold Op.equalIn
  simp only[bind,pure,run_bind,Cv.run_underlying he]
 ·obtain⟨hk,hb⟩:=y3 h
  clear h
  have:=zNy hk
  subst this
  cases hb
  simp only[if_true,Sem.run]
 ·cases h;rfl
 ·cases h;rfl
theorem zCw {P:Program} {t off:Nat} {cs:List Value} {v:Value} (hs:zCv P t=true) (h:cs[off]? =some v) (w:World):(part t cs.toArray off).run P w= .ok v w:=by
 unfold part
 have:cs.toArray[off]? =some v:=by simp[h]
 simp only[bind,run_bind,bG hs w,yWc,if_false,this]
 rfl
theorem zNh {P:Program} (w:World) {xs ys:List Value} {σ:Type} {s0:σ} {fin:σ} {F:Field→σ→Sem (ForInStep σ)}
 (hF : ∀ f x y b, (f.name == "_") = false → xs[f.offset]? = some x → ys[f.offset]? = some y → zXm P f.type x y = some b → (F f s0).run P w = .ok (if b then .yield s0 else .done fin) w) :
 ∀{fs:List Field} {b:Bool},z0f P xs ys fs=some b→((forIn fs s0 F):Sem σ).run P w= .ok (if b then s0 else fin) w
 |[],b,h=>by
  simp only[z0f,Option.some.injEq]at h
  subst h;rfl
 |f::fs,b,h=>by
  simp only[z0f]at h
  have hn : (f.name == "_") = false := by
   cases hb : (f.name == "_")
   ·rfl
   ·rw[hb]at h;cases h
  rw[hn]at h
  simp only[cond_false]at h
  split at h<;>first|(cases h;done)|skip
  rename_i x y hx hy
  split at h<;>first|(cases h;done)|skip
  rename_i a ha
  split at h<;>first|(cases h;done)|skip
  rename_i b' hb
  cases h
  have h1:=hF f x y a hn hx hy ha
  have ih:=zNh (P:=P) w hF hb
  simp only[List.forIn_cons,bind,run_bind,h1]
  cases a
  ·rfl
  ·simpa using ih
theorem zQk {P:Program} {t:TypeId} {fs:Array Field} {xs ys:List Value} {b:Bool} {d:Nat} (hfs:P.underlying t=some (.struct fs)) (hst:P.stoodInHeld t=false) (h:z0f P xs ys fs.toList=some b) (w:World):
 (Op.equalIn (d+2) t (.agg xs.toArray) (.agg ys.toArray)).run P w= .ok b w:=by
 unfold Op.equalIn
 simp only[bind,pure,run_bind,Cv.run_underlying hfs,program,Sem.run,Sem.bind,hst,yWc,if_false]
 rw[← Array.forIn_toList]
 have := zNh (P := P) (xs := xs) (ys := ys) w (σ := Option Bool × Unit) (s0 := (none, ())) (fin := (some false, ())) (F := fun f __s => if f.name ≠ "_" then
  (part f.type xs.toArray f.offset).bind fun x=>(part f.type ys.toArray f.offset).bind fun y=>(Op.equalIn (d+1) f.type x y).bind fun c=>
    if(!c)=true then Sem.pure (ForInStep.done (some false,()))else Sem.pure (ForInStep.yield (none,()))
  else Sem.pure (ForInStep.yield (none,()))) (by
  intro f x y c hn hx hy hc
  have hne : f.name ≠ "_" := by simpa using hn
  simp only[hne,ne_eq,not_false_eq_true,if_true,run_bind,zCw (eH hc) hx,zCw (eH hc) hy,zTn (d:=d) hc]
  cases c<;>rfl) h
 rw[this]
 cases b<;>rfl
theorem zCi {P:Program} {t off n:Nat} {cs:List Value} (hs:zGp P t=some n) (w:World):(part t cs.toArray off).run P w= .ok (.agg ((cs.drop off).take n).toArray) w:=by
 obtain⟨h1,h2⟩:=dF hs w
 unfold part
 have e:cs.toArray.extract off (off+n)=((cs.drop off).take n).toArray:=by
  rw[List.extract_toArray,List.extract_eq_take_drop]
  simp
 simp only[bind,pure,run_bind,h1,if_true,h2,Sem.run,e]
theorem zHr {P:Program} (w:World) {xs ys:List Value} {σ:Type} {s0:σ} {fin:σ} {F:Field→σ→Sem (ForInStep σ)}
 (hF : ∀ f b, (f.name == "_") = false → yGv P f xs ys = some b → (F f s0).run P w = .ok (if b then .yield s0 else .done fin) w) :
 ∀{fs:List Field} {b:Bool},zMz P xs ys fs=some b→((forIn fs s0 F):Sem σ).run P w= .ok (if b then s0 else fin) w
 |[],b,h=>by
  simp only[zMz,Option.some.injEq]at h
  subst h;rfl
 |f::fs,b,h=>by
  simp only[zMz]at h
  have hn : (f.name == "_") = false := by
   cases hb : (f.name == "_")
   ·rfl
   ·rw[hb]at h;cases h
  rw[hn]at h
  simp only[cond_false]at h
  split at h<;>first|(cases h;done)|skip
  rename_i a ha
  split at h<;>first|(cases h;done)|skip
  rename_i b' hb
  cases h
  have h1:=hF f a hn ha
  have ih:=zHr (P:=P) w hF hb
  simp only[List.forIn_cons,bind,run_bind,h1]
  cases a
  ·rfl
  ·simpa using ih
theorem yCs {P:Program} {f:Field} {xs ys:List Value} {b:Bool} (h:yGv P f xs ys=some b) (w:World):
 ∃x y,(part f.type xs.toArray f.offset).run P w= .ok x w∧(part f.type ys.toArray f.offset).run P w= .ok y w∧(Op.equalIn 9999 f.type x y).run P w= .ok b w:=by
 unfold yGv at h
 split at h
 ·rename_i gs hgs
  split at h<;>first|(cases h;done)|skip
  rename_i n hn
  have hst:P.stoodInHeld f.type=false∧z0f P ((xs.drop f.offset).take n) ((ys.drop f.offset).take n) gs.toList=some b:=by
   revert h;cases P.stoodInHeld f.type<;>intro h
   ·exact⟨rfl,h⟩
   ·cases h
  exact⟨_,_,zCi hn w,zCi hn w,zQk (d:=9997) hgs hst.1 hst.2 w⟩
 ·split at h<;>first|(cases h;done)|skip
  rename_i x y hx hy
  exact⟨x,y,zCw (eH h) hx w,zCw (eH h) hy w,zTn (d:=9998) h w⟩
theorem z5k {P:Program} {t:TypeId} {xs ys:List Value} {b:Bool} (h:z7k P t xs ys=some b) (w:World):(Op.equal t (.agg xs.toArray) (.agg ys.toArray)).run P w= .ok b w:=by
 unfold z7k at h
 split at h<;>first|(cases h;done)|skip
 rename_i fs hfs
 have hst:P.stoodInHeld t=false∧zMz P xs ys fs.toList=some b:=by
  revert h;cases P.stoodInHeld t<;>intro h
  ·exact⟨rfl,h⟩
  ·cases h
 rw[cY]
 unfold Op.equalIn
 simp only[bind,pure,run_bind,Cv.run_underlying hfs,program,Sem.run,Sem.bind,hst.1,yWc,if_false]
 rw[← Array.forIn_toList]
 have := zHr (P := P) (xs := xs) (ys := ys) w (σ := Option Bool × Unit) (s0 := (none, ())) (fin := (some false, ())) (F := fun f __s => if f.name ≠ "_" then
  (part f.type xs.toArray f.offset).bind fun x=>(part f.type ys.toArray f.offset).bind fun y=>(Op.equalIn 9999 f.type x y).bind fun c=>
    if(!c)=true then Sem.pure (ForInStep.done (some false,()))else Sem.pure (ForInStep.yield (none,()))
  else Sem.pure (ForInStep.yield (none,()))) (by
  intro f c hn hc
  have hne : f.name ≠ "_" := by simpa using hn
  obtain⟨x,y,r1,r2,r3⟩:=yCs hc w
  simp only[hne,ne_eq,not_false_eq_true,if_true,run_bind,r1,r2,r3]
  cases c<;>rfl) hst.2
 rw[this]
 cases b<;>rfl
open Go Go.RowKit Cv
def V.cl:V→List V
 | .agg l=>l
 |v=>[v]
def z1q (P:Program) (t:TypeId) (cs:List V) (off:Nat):Option V:=
 match zGp P t with
 |some sz=>some (.agg ((cs.drop off).take sz))
 |none=>bif zCv P t then cs[off]? else none
def optK {α:Type} (x:Option α) (K:α→Prop):Prop:=
 match x with
 |some v=>K v
 |none=>False
theorem zM {α:Type} {x:Option α} {K:α→Prop} (h:optK x K):∃v,x=some v∧K v:=by
 cases x with
 |none=>exact h.elim
 |some v=>exact⟨v,rfl,h⟩
theorem zFt {P:Program} {E:Ev} {t:TypeId} {cs:List V} {ys:List Value} {off:Nat} {v:V} (hr:VRL E cs ys) (h:z1q P t cs off=some v):∃y,VR E v y∧∀w,(part t ys.toArray off).run P w= .ok y w:=by
 unfold z1q at h
 split at h
 ·rename_i sz hs
  simp only[Option.some.injEq]at h
  subst h
  refine⟨.agg ((ys.drop off).take sz).toArray,?_,fun w=> ?_⟩
  ·simp only[VR];exact⟨_,rfl,(hr.drop off).take sz⟩
  obtain⟨h1,h2⟩:=dF hs w
  unfold part
  simp only[bind,run_bind,h1,h2,if_true,pure,Sem.run]
  congr 3
  simp[List.extract_eq_take_drop]
 ·rename_i hs
  obtain⟨hb,h⟩:=y3 h
  obtain⟨y,h1,h2⟩:=hr.get h
  refine⟨y,h2,fun w=> ?_⟩
  unfold part
  have:ys.toArray[off]? =some y:=by simp[h1]
  simp only[bind,run_bind,bG hb w,yWc,if_false,this]
  rfl
def zNf (place:Nat→Option (Nat×Nat)):List (Nat×V)→List V→Option (List V)
 |[],cs=>some cs
 |(i,v)::rest,cs=>
  match place i with
  |none=>none
  |some (off,size)=>bif Nat.beq v.cl.length size && Nat.ble (off+size) cs.length then zNf place rest (cs.take off++(v.cl++cs.drop (off+size)))else none
def PRL (E:Ev):List (Nat×V)→List (Nat×Value)→Prop
 |[],l=>l=[]
 |(i,v)::ps,l=>∃y ys,l=(i,y)::ys∧VR E v y∧PRL E ps ys
def rP:V→Bool
 | .top=>false
 |_=>true
theorem VR.cells {E:Ev} {v:V} {y:Value} (ht:rP v=true) (h:VR E v y):∃l,y.cells=l.toArray∧VRL E v.cl l:=by
 cases v
 case agg l=>simp only[VR]at h;obtain⟨ys,rfl,h⟩:=h;exact⟨ys,rfl,h⟩
 case top=>cases ht
 case d x=>
  have h0:=h
  simp only[VR]at h
  refine⟨[y],?_,VRL.one h0⟩
  cases x with
  |v x=>simp only[DR]at h;obtain⟨rfl,h⟩:=h;cases y<;>first|rfl|cases h
  |ro sz els=>simp only[DR]at h;obtain⟨a,c,rfl,_⟩:=h;rfl
 case nm n o=>have h0:=h;simp only[VR]at h;obtain⟨b,oo,l,h1,rfl⟩:=h;exact⟨[_],rfl,VRL.one h0⟩
 case el n sz i f=>have h0:=h;simp only[VR]at h;obtain⟨b,oo,m,c,l,h1,rfl⟩:=h;exact⟨[_],rfl,VRL.one h0⟩
 case re sz els i f=>have h0:=h;simp only[VR]at h;obtain⟨_,_,b,o,l,T,fr,rfl,_⟩:=h;exact⟨[_],rfl,VRL.one h0⟩
 case na n o i=>have h0:=h;simp only[VR]at h;obtain⟨b,oo,l,h1,rfl⟩:=h;exact⟨[_],rfl,VRL.one h0⟩
 case own n=>have h0:=h;simp only[VR]at h;obtain⟨l,h1,a,m,c,rfl⟩:=h;exact⟨[_],rfl,VRL.one h0⟩
 case mp n=>have h0:=h;simp only[VR]at h;obtain⟨b,l,h1,rfl⟩:=h;exact⟨[_],rfl,VRL.one h0⟩
 case sub n i=>have h0:=h;simp only[VR]at h;obtain⟨hd,l,b,oo,h1,h2,rfl⟩:=h;exact⟨[_],rfl,VRL.one h0⟩
 case tup l=>have h0:=h;simp only[VR]at h;obtain⟨ys,rfl,h⟩:=h;exact⟨[_],rfl,VRL.one h0⟩
 case fn f a b=>have h0:=h;simp only[VR]at h;obtain⟨as,bs,rfl,h⟩:=h;exact⟨[_],rfl,VRL.one h0⟩
 case ifc t x=>have h0:=h;simp only[VR]at h;obtain⟨z,rfl,h⟩:=h;exact⟨[_],rfl,VRL.one h0⟩
def z3m:List (Nat×V)→Bool
 |[]=>true
 |p::l=>bif rP p.2 then z3m l else false
theorem sD {E:Ev} {place:Nat→Option (Nat×Nat)}:∀{ps:List (Nat×V)} {cs r:List V} {qs:List (Nat×Value)} {ys:List Value},z3m ps=true→zNf place ps cs=some r→PRL E ps qs→VRL E cs ys→
 ∃zs,Instr.fill place ys.toArray qs=some zs.toArray∧VRL E r zs
 |[],cs,r,qs,ys,_,h,hp,hc=>by
  simp only[zNf,Option.some.injEq]at h
  simp only[PRL]at hp
  subst h hp
  exact⟨ys,rfl,hc⟩
 |(i,v)::ps,cs,r,qs,ys,ht,h,hp,hc=>by
  simp only[zNf]at h
  simp only[PRL]at hp
  obtain⟨y,qs,rfl,hv,hp⟩:=hp
  simp only[z3m]at ht
  cases hnt:rP v<;>rw[hnt]at ht<;>simp only[cond_false,cond_true,yWc]at ht
  obtain⟨l,hl,hvl⟩:=VR.cells hnt hv
  split at h<;>first|(cases h;done)|skip
  rename_i off size hpl
  obtain⟨hb,h⟩:=y3 h
  simp only[yVy]at hb
  have h1:=yVo hb.1
  have h2:=yXt hb.2
  have e1:=hvl.length
  have e2:=hc.length
  have hsz:y.cells.size=size:=by rw[hl,yZi,e1,h1]
  have hbb:(decide (y.cells.size≠size)||decide (off+y.cells.size>ys.toArray.size))=false:=by
   rw[hsz,yZi]
   simp;omega
  have hc':VRL E (cs.take off++(v.cl++cs.drop (off+size))) (ys.take off++(l++ys.drop (off+size))):=(hc.take off).append (hvl.append (hc.drop _))
  obtain⟨zs,q1,q2⟩:=sD ht h hp hc'
  refine⟨zs,?_,q2⟩
  simp only[Instr.fill,hpl]
  have hfold:y.cells.zipIdx.foldl (fun(cs:Array Value) (p:Value×Nat)=>cs.setIfInBounds (off+p.2) p.1) ys.toArray=(ys.take off++(l++ys.drop (off+size))).toArray:=by
   have hz:l.toArray.zipIdx=(l.zipIdx).toArray:=by
    apply Array.ext'
    simp
   rw[hl,hz,List.foldl_toArray]
   rw[zJo (off:=off) l 0 ys (by omega)]
   simp only[spl,yZl,e1,h1,yVq]
  rw[yVj (by rw[hbb];simp),hfold]
  exact q1
def b6 (P:Program) (t:TypeId):Option Value:=
 match P.info? t with
 |some i=>i.zero
 |none=>none
def zZa (P:Program) (t:TypeId) (ps:List (Nat×V)):Option V:=
 match b6 P t with
 |some z=>bif rP (toV z) && z3m ps then(match yDp P t with
  |some pl=>match yBy pl with
   |some _=>match zNf (zRv pl) ps (toV z).cl with
    |some cs=>some (.agg cs)
    |none=>none
   |none=>none
  |none=>match zHh P t with
   |some (_,_,sz)=>match zNf (fun i=>some (i*sz,sz)) ps (toV z).cl with
    |some cs=>some (.agg cs)
    |none=>none
   |none=>none)else none
 |none=>none
theorem fT {P:Program} {t:TypeId} {z:Value} (h:b6 P t=some z):zero? P t=some z:=by
 unfold b6 at h
 unfold zero?
 split at h
 ·rename_i i hi;rw[hi];exact h
 ·cases h
theorem zRx {P:Program} {E:Ev} {t:TypeId} {ps:List (Nat×V)} {qs:List (Nat×Value)} {v:V} (hp:PRL E ps qs) (h:zZa P t ps=some v):
 ∃y,VR E v y∧∀w,(Instr.build t qs.toArray).run P w= .ok y w:=by
 unfold zZa at h
 split at h<;>first|(cases h;done)|skip
 rename_i z hz
 have hzr:=fun w=>zero_run (fT hz) w
 obtain⟨hb,h⟩:=y3 h
 simp only[yVy]at hb
 obtain⟨zl,hzl,hzv⟩:=VR.cells (E:=E) hb.1 (zHn E z)
 split at h
 ·rename_i pl hpl
  split at h<;>first|(cases h;done)|skip
  rename_i L hL
  split at h<;>first|(cases h;done)|skip
  rename_i cs hcs
  simp only[Option.some.injEq]at h
  subst h
  have hpl':=zNi hL
  subst hpl'
  unfold yDp at hpl
  split at hpl<;>first|(cases hpl;done)|skip
  rename_i fs hfs
  simp only[Option.some.injEq]at hpl
  have hpa:(fun i=>L.toArray[i]?)=zRv (L.map some):=by
   funext i
   unfold zRv
   simp only[yXh,yWt]
   cases L[i]? <;>rfl
  obtain⟨zs,hf,hzs⟩:=sD hb.2 hcs hp hzv
  refine⟨.agg zs.toArray,by simp only[VR];exact⟨zs,rfl,hzs⟩,fun w=> ?_⟩
  have hm:=zKj w hpl
  have hmA:((fs.mapM fun f=>(do pure (f.offset,← Go.sizeOf f.type):Sem (Nat×Nat))):Sem (Array (Nat×Nat))).run P w= .ok L.toArray w:=by
   rw[Array.mapM_eq_mapM_toList,map_eq_pure_bind]
   simp only[bind,pure,run_bind]at hm ⊢
   rw[hm]
   rfl
  unfold Instr.build
  simp only[bind]at hmA
  simp only[bind,run_bind,hzr,Cv.run_underlying hfs,hmA,hzl,hpa,hf]
  rfl
 ·split at h<;>first|(cases h;done)|skip
  rename_i n e sz hap
  split at h<;>first|(cases h;done)|skip
  rename_i cs hcs
  simp only[Option.some.injEq]at h
  subst h
  obtain⟨i,h1,h2,rfl⟩:=zCz hap
  obtain⟨zs,hf,hzs⟩:=sD hb.2 hcs hp hzv
  refine⟨.agg zs.toArray,by simp only[VR];exact⟨zs,rfl,hzs⟩,fun w=> ?_⟩
  unfold Instr.build
  simp only[bind,run_bind,hzr,Cv.run_underlying h1,run_sizeOf h2,hzl,hf]
  rfl
def lZ (ρ:yY):List (Nat×Operand)→List (Nat×V)
 |[]=>[]
 |(i,x)::l=>(i,sev ρ x)::lZ ρ l
theorem tQ {E:Ev} {ρS:yY} {ρ:Env} (h:EnvR E ρS ρ):∀(l:List (Nat×Operand)),PRL E (lZ ρS l) (l.map fun p=>(p.1,ev ρ p.2))
 |[]=>by simp[lZ,PRL]
 |(i,x)::l=>by simp only[lZ,yVz,PRL];exact⟨_,_,rfl,h.ev x,tQ h l⟩
def dS (P:Program) (t:TypeId):Bool:=
 match P.underlying t with
 |some (.interface _)=>true
 |none=>true
 |_=>false
def yGj:V→Bool
 | .nm _ _=>true
 | .el _ _ _ _=>true
 | .re _ _ _ _=>true
 | .sub _ _=>true
 |_=>false
theorem z2x {E:Ev} {v:V} {y:Value} (hp:yGj v=true) (h:VR E v y):∃a,y= .pointer (some a):=by
 cases v<;>simp only[yGj,yWc]at hp<;>simp only[VR]at h
 ·obtain⟨b,oo,l,h1,rfl⟩:=h;exact⟨_,rfl⟩
 ·obtain⟨b,oo,m,c,l,h1,rfl⟩:=h;exact⟨_,rfl⟩
 ·obtain⟨_,_,b,o,l,T,fr,rfl,_⟩:=h;exact⟨_,rfl⟩
 ·obtain⟨hd,l,b,oo,h1,h2,rfl⟩:=h;exact⟨_,rfl⟩
def zLz (ρ:yY):Option Operand→Option (Option Int)
 |none=>some none
 |some x=>match sev ρ x with
  | .d (.v (.int _ n))=>some (some n)
  |_=>none
def z6b (sz:Nat) (els:List (List D)) (lo hi:Option Int) (K:V→Prop):Prop:=
 match lo,hi with
 |none,none=>K (.d (.ro sz els))
 |some l,none=>(0≤l∧l≤els.length)∧K (.d (.ro sz (els.drop l.toNat)))
 |none,some h=>(0≤h∧h≤els.length)∧K (.d (.ro sz (els.take h.toNat)))
 |some l,some h=>(0≤l∧l≤h∧h≤els.length)∧K (.d (.ro sz ((els.take h.toNat).drop l.toNat)))
def zPe:Operand→Bool
 | .const (.slice none 0 0)=>true
 |_=>false
def zYc (op:BinOp) (els:List (List D)) (K:V→Prop):Prop:=
 ∀b:Bool,(b=true→els=[])→match op with
  | .eql=>K (.d (.v (.bool b)))
  | .neq=>K (.d (.v (.bool !b)))
  |_=>False
def zZv:V→V→Bool
 | .nm n o,.nm m p=>Nat.beq n m && Nat.beq o p
 |_,_=>false
def z3l (P:Program) (t:TypeId):Bool:=
 match P.underlying t with
 |some (.pointer e)=>(sP P e).isSome
 |_=>false
theorem zXr {P:Program} {t:TypeId} (h:z3l P t=true):∃e i,P.underlying t=some (.pointer e)∧P.info? e=some i:=by
 unfold z3l at h
 split at h<;>first|(cases h;done)|skip
 rename_i e he
 unfold sP at h
 split at h<;>first|(cases h;done)|skip
 rename_i i hi
 exact⟨e,i,he,hi⟩
theorem z6z {E:Ev} {u v:V} {x y:Value} (h:zZv u v=true) (hx:VR E u x) (hy:VR E v y):∃a,x= .pointer (some a)∧y= .pointer (some a):=by
 unfold zZv at h
 split at h<;>first|(cases h;done)|skip
 simp only[yVy]at h
 have h1:=yVo h.1
 have h2:=yVo h.2
 subst h1 h2
 simp only[VR]at hx hy
 obtain⟨b,oo,l,e1,rfl⟩:=hx
 obtain⟨b',oo',l',e2,rfl⟩:=hy
 rw[e1]at e2
 cases e2
 exact⟨_,rfl,rfl⟩
theorem zGg {P:Program} {t:TypeId} (h:z3l P t=true) (a:Addr) (w:World):(Op.equal t (.pointer (some a)) (.pointer (some a))).run P w= .ok true w:=by
 obtain⟨e,i,h1,h2⟩:=zXr h
 rw[cY]
 generalize 9999=d
 unfold Op.equalIn
 simp only[bind,pure,Cv.run_bind,Cv.run_underlying h1,Cv.run_sizeOf h2]
 split
 ·simp only[sameAddr,bind,pure,beq_self_eq_true,if_true];rfl
 ·simp only[beq_self_eq_true,if_true];rfl
def mpV (P:Program) (t:TypeId) (v:V) (y:Operand):Bool:=
 match v,y with
 | .mp _,.const (.map none)=>(match P.underlying t with
   |some (.map _ _)=>true
   |_=>false)
 |_,_=>false
theorem yDo {P:Program} {t:TypeId} {v:V} {y:Operand} (h:mpV P t v y=true):(∃n,v= .mp n)∧y= .const (.map none)∧∃a b,P.underlying t=some (.map a b):=by
 unfold mpV at h
 split at h<;>first|(cases h;done)|skip
 rename_i n
 split at h<;>first|(cases h;done)|skip
 rename_i a b hu
 exact⟨⟨n,rfl⟩,rfl,a,b,hu⟩
def sqL (P:Program) (o:Oper) (ρ:yY) (K:V→Prop):Prop:=
 bif zCd o.op then(bif yGt ρ o.op.operands.toList then fW P o (yGw ρ) (fun x=>K (toV x))else False)else False
def sq (P:Program) (o:Oper) (ρ:yY) (K:V→Prop):Prop:=
 match o.op with
 | .move x=>K (sev ρ x)
 | .assign x=>K (sev ρ x)
 | .pick c a b=>match sev ρ c with
   | .d (.v (.bool t))=>cnd t (K (sev ρ a)) (K (sev ρ b))
   |_=>False
 | .nilCheck x=>bif yGj (sev ρ x)then K (sev ρ x)else sqL P o ρ K
 | .fieldAddr s x f=>optK (zJr P s f) fun off=>match sev ρ x with
   | .nm n o=>K (.nm n (o+off))
   | .el n sz i g=>K (.el n sz i (g+off))
   | .re sz els i g=>K (.re sz els i (g+off))
   |_=>False
 | .indexAddr t x i=>match sev ρ i with
   | .d (.v (.int _ i))=>match sev ρ x with
     | .d (.ro sz els)=>optK (gU P t) fun sz'=>bif Nat.beq sz sz' then(0≤i∧i<els.length)∧K (.re sz els i.toNat 0)else False
     | .nm n o=>optK (cA P t) fun ns=>bif Nat.ble 32 ns.1 && Nat.beq ns.2 1 then(0≤i∧i<ns.1)∧K (.na n o i.toNat)else optK (zJl i ns.1) fun j=>K (.nm n (o+j*ns.2))
     | .el n sz k g=>optK (cA P t) fun ns=>optK (zJl i ns.1) fun j=>K (.el n sz k (g+j*ns.2))
     | .re sz els k g=>optK (cA P t) fun ns=>optK (zJl i ns.1) fun j=>K (.re sz els k (g+j*ns.2))
     |_=>False
   |_=>False
 | .index t x i=>match sev ρ x with
   | .agg cs=>match sev ρ i with
     | .d (.v (.int _ i))=>optK (zHh P t) fun ns=>optK (zJl i ns.1) fun j=>optK (z1q P ns.2.1 cs (j*ns.2.2)) K
     |_=>False
   |_=>sqL P o ρ K
 | .field t x f=>match sev ρ x with
   | .agg cs=>optK (zDj P t f) fun fo=>optK (z1q P fo.1 cs fo.2) K
   |_=>False
 | .extract x i=>match sev ρ x with
   | .tup l=>optK l[i]? K
   |_=>False
 | .build t ps=>optK (zZa P t (lZ ρ ps.toList)) K
 | .makeFunc (.func f) a b=>K (.fn f (evs ρ a.toList) (evs ρ b.toList))
 | .makeInterface t x=>bif dS P t then False else K (.ifc t (sev ρ x))
 | .typeAssert x _ a false=>bif dS P a then False else(match sev ρ x with
   | .ifc t v=>bif Nat.beq t a then K v else False
   |_=>False)
 | .typeAssert x _ a true=>bif dS P a then False else(match sev ρ x with
   | .ifc t v=>bif Nat.beq t a then K (.tup [v,.d (.v (.bool true))])else optK (b6 P a) fun z=>K (.tup [toV z,.d (.v (.bool false))])
   | .d (.v .nilIface)=>optK (b6 P a) fun z=>K (.tup [toV z,.d (.v (.bool false))])
   |_=>False)
 | .binOp op t x y _=>bif zZv (sev ρ x) (sev ρ y) && z3l P t then(match op with
    | .eql=>K (.d (.v (.bool true)))
    | .neq=>K (.d (.v (.bool false)))
    |_=>False)else bif mpV P t (sev ρ x) y then(match op with
    | .eql=>K (.d (.v (.bool false)))
    | .neq=>K (.d (.v (.bool true)))
    |_=>False)else bif yGj (sev ρ x) && zRs P t && zKa y then(match op with
    | .eql=>K (.d (.v (.bool false)))
    | .neq=>K (.d (.v (.bool true)))
    |_=>False)else bif zPe y && zBp P t then(match sev ρ x with
     | .d (.ro _ els)=>zYc op els K
     |_=>sqL P o ρ K)else match zLv (sev ρ x)with
    |some (.agg xs)=>match zLv (sev ρ y)with
     |some (.agg ys)=>bif P.eqGuardType P.depth t then False else optK (z7k P t xs.toList ys.toList) fun b=>match op with
      | .eql=>K (.d (.v (.bool b)))
      | .neq=>K (.d (.v (.bool !b)))
      |_=>False
     |_=>False
    |_=>sqL P o ρ K
 | .call c=>match c.callee with
   | .builtin .len=>match evs ρ c.args.toList with
     |[.d (.ro _ els)]=>optK c.argTypes[0]? fun t=>bif zBp P t then K (.d (.v (.int .i64 els.length)))else False
     |_=>sqL P o ρ K
   | .builtin .min=>match evs ρ c.args.toList with
     |[.d (.v (.int k x)),.d (.v (.int _ y))]=>K (.d (.v (.int k (min x y))))
     |[.d (.v (.int k x)),.d (.v (.int _ y)),.d (.v (.int _ z))]=>K (.d (.v (.int k (min (min x y) z))))
     |_=>sqL P o ρ K
   |_=>sqL P o ρ K
 | .slice t x lo hi none=>match sev ρ x with
   | .d (.ro sz els)=>optK (gU P t) fun sz'=>bif Nat.beq sz sz' then zGn (zLz ρ lo) (zLz ρ hi) fun l h=>z6b sz els l h K else False
   |_=>sqL P o ρ K
 | .unOp _ _ _=>sqL P o ρ K
 | .convert _ _ _=>sqL P o ρ K
 |_=>False
theorem gS {b:Bool} {A B:Prop} (h:bif b then A else B):(b=true∧A)∨(b=false∧B):=by
 cases b
 ·exact .inr ⟨rfl,h⟩
 ·exact .inl ⟨rfl,h⟩
theorem z3p {b:Bool} {A B:Prop} (h:cnd b A B):(b=true∧A)∨(b=false∧B):=by
 cases b
 ·exact .inr ⟨rfl,h⟩
 ·exact .inl ⟨rfl,h⟩
def yNm (P:Program) (E:Ev) (o:Oper) (ρ:Env) (K:V→Prop):Prop:=∃v y,K v∧VR E v y∧zKq P (execOp (ev ρ) o) y
theorem wP {P:Program} {E:Ev} {ρS:yY} {ρ:Env} (he:EnvR E ρS ρ) {o:Oper} {K:V→Prop} (h:sqL P o ρS K):yNm P E o ρ K:=by
 unfold sqL at h
 obtain⟨hp,h⟩:=zP h
 obtain⟨hl,h⟩:=zP h
 obtain⟨y,hk,hf⟩:=hD h
 exact⟨_,y,hk,zHn E y,by rw[← z5c hp (z1a he hl)];exact hf⟩
theorem VR.intv {E:Ev} {k:IntKind} {i:Int} {y:Value} (h:VR E (.d (.v (.int k i))) y):y= .int k i:=by
 simp only[VR,DR]at h;exact h.1
theorem jF {E:Ev} {x:Value} (h:x.oneC=true):VR E (.d (.v x)) x:=by
 simp only[VR,DR];exact⟨trivial,h⟩
theorem gF {E:Ev} {ρS:yY} {ρ:Env} (he:EnvR E ρS ρ) {x:Option Operand} {r:Option Int} (h:zLz ρS x=some r):bnd ρ x=some r:=by
 cases x with
 |none=>exact h
 |some x=>
  simp only[zLz]at h
  split at h<;>first|(cases h;done)|skip
  rename_i k n hx
  have:=he.ev x
  rw[hx]at this
  simp only[bnd,this.intv]
  exact h
theorem DR.ro_sl {F:PH} {sz lo hi:Nat} {els:List (List D)} {a:Option Addr} {c:Nat} (h:DR F (.ro sz els) (.slice a els.length c)) (h1:lo≤hi) (h2:hi≤els.length):
 DR F (.ro sz ((els.take hi).drop lo)) (.slice (if c=lo then a else a.map (·.add (lo*sz))) (hi-lo) (c-lo)):=by
 simp only[DR]at h ⊢
 obtain⟨a',c',e,hc,hs,hm⟩:=h
 cases e
 have hlen:((els.take hi).drop lo).length=hi-lo:=by rw[yWh,yWe];omega
 refine⟨_,c-lo,by rw[hlen],by rw[hlen];omega,fun el hel=>hs el (yZy (yYy hel)),?_⟩
 by_cases h0:lo=hi
 ·left
  exact yWl (by omega)
 ·right
  rcases hm with hm|⟨b,o,l,T,fr,rfl,h4,h5⟩
  ·subst hm;simp at h2;omega
  ·refine⟨b,o+lo*sz,l,T,fr,?_,h4,?_⟩
   ·rw[yVj (by omega)];simp[uJ]
   ·obtain⟨xs,r,e,hx⟩:=DRS_iff.1 h5
    refine DRS_iff.2 ⟨(xs.drop (lo*sz)).take ((hi-lo)*sz),(xs.drop (lo*sz)).drop ((hi-lo)*sz)++r,?_,?_⟩
    ·rw[← yVq,yXw,← yYu,e,yYd]
     rw[hx.length,wN hs]
     exact yXm _ (by omega)
    ·have:=(hx.drop (lo*sz)).take ((hi-lo)*sz)
     rw[aO lo hs,aM (hi-lo) (fun el hel=>hs el (yYy hel)),List.take_drop]at this
     rw[show lo+(hi-lo)=hi by omega]at this
     exact this
theorem DR.ro_cut {F:PH} {sz:Nat} {els:List (List D)} {y:Value} (h:DR F (.ro sz els) y) {lo hi:Option Int} {K:V→Prop} (hk:z6b sz els lo hi K):
 ∃a c v,y= .slice a els.length c∧K v∧slN a els.length c lo hi sz fun p n c=>∀E:Ev,E.F=F→VR E v (.slice p n c):=by
 have h0:=h
 simp only[DR]at h0
 obtain⟨a,c,rfl,hc,_⟩:=h0
 unfold z6b at hk
 split at hk
 ·exact⟨a,c,_,rfl,hk,by simp only[slN];exact⟨hc,fun E hE=>by subst hE;simpa only[VR]using h⟩⟩
 ·rename_i l
  obtain⟨⟨h1,h2⟩,hk⟩:=hk
  refine⟨a,c,_,rfl,hk,?_⟩
  simp only[slN]
  refine⟨⟨h1,h2,hc⟩,fun E hE=> ?_⟩
  subst hE
  have:=h.ro_sl (lo:=l.toNat) (hi:=els.length) (by omega) (yWj _)
  rw[yVx (yWj _)]at this
  simpa only[VR]using this
 ·rename_i u
  obtain⟨⟨h1,h2⟩,hk⟩:=hk
  refine⟨a,c,_,rfl,hk,?_⟩
  simp only[slN]
  refine⟨⟨h1,by omega⟩,fun E hE=> ?_⟩
  subst hE
  have:=h.ro_sl (lo:=0) (hi:=u.toNat) (by omega) (by omega)
  simp only[Nat.zero_mul,pC,ite_self,Nat.sub_zero,yYs]at this
  simpa only[VR]using this
 ·rename_i l u
  obtain⟨⟨h1,h2,h3⟩,hk⟩:=hk
  refine⟨a,c,_,rfl,hk,?_⟩
  simp only[slN]
  refine⟨⟨h1,h2,by omega⟩,fun E hE=> ?_⟩
  subst hE
  have:=h.ro_sl (lo:=l.toNat) (hi:=u.toNat) (by omega) (by omega)
  simpa only[VR]using this
theorem zSx {p:Option Addr} {n c:Nat} {lo hi:Option Int} {sz:Nat} {K K':Option Addr→Nat→Nat→Prop} (h:∀p n c,K p n c→K' p n c) (hk:slN p n c lo hi sz K):slN p n c lo hi sz K':=by
 unfold slN at*
 cases lo<;>cases hi<;>exact⟨hk.1,h _ _ _ hk.2⟩
theorem zIv {P:Program} {t:TypeId} (h:zRs P t=true) (a:Addr):fD P t (.pointer (some a))=some false:=by
 obtain⟨e,he⟩:=zTh h
 unfold fD;rw[he];rfl
theorem z6v {y:Operand} (h:zKa y=true):y= .const (.pointer none):=by
 unfold zKa at h;split at h
 ·rfl
 ·cases h
theorem zKz {P:Program} {E:Ev} {ρ:Env} {o:Oper} {op:BinOp} {t u:TypeId} {x y:Operand} {els:List (List D)} {K:V→Prop} {a:Option Addr} {n c:Nat} (ho:o.op= .binOp op t x y u) (hy:zPe y=true) (ht:zBp P t=true)
 (hx:ev ρ x= .slice a n c) (ha:a=none→els=[]) (h:zYc op els K):yNm P E o ρ K:=by
 have hy':y= .const (.slice none 0 0):=by
  unfold zPe at hy;split at hy
  ·rfl
  ·cases hy
 subst hy'
 obtain⟨e,he⟩:=pF ht
 have hn:fD P t (.slice a n c)=some a.isNone:=by unfold fD;rw[he]
 have hk:=h a.isNone (fun hb=>ha (by simpa using hb))
 split at hk<;>first|exact hk.elim|skip
 ·refine⟨_,.bool a.isNone,hk,jF rfl,?_⟩
  have:=xG (P:=P) (neg:=false) (r:=a.isNone) (ρ:=ρ) ho (by rw[hx];trivial) trivial (fun w=>by rw[hx];exact yX trivial w) (fun w=>by rw[hx];exact uT hn w)
  simpa using this
 ·refine⟨_,.bool (!a.isNone),hk,jF rfl,?_⟩
  have:=xG (P:=P) (neg:=true) (r:=a.isNone) (ρ:=ρ) ho (by rw[hx];trivial) trivial (fun w=>by rw[hx];exact yX trivial w) (fun w=>by rw[hx];exact uT hn w)
  simpa using this
theorem zTb {P:Program} {E:Ev} {ρS:yY} {ρ:Env} (he:EnvR E ρS ρ) {o:Oper} {K:V→Prop} (h:sq P o ρS K):yNm P E o ρ K:=by
 cases ho:o.op
 case move x=>simp only[sq,ho]at h;exact⟨_,_,h,he.ev x,fun w=>by simp only[execOp,ho];rfl⟩
 case assign x=>simp only[sq,ho]at h;exact⟨_,_,h,he.ev x,fun w=>by simp only[execOp,ho];rfl⟩
 case pick c a b=>
  simp only[sq,ho]at h
  split at h<;>first|exact h.elim|skip
  rename_i t hc
  have hv:=he.ev c
  rw[hc]at hv
  simp only[VR,DR]at hv
  rcases z3p h with⟨rfl,h⟩|⟨rfl,h⟩
  ·exact⟨_,_,h,he.ev a,fun w=>by simp only[execOp,ho,hv.1,asBool,bind,pure,Sem.bind,Sem.run];rfl⟩
  ·exact⟨_,_,h,he.ev b,fun w=>by simp only[execOp,ho,hv.1,asBool,bind,pure,Sem.bind,Sem.run];rfl⟩
 case nilCheck x=>
  simp only[sq,ho]at h
  rcases gS h with⟨hp,h⟩|⟨_,h⟩
  ·obtain⟨a,ha⟩:=z2x hp (he.ev x)
   exact⟨_,_,h,he.ev x,fun w=>by simp only[execOp,ho,ha];rfl⟩
  ·exact wP he h
 case fieldAddr s x f=>
  simp only[sq,ho]at h
  obtain⟨off,hf,h⟩:=zM h
  obtain⟨fs,fd,i,h1,h2,h3,h4,rfl⟩:=zMa hf
  have hv:=he.ev x
  have run:∀b oo,ev ρ x= .pointer (some ⟨b,oo,none⟩)→zKq P (execOp (ev ρ) o) (.pointer (some ⟨b,oo+fd.offset,none⟩)):=by
   intro b oo hx
   simp only[execOp,ho,hx]
   refine z6 fun w=> ?_
   simp only[Instr.fieldAt,Instr.sureAddr,fieldPlace,bind,pure,run_bind,Sem.bind,Sem.run,Cv.run_underlying h1,h2,run_sizeOf h3,yVj h4,uJ]
  split at h<;>first|exact h.elim|skip
  ·rename_i n o' hx
   rw[hx]at hv;simp only[VR]at hv
   obtain⟨b,oo,l,e1,e2⟩:=hv
   exact⟨_,_,h,by simp only[VR];exact⟨b,oo,l,e1,rfl⟩,by have:=run _ _ e2;rw[yZf]at this;exact this⟩
  ·rename_i n sz i g hx
   rw[hx]at hv;simp only[VR]at hv
   obtain⟨b,oo,m,c,l,e1,e2⟩:=hv
   exact⟨_,_,h,by simp only[VR];exact⟨b,oo,m,c,l,e1,rfl⟩,by have:=run _ _ e2;rw[yZf _ g]at this;exact this⟩
  ·rename_i sz els i g hx
   rw[hx]at hv;simp only[VR]at hv
   obtain⟨e0,e1,b,oo,l,T,fr,e2,e3,e4⟩:=hv
   exact⟨_,_,h,by simp only[VR];exact⟨e0,e1,b,oo,l,T,fr,rfl,e3,e4⟩,by have:=run _ _ e2;rw[yZf _ g]at this;exact this⟩
 case indexAddr t x i=>
  simp only[sq,ho]at h
  split at h<;>first|exact h.elim|skip
  rename_i k i' hi
  have hiv:=he.ev i
  rw[hi]at hiv
  have hiv:=hiv.intv
  have hv:=he.ev x
  have arr:∀{b oo:Nat} {ns:Nat×Nat} {j:Nat},cA P t=some ns→zJl i' ns.1=some j→ev ρ x= .pointer (some ⟨b,oo,none⟩)→zKq P (execOp (ev ρ) o) (.pointer (some ⟨b,oo+j*ns.2,none⟩)):=by
   intro b oo ns j hsz hj hx
   obtain⟨rfl,hlt⟩:=zId hj
   simp only[execOp,ho,hx,hiv]
   refine z6 fun w=> ?_
   rw[gO hsz ⟨by omega,by omega⟩,uJ]
   simp
  split at h<;>first|exact h.elim|skip
  ·rename_i sz els hx
   obtain⟨sz',hs,h⟩:=zM h
   obtain⟨hb,⟨h0,h1⟩,hk⟩:=zP h
   have:=yVo hb
   subst this
   rw[hx]at hv;simp only[VR,DR]at hv
   obtain⟨a,c,e1,e2,e3,e4⟩:=hv
   rcases e4 with e4|⟨b,oo,l,T,fr,rfl,e5,e6⟩
   ·subst e4;simp at h1;omega
   refine⟨_,.pointer (some ⟨b,oo+i'.toNat*sz,none⟩),hk,?_,?_⟩
   ·simp only[VR];exact⟨by omega,e3,b,oo,l,T,fr,rfl,e5,e6⟩
   ·simp only[execOp,ho,e1,hiv]
    refine z6 fun w=> ?_
    rw[vB hs ⟨h0,by omega⟩,uJ]
  ·rename_i n o' hx
   obtain⟨ns,hs,h⟩:=zM h
   rcases gS h with⟨hb,⟨h0,h1⟩,h⟩|⟨_,h⟩
   ·simp only[yVy]at hb
    have hb2:=yVo hb.2
    rw[hx]at hv;simp only[VR]at hv
    obtain⟨b,oo,l,e1,e2⟩:=hv
    refine⟨_,.pointer (some ⟨b,oo+(o'+i'.toNat),none⟩),h,by simp only[VR];exact⟨b,oo,l,e1,rfl⟩,?_⟩
    simp only[execOp,ho,e2,hiv]
    refine z6 fun w=> ?_
    rw[gO hs ⟨h0,h1⟩,uJ,hb2,Nat.mul_one,yZf]
   obtain⟨j,hj,h⟩:=zM h
   rw[hx]at hv;simp only[VR]at hv
   obtain⟨b,oo,l,e1,e2⟩:=hv
   exact⟨_,_,h,by simp only[VR];exact⟨b,oo,l,e1,rfl⟩,by have:=arr hs hj e2;rw[yZf]at this;exact this⟩
  ·rename_i n sz i g hx
   obtain⟨ns,hs,h⟩:=zM h
   obtain⟨j,hj,h⟩:=zM h
   rw[hx]at hv;simp only[VR]at hv
   obtain⟨b,oo,m,c,l,e1,e2⟩:=hv
   exact⟨_,_,h,by simp only[VR];exact⟨b,oo,m,c,l,e1,rfl⟩,by have:=arr hs hj e2;rw[yZf _ g]at this;exact this⟩
  ·rename_i sz els i g hx
   obtain⟨ns,hs,h⟩:=zM h
   obtain⟨j,hj,h⟩:=zM h
   rw[hx]at hv;simp only[VR]at hv
   obtain⟨e0,e1,b,oo,l,T,fr,e2,e3,e4⟩:=hv
   exact⟨_,_,h,by simp only[VR];exact⟨e0,e1,b,oo,l,T,fr,rfl,e3,e4⟩,by have:=arr hs hj e2;rw[yZf _ g]at this;exact this⟩
 case index t x i=>
  simp only[sq,ho]at h
  split at h
  ·rename_i cs hx
   split at h<;>first|exact h.elim|skip
   rename_i k i' hi
   obtain⟨⟨n,e,sz⟩,hs,h⟩:=zM h
   obtain⟨j,hj,h⟩:=zM h
   obtain⟨v,hp,hk⟩:=zM h
   have hiv:=he.ev i
   rw[hi]at hiv
   have hiv:=hiv.intv
   have hv:=he.ev x
   rw[hx]at hv;simp only[VR]at hv
   obtain⟨ys,e1,e2⟩:=hv
   obtain⟨y,hy,hr⟩:=zFt e2 hp
   obtain⟨rfl,hlt⟩:=zId hj
   obtain⟨inf,q1,q2,q3⟩:=zCz hs
   refine⟨v,y,hk,hy,?_⟩
   simp only[execOp,ho,e1,hiv]
   refine z6 fun w=> ?_
   have hb:(0:Int)≤(j:Int)∧(j:Int)<n:=⟨by omega,by omega⟩
   simp only[Instr.index,asIntOf,bind,pure,run_bind,Sem.bind,Sem.run,Cv.run_underlying q1,yVl hb,run_sizeOf q2,q3]
   exact hr w
  ·exact wP he h
 case field t x f=>
  simp only[sq,ho]at h
  split at h<;>first|exact h.elim|skip
  rename_i cs hx
  obtain⟨⟨ft,off⟩,hf,h⟩:=zM h
  obtain⟨v,hp,hk⟩:=zM h
  have hv:=he.ev x
  rw[hx]at hv;simp only[VR]at hv
  obtain⟨ys,e1,e2⟩:=hv
  obtain⟨y,hy,hr⟩:=zFt e2 hp
  obtain⟨fs,fd,h1,h2,rfl,rfl⟩:=zKp hf
  refine⟨v,y,hk,hy,?_⟩
  simp only[execOp,ho,e1]
  refine z6 fun w=> ?_
  simp only[Instr.field,asAgg,bind,pure,run_bind,Sem.bind,Sem.run,Cv.run_underlying h1,h2]
  exact hr w
 case extract x i=>
  simp only[sq,ho]at h
  split at h<;>first|exact h.elim|skip
  rename_i l hx
  obtain⟨v,hl,h⟩:=zM h
  have hv:=he.ev x
  rw[hx]at hv;simp only[VR]at hv
  obtain⟨ys,e1,e2⟩:=hv
  obtain⟨y,hy,hr⟩:=e2.get hl
  refine⟨v,y,h,hr,?_⟩
  simp only[execOp,ho,e1]
  refine z6 fun w=> ?_
  have:ys.toArray[i]? =some y:=by simp[hy]
  simp only[Instr.extract,this]
  rfl
 case build t ps=>
  simp only[sq,ho]at h
  obtain⟨v,hb,h⟩:=zM h
  obtain⟨y,hy,hr⟩:=zRx (tQ he ps.toList) hb
  refine⟨v,y,h,hy,?_⟩
  simp only[execOp,ho]
  refine z6 fun w=> ?_
  have:(ps.map fun(i,x)=>(i,ev ρ x))=(ps.toList.map fun p=>(p.1,ev ρ p.2)).toArray:=by
   apply Array.ext'
   simp
  rw[this]
  exact hr w
 case makeFunc fn a b=>
  cases fn<;>simp only[sq,ho]at h
  rename_i f
  obtain⟨as,e1,e2⟩:=dW he a
  obtain⟨bs,e3,e4⟩:=dW he b
  refine⟨_,.func (.func f) as.toArray bs.toArray,h,by simp only[VR];exact⟨as,bs,rfl,e2,e4⟩,?_⟩
  simp only[execOp,ho,e1,e3]
  exact z6 fun w=>rfl
 case makeInterface t x=>
  simp only[sq,ho]at h
  obtain⟨hb,h⟩:dS P t=false∧K (.ifc t (sev ρS x)):=by
   revert h;cases dS P t<;>intro h
   ·exact⟨rfl,h⟩
   ·exact h.elim
  refine⟨_,.iface t (ev ρ x),h,by simp only[VR];exact⟨_,rfl,he.ev x⟩,?_⟩
  simp only[execOp,ho]
  refine z6 fun w=> ?_
  unfold dS at hb
  cases hd:P.underlying t with
  |none=>rw[hd]at hb;cases hb
  |some d=>
   rw[hd]at hb
   unfold Instr.makeInterface
   simp only[bind,run_bind,Cv.run_underlying hd]
   cases d<;>first|rfl|cases hb
 case typeAssert x xt a ok=>
  cases ok with
  |true=>
   simp only[sq,ho]at h
   obtain⟨hb,h⟩:dS P a=false∧(match sev ρS x with
    | .ifc t v=>bif Nat.beq t a then K (.tup [v,.d (.v (.bool true))])else optK (b6 P a) fun z=>K (.tup [toV z,.d (.v (.bool false))])
    | .d (.v .nilIface)=>optK (b6 P a) fun z=>K (.tup [toV z,.d (.v (.bool false))])
    |_=>False):=by
    revert h;cases dS P a<;>intro h
    ·exact⟨rfl,h⟩
    ·exact h.elim
   have hne:∃d,P.underlying a=some d∧∀ms,d≠.interface ms:=by
    unfold dS at hb
    split at hb<;>first|(cases hb;done)|skip
    rename_i hne1 hne2
    cases hu:P.underlying a with
    |none=>exact absurd hu hne2
    |some d=>exact⟨d,rfl,fun ms e=>hne1 ms (by rw[hu,e])⟩
   obtain⟨d,hu,hd⟩:=hne
   have hfail:∀z,b6 P a=some z→VR E (.tup [toV z,.d (.v (.bool false))]) (.tuple #[z,.bool false]):=fun z hz=>by
    simp only[VR,VRL,DR]
    exact⟨[z,.bool false],rfl,_,_,rfl,zHn E z,_,_,rfl,⟨rfl,rfl⟩,rfl⟩
   split at h<;>first|exact h.elim|skip
   ·rename_i t v hx
    have hv:=he.ev x
    rw[hx]at hv
    simp only[VR]at hv
    obtain⟨z,e1,e2⟩:=hv
    rcases gS h with⟨ht,hk⟩|⟨ht,hk⟩
    ·have:=yVo ht
     subst this
     refine⟨_,.tuple #[z,.bool true],hk,?_,?_⟩
     ·simp only[VR,VRL,DR]
      exact⟨[z,.bool true],rfl,_,_,rfl,e2,_,_,rfl,⟨rfl,rfl⟩,rfl⟩
     ·simp only[execOp,ho,e1]
      refine z6 fun w=> ?_
      simp only[Instr.typeAssert,bind,run_bind,Cv.run_underlying hu]
      cases d<;>first|rfl|exact absurd rfl (hd _)|(simp only[if_true];rfl)
    ·obtain⟨z0,hz,hk⟩:=zM hk
     have hta:¬t=a:=fun e=>by subst e;rw[Nat.beq_refl]at ht;cases ht
     refine⟨_,.tuple #[z0,.bool false],hk,hfail z0 hz,?_⟩
     simp only[execOp,ho,e1]
     refine z6 fun w=> ?_
     simp only[Instr.typeAssert,bind,run_bind,Cv.run_underlying hu]
     cases d<;>first|exact absurd rfl (hd _)|(simp only[yVj hta,if_true,bind,run_bind,Cv.zero_run (fT hz) w];rfl)
   ·rename_i hx
    have hv:=he.ev x
    rw[hx]at hv
    simp only[VR,DR]at hv
    obtain⟨z0,hz,hk⟩:=zM h
    refine⟨_,.tuple #[z0,.bool false],hk,hfail z0 hz,?_⟩
    simp only[execOp,ho,hv.1]
    refine z6 fun w=> ?_
    simp only[Instr.typeAssert,bind,run_bind,Cv.run_underlying hu]
    cases d<;>first|exact absurd rfl (hd _)|(simp only[if_true,bind,run_bind,Cv.zero_run (fT hz) w];rfl)
  |false=>
   simp only[sq,ho]at h
   obtain⟨hb,h⟩:dS P a=false∧(match sev ρS x with
    | .ifc t v=>bif Nat.beq t a then K v else False
    |_=>False):=by
    revert h;cases dS P a<;>intro h
    ·exact⟨rfl,h⟩
    ·exact h.elim
   split at h<;>first|exact h.elim|skip
   rename_i t v hx
   obtain⟨ht,hk⟩:=zP h
   have:=yVo ht
   subst this
   have hv:=he.ev x
   rw[hx]at hv
   simp only[VR]at hv
   obtain⟨z,e1,e2⟩:=hv
   refine⟨v,z,hk,e2,?_⟩
   simp only[execOp,ho,e1]
   refine z6 fun w=> ?_
   unfold dS at hb
   split at hb<;>first|(cases hb;done)|skip
   rename_i hne1 hne2
   cases hu:P.underlying t with
   |none=>exact absurd hu hne2
   |some d=>
    simp only[Instr.typeAssert,bind,run_bind,Cv.run_underlying hu]
    cases d<;>first|rfl|exact absurd hu (hne1 _)|(simp only[if_true];rfl)
 case binOp op t x y u=>
  simp only[sq,ho]at h
  rcases gS h with⟨hp,hk⟩|⟨_,h⟩
  ·simp only[yVy]at hp
   obtain⟨a,hx,hy⟩:=z6z hp.1 (he.ev x) (he.ev y)
   clear h
   split at hk<;>first|exact hk.elim|skip
   ·refine⟨_,.bool true,hk,jF rfl,?_⟩
    have:=xG (P:=P) (neg:=false) (r:=true) (ρ:=ρ) ho (by rw[hx];trivial) (by rw[hy];trivial) (fun w=>by rw[hx,hy];exact yX trivial w) (fun w=>by rw[hx,hy];exact zGg hp.2 a w)
    simpa using this
   ·refine⟨_,.bool false,hk,jF rfl,?_⟩
    have:=xG (P:=P) (neg:=true) (r:=true) (ρ:=ρ) ho (by rw[hx];trivial) (by rw[hy];trivial) (fun w=>by rw[hx,hy];exact yX trivial w) (fun w=>by rw[hx,hy];exact zGg hp.2 a w)
    simpa using this
  rcases gS h with⟨hp,hk⟩|⟨_,h⟩
  ·obtain⟨⟨n,hx⟩,rfl,ka,kb,hu⟩:=yDo hp
   have hv:=he.ev x
   rw[hx]at hv
   simp only[VR]at hv
   obtain⟨b,l,_,ha⟩:=hv
   have hr:fD P t (.map (some b))=some false:=by simp[fD,hu]
   clear h
   split at hk<;>first|exact hk.elim|skip
   ·refine⟨_,.bool false,hk,jF rfl,?_⟩
    have:=xG (P:=P) (neg:=false) (r:=false) (ρ:=ρ) ho (by rw[ha];trivial) trivial (fun w=>by rw[ha];exact yX trivial w) (fun w=>by rw[ha];exact dC hr w)
    simpa using this
   ·refine⟨_,.bool true,hk,jF rfl,?_⟩
    have:=xG (P:=P) (neg:=true) (r:=false) (ρ:=ρ) ho (by rw[ha];trivial) trivial (fun w=>by rw[ha];exact yX trivial w) (fun w=>by rw[ha];exact dC hr w)
    simpa using this
  rcases gS h with⟨hp,hk⟩|⟨_,h⟩
  ·simp only[yVy]at hp
   obtain⟨⟨hp1,hp2⟩,hp3⟩:=hp
   obtain⟨a,ha⟩:=z2x hp1 (he.ev x)
   have hy:=z6v hp3
   subst hy
   clear h
   split at hk<;>first|exact hk.elim|skip
   ·refine⟨_,.bool false,hk,jF rfl,?_⟩
    have:=xG (P:=P) (neg:=false) (r:=false) (ρ:=ρ) ho (by rw[ha];trivial) trivial (fun w=>by rw[ha];exact yX trivial w) (fun w=>by rw[ha];exact dD (zIv hp2 a) w)
    simpa using this
   ·refine⟨_,.bool true,hk,jF rfl,?_⟩
    have:=xG (P:=P) (neg:=true) (r:=false) (ρ:=ρ) ho (by rw[ha];trivial) trivial (fun w=>by rw[ha];exact yX trivial w) (fun w=>by rw[ha];exact dD (zIv hp2 a) w)
    simpa using this
  ·rcases gS h with⟨hp,hk⟩|⟨_,h⟩
   ·simp only[yVy]at hp
    clear h
    split at hk
    ·rename_i sz els hx
     have hv:=he.ev x
     rw[hx]at hv;simp only[VR,DR]at hv
     obtain⟨a,c,e1,_,_,e4⟩:=hv
     exact zKz ho hp.1 hp.2 e1 (fun ha=>by
      rcases e4 with e4|⟨_,_,_,_,_,e5,_⟩
      ·exact e4
      ·rw[ha]at e5;cases e5) hk
    ·exact wP he hk
   ·split at h
    ·rename_i xs hxs
     split at h<;>first|exact h.elim|skip
     rename_i ys hys
     rcases gS h with⟨_,hk⟩|⟨hgt,hk⟩
     ·exact hk.elim
     clear h
     obtain⟨b,hb,hk⟩:=zM hk
     have ex:=nA hxs (he.ev x)
     have ey:=nA hys (he.ev y)
     have hrun:=fun w=>z5k (P:=P) hb w
     simp only[y0u]at hrun
     have hg:∀(op:BinOp) w,(eqGuard op t x y (.agg xs) (.agg ys)).run P w= .ok () w:=by
      intro op w
      unfold eqGuard
      cases op<;>first|rfl|(simp[bind,pure,run_bind,program,Sem.run,Sem.bind,hgt])
     split at hk<;>first|exact hk.elim|skip
     ·refine⟨_,.bool b,hk,jF rfl,?_⟩
      have:=xG (P:=P) (neg:=false) (r:=b) (ρ:=ρ) ho (by rw[ex];trivial) (by rw[ey];trivial) (fun w=>by rw[ex,ey];exact hg _ w) (fun w=>by rw[ex,ey];exact hrun w)
      simpa using this
     ·refine⟨_,.bool (!b),hk,jF rfl,?_⟩
      have:=xG (P:=P) (neg:=true) (r:=b) (ρ:=ρ) ho (by rw[ex];trivial) (by rw[ey];trivial) (fun w=>by rw[ex,ey];exact hg _ w) (fun w=>by rw[ex,ey];exact hrun w)
      simpa using this
    ·exact wP he h
 case call c=>
  simp only[sq,ho]at h
  split at h
  ·rename_i hc
   split at h
   ·rename_i sz els hargs
    obtain⟨t,ht,h⟩:=zM h
    obtain⟨hs,h⟩:=zP h
    obtain⟨ys,e1,e2⟩:=dW he c.args
    rw[hargs]at e2
    simp only[VRL,VR,DR]at e2
    obtain⟨y,_,rfl,⟨a,k,rfl,_⟩,rfl⟩:=e2
    refine⟨_,.int .i64 els.length,h,jF rfl,?_⟩
    rw[jC ho hc,e1]
    obtain⟨e,hse⟩:=pF hs
    refine z6 fun w=> ?_
    simp only[Builtin.len_,ht,yXh,yXn,bind,run_bind,Cv.run_underlying hse]
    rfl
   ·exact wP he h
  ·rename_i hc
   split at h
   ·rename_i kk x k2 y hargs
    obtain⟨ys,e1,e2⟩:=dW he c.args
    rw[hargs]at e2
    simp only[VRL,VR,DR]at e2
    obtain⟨_,_,rfl,⟨rfl,_⟩,_,_,rfl,⟨rfl,_⟩,rfl⟩:=e2
    refine⟨_,.int kk (min x y),h,jF rfl,?_⟩
    rw[jC ho hc,e1]
    refine z6 fun w=> ?_
    rw[show min x y=if y<x then y else x by rw[Int.min_def];split<;>split<;>omega]
    apply run_min_int2
   ·rename_i kk x k2 y k3 z hargs
    obtain⟨ys,e1,e2⟩:=dW he c.args
    rw[hargs]at e2
    simp only[VRL,VR,DR]at e2
    obtain⟨_,_,rfl,⟨rfl,_⟩,_,_,rfl,⟨rfl,_⟩,_,_,rfl,⟨rfl,_⟩,rfl⟩:=e2
    refine⟨_,.int kk (min (min x y) z),h,jF rfl,?_⟩
    rw[jC ho hc,e1]
    refine z6 fun w=> ?_
    rw[show min (min x y) z=if z<(if y<x then y else x)then z else(if y<x then y else x)by rw[Int.min_def,Int.min_def];repeat' split<;>omega]
    apply run_min_int3
   ·exact wP he h
  ·exact wP he h
 case slice t x lo hi mx=>
  cases mx with
  |some m=>simp only[sq,ho]at h
  |none=>
   simp only[sq,ho]at h
   split at h
   ·rename_i sz els hx
    obtain⟨sz',hs,h⟩:=zM h
    obtain⟨hb,hh⟩:=zP h
    have:=yVo hb
    subst this
    obtain⟨l,u,h1,h2,hh⟩:=aW hh
    have hv:=he.ev x
    rw[hx]at hv;simp only[VR]at hv
    obtain⟨a,c,v,e1,hk,hsl⟩:=hv.ro_cut hh
    have hp:fW P o ρ (fun y=>VR E v y):=by
     simp only[fW,ho,e1,hs,gF he h1,gF he h2,zGn]
     exact zSx (fun p n c hh=>hh E rfl) hsl
    obtain⟨y,hy,hf⟩:=hD hp
    exact⟨v,y,hk,hy,hf⟩
   ·exact wP he h
 case unOp op t x=>simp only[sq,ho]at h;exact wP he h
 case convert s d x=>simp only[sq,ho]at h;exact wP he h
 all_goals(simp only[sq,ho]at h)
end Sx
namespace Cv
set_option linter.unusedSimpArgs false
set_option linter.unusedVariables false
open Go Go.RowKit
theorem z5l {φ:Phi} {b:Nat} {xs:List V} {t:TypeId} {opn:Option Nat} {O:Obj} (h:coT φ b (.cells xs t opn) O):∃r,O= .cells (cvl φ xs++r).toArray t∧(∀sz,opn=some sz→xs.length+r.length=(φ b).2*sz)∧(opn=none→r=[]):=by
 cases opn with
 |none=>
  have h':O= .cells (cvl φ xs).toArray t:=h
  exact⟨[],by rw[h',yWg],by simp,fun _=>rfl⟩
 |some sz=>
  obtain⟨r,h1,h2⟩:=h
  exact⟨r,h1,fun s hs=>(by cases hs;exact h2),by simp⟩
theorem Rel.cells {φ:Phi} {s:St} {w:World} (R:Rel φ s w) {b:Nat} {xs:List V} {t:TypeId} {opn:Option Nat} (h:s.get b=some (.cells xs t opn)):
 ∃r,w.heap[(φ b).1]? =some (.cells (cvl φ xs++r).toArray t)∧(∀sz,opn=some sz→xs.length+r.length=(φ b).2*sz)∧(opn=none→r=[]):=by
 obtain⟨O,h1,h2⟩:=R.obj b _ h
 obtain⟨r,rfl,h3,h4⟩:=z5l h2
 exact⟨r,h1,h3,h4⟩
theorem v8 {P:Program} {t k e:TypeId} (h:zLu P t=some (k,e)):P.underlying t=some (.map k e):=by
 unfold zLu at h
 split at h
 ·simp only[Option.some.injEq,Prod.mk.injEq]at h
  obtain⟨rfl,rfl⟩:=h
  assumption
 ·cases h
theorem qC {P:Program} {w:World} {r:Nat} {O:Obj} (h:w.heap[r]? =some O) (hO:match O with| .cells _ _ _=>False|_=>True):(getObj r).run P w= .ok O w:=by
 simp only[getObj,Sem.run,h]
 cases O<;>first|exact hO.elim|rfl
theorem z5d {P:Program} {t:TypeId} (h:yAm P t=true):∃e,P.underlying t=some (.slice e)∧P.underlying e=some (.int .u8):=by
 unfold yAm at h
 split at h<;>first|(cases h;done)|skip
 rename_i e he
 split at h<;>first|(cases h;done)|skip
 exact⟨e,he,by assumption⟩
theorem zAu {P:Program} (w:World) {F:Value→ByteArray→Sem (ForInStep ByteArray)} (hF:∀(n:Nat) (s:ByteArray),F (.int .u8 (n:Int)) s= .pure (.yield (s.push (UInt8.ofNat n)))):∀(l:List Nat) (acc:ByteArray),
 ((forIn (l.map fun(n:Nat)=>Value.int .u8 (n:Int)) acc F):Sem ByteArray).run P w= .ok (acc++bs l) w
 |[],acc=>by
  have:acc++bs []=acc:=by apply ByteArray.ext;simp[bs]
  rw[this]
  rfl
 |n::l,acc=>by
  have ih:=zAu (P:=P) w hF l (acc.push (UInt8.ofNat n))
  simp only[yVz,List.forIn_cons,bind,hF,Sem.bind]
  rw[ih]
  congr 1
  apply ByteArray.ext
  simp[bs,Nat.toUInt8]
end Cv
namespace Sx
set_option linter.unusedSimpArgs false
set_option linter.unusedVariables false
open Go Go.RowKit Cv
theorem Rel.focus {k:Ko} {L:List HP} {E:Ev} {s:St} {w:World} (R:Rel k L E s w) {n:Nat} {o:AObj} (h:s.get n=some o):
 Hp k w (rHP E (n,o)::((wX n s.rows).map (rHP E)++fz E.F::L)):=by
 refine R.hp.perm ?_
 have:=((gC h).1.map (rHP E)).append_right (fz E.F::L)
 simpa using this
theorem Rel.unfocus {k:Ko} {L:List HP} {E:Ev} {s:St} {w w':World} (R:Rel k L E s w) {n:Nat} {o:AObj} (h:s.get n=some o) {o':AObj}
 (H:Hp k w' (rHP E (n,o')::((wX n s.rows).map (rHP E)++fz E.F::L))):Rel k L E (s.set n o') w':=by
 refine⟨R.nx,H.perm ?_⟩
 have:=(((gC h).2 o').map (rHP E)).append_right (fz E.F::L)
 simpa[St.set]using this.symm
theorem Rel.frozen {k:Ko} {L:List HP} {E:Ev} {s:St} {w:World} (R:Rel k L E s w):∀b o,E.F b=some o→w.heap[b]? =some o:=by
 have H:Hp k w (fz E.F::(s.rows.map (rHP E)++L)):=R.hp.perm yWa
 obtain⟨h,⟨rfl,_⟩,hs⟩:=H.sat
 exact hs
theorem Rel.row {k:Ko} {L:List HP} {E:Ev} {s:St} {w:World} (R:Rel k L E s w) {n:Nat} {o:AObj} (h:s.get n=some o) (hg:o≠.gone):
 ∃hd x,E.tab[n]? =some hd∧rowHP E.F o E.tab hd x∧Sub x w:=by
 obtain⟨x,hx,hs⟩:=(R.focus h).sat
 rcases hx with⟨e,_⟩|⟨hd,h1,h2⟩
 ·exact absurd e hg
 ·exact⟨hd,x,h1,h2,hs⟩
theorem Rel.cells {k:Ko} {L:List HP} {E:Ev} {s:St} {w:World} (R:Rel k L E s w) {n:Nat} {vs:List V} {t:TypeId} (h:s.get n=some (.cells vs t)):
 ∃b l sub,E.tab[n]? =some (.pointer (some ⟨b,0,none⟩),sub)∧VRL E vs l∧w.heap[b]? =some (.cells l.toArray t):=by
 obtain⟨⟨hv,sub⟩,x,h1,h2,h3⟩:=R.row h (by simp)
 simp only[rowHP]at h2
 obtain⟨b,l,rfl,h4,rfl⟩:=h2
 exact⟨b,l,sub,h1,h4,h3 b _ (by simp[one])⟩
theorem Rel.vec {k:Ko} {L:List HP} {E:Ev} {s:St} {w:World} (R:Rel k L E s w) {n:Nat} {ds:List D} {t:TypeId} (h:s.get n=some (.vec ds t)):
 ∃b l sub,E.tab[n]? =some (.pointer (some ⟨b,0,none⟩),sub)∧DRL E.F ds l∧w.heap[b]? =some (.cells l.toArray t):=by
 obtain⟨⟨hv,sub⟩,x,h1,h2,h3⟩:=R.row h (by simp)
 simp only[rowHP]at h2
 obtain⟨b,l,rfl,h4,rfl⟩:=h2
 exact⟨b,l,sub,h1,h4,h3 b _ (by simp[one])⟩
def nF (s:St):V→Option (Nat×List (List D))
 | .d (.ro sz els)=>some (sz,els)
 | .own n=>match s.get n with
   |some (.own _ sz els)=>some (sz,els)
   |some (.fro sz els)=>some (sz,els)
   |some (.mrk _ els)=>some (1,els)
   |_=>none
 |_=>none
theorem zFf {k:Ko} {L:List HP} {E:Ev} {s:St} {w:World} (R:Rel k L E s w) {sz:Nat} {els:List (List D)} {y:Value} (h:DR E.F (.ro sz els) y):
 ∃a c xs,y= .slice a els.length c∧els.length≤c∧DRL E.F els.flatten xs∧(∀el∈els,el.length=sz)∧Sat w (slR sz a els.length c xs):=by
 simp only[DR]at h
 obtain⟨a,c,rfl,h1,h2,h3⟩:=h
 rcases h3 with rfl|⟨b,o,l,T,fr,rfl,h4,h5⟩
 ·exact⟨a,c,[],rfl,h1,by simp[DRL],h2,pe,.inl ⟨rfl,rfl,rfl⟩,Sub.pe w⟩
 ·obtain⟨xs,r,e,hx⟩:=DRS_iff.1 h5
  have hl:xs.length=els.length*sz:=by rw[hx.length,wN h2]
  refine⟨_,c,xs,rfl,h1,hx,h2,one b (.cells l.toArray T fr),.inr ⟨b,o,l,T,fr,rfl,rfl,?_,hl,h1⟩,?_⟩
  ·rw[e,yWm (by omega),yVx (by omega)]
  ·intro b' o' e'
   simp only[one]at e'
   split at e'
   ·rename_i hb;subst hb;cases e';exact R.frozen _ _ h4
   ·cases e'
theorem cH {k:Ko} {L:List HP} {E:Ev} {s:St} {w:World} (R:Rel k L E s w) {v:V} {y:Value} (hv:VR E v y) {sz:Nat} {els:List (List D)} (h:nF s v=some (sz,els)):
 ∃a c xs,y= .slice a els.length c∧els.length≤c∧DRL E.F els.flatten xs∧(∀el∈els,el.length=sz)∧Sat w (slR sz a els.length c xs):=by
 unfold nF at h
 split at h
 ·simp only[Option.some.injEq,Prod.mk.injEq]at h
  obtain⟨rfl,rfl⟩:=h
  simp only[VR]at hv
  exact zFf R hv
 ·rename_i n
  simp only[VR]at hv
  obtain⟨sub,h1,h2⟩:=hv
  split at h<;>first|(cases h;done)|skip
  ·rename_i t sz' els' hg
   simp only[Option.some.injEq,Prod.mk.injEq]at h
   obtain⟨rfl,rfl⟩:=h
   obtain⟨hd,x,q1,q2,q3⟩:=R.row hg (by simp)
   rw[h1]at q1;cases q1
   simp only[rowHP]at q2
   obtain⟨a,c,xs,rfl,q4,q5,q6⟩:=q2
   exact⟨a,c,xs,rfl,(zHa q6).2,q4,q5,x,m5 q6,q3⟩
  ·rename_i sz' els' hg
   simp only[Option.some.injEq,Prod.mk.injEq]at h
   obtain⟨rfl,rfl⟩:=h
   obtain⟨hd,x,q1,q2,q3⟩:=R.row hg (by simp)
   rw[h1]at q1;cases q1
   simp only[rowHP]at q2
   exact zFf R q2.2
  ·rename_i t els' hg
   simp only[Option.some.injEq,Prod.mk.injEq]at h
   obtain⟨rfl,rfl⟩:=h
   obtain⟨hd,x,q1,q2,q3⟩:=R.row hg (by simp)
   rw[h1]at q1;cases q1
   simp only[rowHP]at q2
   obtain⟨b,c,xs,r,rfl,q4,q5,q6,q7⟩:=q2
   have hl:xs.length=els'.length*1:=by rw[q4.length,wN q5]
   exact⟨_,c,xs,rfl,q6,q4,q5,x,.inr ⟨b,0,xs++r,t,_,rfl,q7,by rw[yYs,yWm (by omega),yVx (by omega)],hl,q6⟩,q3⟩
 ·cases h
def zE (els:List (List D)) (i f n:Nat):Option (List D):=
 match els[i]? with
 |some el=>bif Nat.ble (f+n) el.length then some ((el.drop f).take n)else none
 |none=>none
def shC:Value→(D→Prop)→Prop
 | .int k _,K=>∃n:Int,K (.v (.int k n))
 | .bool _,K=>∃b:Bool,K (.v (.bool b))
 | .string _,K=>∃s:ByteArray,K (.v (.string s))
 | .slice _ _ _,K=>∃(sz:Nat) (els:List (List D)),K (.ro sz els)
 |_,K=>∃d:D,K d
def shL:List Value→(List D→Prop)→Prop
 |[],K=>K []
 |z::zs,K=>shC z fun d=>shL zs fun ds=>K (d::ds)
def zBg (P:Program):Nat→TypeId→List TypeId
 |0,t=>[t]
 |f+1,t=>match P.underlying t with
  |some (.struct fs)=>(fs.toList.map fun fd=>zBg P f fd.type).flatten
  |some (.array n e)=>(List.replicate n (zBg P f e)).flatten
  |_=>[t]
def zWp (P:Program):List TypeId→List Value→(List D→Prop)→Prop
 |t::ts,z::zs,K=>match gU P t with
  |some sz=>∃els:List (List D),zWp P ts zs fun ds=>K (.ro sz els::ds)
  |none=>shC z fun d=>zWp P ts zs fun ds=>K (d::ds)
 |_,zs,K=>shL zs K
def shT (P:Program) (t:TypeId) (K:List D→Prop):Prop:=
 match b6 P t with
 |some z=>zWp P (zBg P 6 t) z.cells.toList K
 |none=>False
theorem z0q {z:Value} {K:D→Prop} (h:shC z K):∃d,K d:=by
 cases z<;>simp only[shC]at h<;>first|(obtain⟨n,h⟩:=h;exact⟨_,h⟩)|(obtain⟨a,n,h⟩:=h;exact⟨_,h⟩)
theorem zPn:∀{zs:List Value} {K:List D→Prop},shL zs K→∃ds,K ds
 |[],_,h=>⟨_,h⟩
 |_::_,_,h=>let⟨_,h1⟩:=z0q h;let⟨_,h2⟩:=zPn h1;⟨_,h2⟩
theorem zJu {P:Program}:∀{ts:List TypeId} {zs:List Value} {K:List D→Prop},zWp P ts zs K→∃ds,K ds
 |t::ts,z::zs,K,h=>by
  unfold zWp at h
  split at h
  ·obtain⟨els,h⟩:=h
   obtain⟨ds,h⟩:=zJu h
   exact⟨_,h⟩
  ·obtain⟨d,h⟩:=z0q h
   obtain⟨ds,h⟩:=zJu h
   exact⟨_,h⟩
 |[],zs,K,h=>by unfold zWp at h;exact zPn h
 |t::ts,[],K,h=>by unfold zWp at h;exact zPn h
theorem bY {P:Program} {t:TypeId} {K:List D→Prop} (h:shT P t K):∃ds,K ds:=by
 unfold shT at h
 split at h
 ·exact zJu h
 ·exact h.elim
def mkD (P:Program) (t:TypeId) (ds:List D):Option V:=
 match zGp P t with
 |some n=>bif Nat.beq ds.length n then some (.agg (ds.map .d))else none
 |none=>bif zCv P t then(match ds with
  |[d]=>some (.d d)
  |_=>none)else none
theorem zFx {P:Program} {E:Ev} {w:World} {t sz i f:Nat} {els:List (List D)} {b oo:Nat} {c:Nat} {xs:List Value} {ds:List D} {v:V} (hx:DRL E.F els.flatten xs) (hu:∀el∈els,el.length=sz)
 (hs:Sat w (slR sz (some ⟨b,oo,none⟩) els.length c xs)) (hp:zE els i f ds.length=some ds) (hm:mkD P t ds=some v):∃y,VR E v y∧rD P t ⟨b,oo+i*sz+f,none⟩ w y:=by
 unfold zE at hp
 split at hp<;>first|(cases hp;done)|skip
 rename_i el hel
 obtain⟨hb,hp⟩:=y3 hp
 have hb:=yXt hb
 have hmem:=yVv hel
 have hi:i<els.length:=(yVn.1 hel).1
 rw[hu el hmem]at hb
 obtain⟨b',o',l,T,fr,e1,e2,e3⟩:=zQy hs (by omega)
 cases e1
 have hpart:=(hx.drop (i*sz+f)).take ds.length
 have hfp:=zNb hu hel hb
 rw[hfp,Option.some.inj hp]at hpart
 have hlen:xs.length=els.length*sz:=by rw[hx.length,wN hu]
 have hin:i*sz+sz≤els.length*sz:=by
  have:=yXm sz (show i+1≤els.length by omega)
  rwa [yZb]at this
 have hmemory:(l.drop (oo+i*sz+f)).take ds.length=(xs.drop (i*sz+f)).take ds.length:=by
  rw[← e3,List.drop_take,List.take_take,yYu,yZf oo]
  congr 1
  rw[yZx]
  omega
 unfold mkD at hm
 split at hm
 ·rename_i n hn
  obtain⟨hq,hm⟩:=y3 hm
  have:=yVo hq
  cases hm
  refine⟨.agg ((xs.drop (i*sz+f)).take ds.length).toArray,by simp only[VR];exact⟨_,rfl,hpart.vrl⟩,?_⟩
  refine zEa hn e2 (by rw[← this];exact hmemory) ?_
  rw[hpart.length,this]
 ·obtain⟨hq,hm⟩:=y3 hm
  split at hm<;>first|(cases hm;done)|skip
  rename_i d
  cases hm
  simp only[yVt,yXk,DRL]at hpart hmemory
  obtain⟨y,ys,e4,h4,h5⟩:=hpart
  subst h5
  refine⟨y,by simpa only[VR]using h4,fH hq e2 ?_⟩
  have:((l.drop (oo+i*sz+f)).take 1)[0]? =some y:=by rw[hmemory,e4];rfl
  rw[List.getElem?_take,yVl (by omega),yYg]at this
  simpa using this
def z2f (P:Program) (t:TypeId) (vs:List V) (off:Nat):Option V:=
 match zGp P t with
 |some sz=>bif Nat.ble (off+sz) vs.length then some (.agg ((vs.drop off).take sz))else none
 |none=>bif zCv P t then vs[off]? else none
theorem zGj {P:Program} {E:Ev} {w:World} {t b off:Nat} {vs:List V} {l:List Value} {T:TypeId} {fr:Nat×Nat} {v:V} (hv:VRL E vs l) (hb:w.heap[b]? =some (.cells l.toArray T fr)) (h:z2f P t vs off=some v):
 ∃y,VR E v y∧rD P t ⟨b,off,none⟩ w y:=by
 unfold z2f at h
 split at h
 ·rename_i n hn
  obtain⟨hq,h⟩:=y3 h
  have hq:=yXt hq
  cases h
  have hp:=(hv.drop off).take n
  refine⟨.agg ((l.drop off).take n).toArray,by simp only[VR];exact⟨_,rfl,hp⟩,zEa hn hb rfl ?_⟩
  rw[hp.length,yWe,yWh];omega
 ·obtain⟨hq,h⟩:=y3 h
  obtain⟨y,h1,h2⟩:=hv.get h
  exact⟨y,h2,fH hq hb h1⟩
def yV (s:ByteArray):List (List D):=s.data.toList.map fun b=>[.v (.int .u8 b.toNat)]
def p7:Value→Value→Bool
 | .int k a,.int k' b=>keq k k' && decide (a=b)
 | .string a,.string b=>decide (a=b)
 |_,_=>false
def vY (x:Value):List (Value×List D)→Option (List D)
 |[]=>none
 |(y,ds)::l=>bif p7 x y then some ds else vY x l
def LK (es:List (Value×List D)) (x:Value) (z ds:List D) (b:Bool):Prop:=(vY x es=some ds∧b=true)∨(vY x es=none∧ds=z∧b=false)
def yLq:Value→Bool
 | .int _ _=>true
 |_=>false
def yOx:Value→Bool
 | .string _=>true
 |_=>false
def z6h (P:Program) (t:TypeId) (x:Value):Bool:=
 match P.underlying t with
 |some (.int _)=>yLq x
 |some .string=>yOx x
 |_=>false
def like:Value→Value→Bool
 | .int k _,.int k' _=>keq k k'
 | .string _,.string _=>true
 |_,_=>false
def pS (x:Value) (es:List (Value×List D)):Prop:=∀p∈es,like x p.1=true
def gM (x:Value) (ds:List D):List (Value×List D)→List (Value×List D)
 |[]=>[(x,ds)]
 |(y,e)::l=>bif p7 x y then(y,ds)::l else(y,e)::gM x ds l
def eM (x:Value):List (Value×List D)→List (Value×List D)
 |[]=>[]
 |(y,e)::l=>bif p7 x y then l else(y,e)::eM x l
def mkM (P:Program) (t:TypeId) (ds:List D):Option V:=
 match zGp P t with
 |some n=>bif Nat.beq ds.length n && !(Nat.beq n 1)then some (.agg (ds.map .d))else none
 |none=>bif zCv P t then(match ds with
  |[d]=>some (.d d)
  |_=>none)else none
def zLu (P:Program) (t:TypeId):Option (TypeId×TypeId):=
 match P.underlying t with
 |some (.map k e)=>some (k,e)
 |_=>none
theorem yDk {a b:IntKind} (h:keq a b=true):a=b:=by
 cases a<;>cases b<;>first|rfl|cases h
theorem yFg {x y:Value} (h:p7 x y=true):x=y:=by
 unfold p7 at h
 split at h
 ·simp only[yVy,yXd]at h
  rw[yDk h.1,h.2]
 ·rw[yXu h]
 ·cases h
theorem sX {P:Program} {t:TypeId} {x:Value} (h:z6h P t x=true):∃kd,P.underlying t=some kd∧zTm kd x:=by
 unfold z6h at h
 split at h
 ·rename_i ik hu
  refine⟨_,hu,.inl ?_⟩
  cases x<;>first|(cases h;done)|exact⟨_,_,_,rfl,rfl⟩
 ·rename_i hu
  refine⟨_,hu,.inr ?_⟩
  cases x<;>first|(cases h;done)|exact⟨_,rfl,rfl⟩
 ·cases h
theorem z2c (s s':ByteArray):(s==s')=decide (s=s'):=by
 by_cases h:s=s'
 ·subst h
  rw[yWd rfl]
  show(s.data==s.data)=true
  simp
 ·rw[yVw h]
  cases hb:s==s'
  ·rfl
  ·have:(s.data==s'.data)=true:=hb
   exact absurd (ByteArray.ext (eq_of_beq this)) h
theorem pB {kd:TypeDesc} {x y:Value} (hk:zTm kd x) (hl:like x y=true):Instr.sameNow kd x y=some (p7 x y):=by
 rcases hk with⟨ik,k,n,rfl,rfl⟩|⟨s,rfl,rfl⟩
 ·cases y<;>simp only[like,yWc]at hl
  rename_i k' m
  have:=yDk hl
  subst this
  simp only[Instr.sameNow,if_true,p7,hl,yYc]
  rfl
 ·cases y<;>simp only[like,yWc]at hl
  rename_i s'
  simp only[Instr.sameNow,p7]
  congr 1
  exact z2c s s'
theorem zSh (k:IntKind):keq k k=true:=by cases k<;>rfl
theorem zMy {kd:TypeDesc} {x:Value} (hk:zTm kd x):like x x=true:=by
 rcases hk with⟨ik,k,n,rfl,rfl⟩|⟨s,rfl,rfl⟩
 ·exact zSh k
 ·rfl
theorem zOt {kd:TypeDesc} {x:Value} (hk:zTm kd x):p7 x x=true:=by
 rcases hk with⟨ik,k,n,rfl,rfl⟩|⟨s,rfl,rfl⟩
 ·simp only[p7,zSh,yYc,decide_true]
 ·simp only[p7,decide_true]
theorem zOv {l:List MapEntry} {ck:Nat} (h:wV l ck) {e:MapEntry} (he:e.born=ck):wV (l++[e]) (ck+1):=by
 refine⟨?_,fun x hx=> ?_⟩
 ·rw[yVu,yXr]
  refine⟨h.1,by simp,fun a ha b hb=> ?_⟩
  obtain⟨x,hx,rfl⟩:=yWy.1 ha
  have:=h.2 x hx
  simp only[yVz,yZc,yXc]at hb
  omega
 ·rcases yWn.1 hx with hx|hx
  ·have:=h.2 x hx;omega
  ·rw[yXc.1 hx,he];omega
theorem zJx {l:List MapEntry} {ck q:Nat} (h:wV l ck) {m e:MapEntry} (hm:l[q]? =some m) (he:e.born=m.born):wV (l.set q e) ck:=by
 have hq:(l.set q e).map (·.born)=l.map (·.born):=by
  apply y0b
  intro i
  rw[yWt,yWt,y0s]
  split
  ·rename_i hi
   subst hi
   split
   ·rw[hm];simp[he]
   ·rename_i hlt
    rw[yWk (by omega)];first|rfl|done
  ·rfl
 refine⟨by rw[hq];exact h.1,fun x hx=> ?_⟩
 rcases List.mem_or_eq_of_mem_set hx with hx|rfl
 ·exact h.2 x hx
 ·rw[he];exact h.2 m (yVv hm)
theorem zZl {l:List MapEntry} {ck q:Nat} (h:wV l ck):wV (l.eraseIdx q) ck:=
 ⟨((List.eraseIdx_sublist l q).map _).nodup h.1,fun x hx=>h.2 x ((List.eraseIdx_sublist l q).mem hx)⟩
theorem z8v:wV [] 0:=⟨by simp,by simp⟩
theorem eB {F:PH} {kd:TypeDesc} {x:Value} (hk:zTm kd x):∀{es:List (Value×List D)} {ents:List MapEntry} (i:Nat),MR F es ents→pS x es→
 (Instr.findNow kd x ents i=some none∧vY x es=none∧(∀ds,gM x ds es=es++[(x,ds)])∧eM x es=es∧∀e:MapEntry,e.key=x→Instr.findNow kd x (ents++[e]) i=some (some (i+ents.length,e.val)))∨
 (∃q m ds ys,Instr.findNow kd x ents i=some (some (i+q,m.val))∧ents[q]? =some m∧m.key=x∧vY x es=some ds∧DRL F ds ys∧m.val=mC ys∧
   (∀ds' ys' (e:MapEntry),DRL F ds' ys'→e.key=x→e.val=mC ys'→MR F (gM x ds' es) (ents.set q e))∧MR F (eM x es) (ents.eraseIdx q)∧∀e:MapEntry,e.key=x→Instr.findNow kd x (ents.set q e) i=some (some (i+q,e.val)))
 |[],ents,i,h,_=>by
  simp only[MR]at h
  subst h
  exact .inl ⟨rfl,rfl,fun ds=>rfl,rfl,fun e he=>by
   have hx:like x x=true:=zMy hk
   simp only[yYa,Instr.findNow,he,pB hk hx,zOt hk];rfl⟩
 |(y,e)::es,ents,i,h,hl=>by
  simp only[MR]at h
  obtain⟨m,ms,rfl,h1,⟨ys,h2,h3⟩,h4⟩:=h
  have hy:like x y=true:=hl (y,e) yVp
  have hs:=pB hk hy
  cases hb:p7 x y with
  |true=>
   have hxy:=yFg hb
   refine .inr ⟨0,m,e,ys,?_,rfl,by rw[h1,hxy],?_,h2,h3,?_,?_,?_⟩
   ·simp only[Instr.findNow,h1,hs,hb];rfl
   ·simp only[vY,hb,cond_true]
   ·intro ds' ys' e' q1 q2 q3
    simp only[gM,hb,cond_true,y1g,MR]
    exact⟨e',ms,rfl,by rw[q2,hxy],⟨ys',q1,q3⟩,h4⟩
   ·simp only[eM,hb,cond_true,List.eraseIdx_cons_zero];exact h4
   ·intro e' he'
    simp only[y1g,Instr.findNow,he',pB hk (zMy hk),zOt hk];rfl
  |false=>
   have hl':pS x es:=fun p hp=>hl p (yVr _ hp)
   rcases eB hk (i+1) h4 hl' with⟨q1,q2,q3,q4,q5⟩|⟨q,m',ds,ys',q1,q2,q3,q4,q5,q6,q7,q8,q9⟩
   ·refine .inl ⟨?_,?_,fun ds=> ?_,?_,fun e' he'=> ?_⟩
    ·simp only[Instr.findNow,h1,hs,hb];exact q1
    ·simp only[vY,hb,cond_false];exact q2
    ·simp only[gM,hb,cond_false,q3 ds,yXb]
    ·simp only[eM,hb,cond_false,q4]
    ·simp only[yXb,Instr.findNow,h1,hs,hb];rw[q5 e' he',yVt,show i+1+ms.length=i+(ms.length+1)by omega]
   ·refine .inr ⟨q+1,m',ds,ys',?_,by simpa using q2,q3,?_,q5,q6,?_,?_,fun e' he'=> ?_⟩
    ·simp only[Instr.findNow,h1,hs,hb];rw[q1,show i+1+q=i+(q+1)by omega]
    ·simp only[vY,hb,cond_false];exact q4
    ·intro ds' ys2 e' r1 r2 r3
     simp only[gM,hb,cond_false,y1h,MR]
     exact⟨m,_,rfl,h1,⟨ys,h2,h3⟩,q7 ds' ys2 e' r1 r2 r3⟩
    ·simp only[eM,hb,cond_false,List.eraseIdx_cons_succ,MR]
     exact⟨m,_,rfl,h1,⟨ys,h2,h3⟩,q8⟩
    ·simp only[y1h,Instr.findNow,h1,hs,hb];rw[q9 e' he',show i+1+q=i+(q+1)by omega]
theorem jD {P:Program} {kt:TypeId} {kd:TypeDesc} (hu:P.underlying kt=some kd) {x:Value} (hk:zTm kd x) (b:Bool) (w:World):(Instr.checkKey b 10000 kt x).run P w= .ok () w:=by
 rcases hk with⟨ik,k,n,rfl,rfl⟩|⟨s,rfl,rfl⟩<;>
  (unfold Instr.checkKey;simp only[bind,run_bind,Cv.run_underlying hu];rfl)
theorem j8 {P:Program} {kt:TypeId} {kd:TypeDesc} (hu:P.underlying kt=some kd) {x:Value} {ents:List MapEntry} {r:Option (Nat×Value)} (h:Instr.findNow kd x ents 0=some r) (w:World):(Instr.findKey kt x ents).run P w= .ok r w:=by
 simp only[Instr.findKey,bind,run_bind,Cv.run_underlying hu,h]
 rfl
theorem v8 {P:Program} {t:TypeId} {ke:TypeId×TypeId} (h:zLu P t=some ke):P.underlying t=some (.map ke.1 ke.2):=by
 unfold zLu at h
 split at h
 ·rename_i k e hu;cases h;exact hu
 ·cases h
theorem zPy {P:Program} {E:Ev} {t:TypeId} {ds:List D} {v:V} (h:mkM P t ds=some v) {ys:List Value} (hd:DRL E.F ds ys):VR E v (mC ys):=by
 unfold mkM at h
 split at h
 ·obtain⟨hb,h⟩:=y3 h
  cases h
  simp only[yVy,yYl]at hb
  have h1:=yVo hb.1
  have hl:ys.length=ds.length:=hd.length
  have:mC ys= .agg ys.toArray:=by
   unfold mC
   split
   ·rename_i y
    rw[h1]at hl
    simp only[yVt,yXk]at hl
    rw[← hl]at hb
    exact absurd hb.2 (by decide)
   ·rfl
  rw[this]
  simp only[VR]
  exact⟨ys,rfl,hd.vrl⟩
 ·obtain⟨hb,h⟩:=y3 h
  split at h<;>first|(cases h;done)|skip
  cases h
  simp only[DRL]at hd
  obtain⟨x,xs,rfl,h1,rfl⟩:=hd
  simpa only[VR,mC]using h1
def zMn (P:Program) (t:TypeId):Option (List D):=
 match b6 P t with
 |some (.agg cs)=>(match zGp P t with
  |some _=>bif okc (.agg cs)then some (cs.toList.map .v)else none
  |none=>none)
 |some z=>(match zGp P t with
  |some _=>none
  |none=>bif z.oneC then some [.v z]else none)
 |none=>none
theorem z9e {P:Program} {E:Ev} {t:TypeId} {ds:List D} {v:V} (h:zMn P t=some ds) (hm:mkM P t ds=some v):∃z,b6 P t=some z∧VR E v z:=by
 unfold zMn at h
 split at h
 ·rename_i cs hz
  split at h<;>first|(cases h;done)|skip
  rename_i n hn
  obtain⟨hb,h⟩:=y3 h
  cases h
  refine⟨_,hz,?_⟩
  simp only[mkM,hn]at hm
  obtain⟨_,hm⟩:=y3 hm
  cases hm
  simp only[VR]
  refine⟨cs.toList,by simp,?_⟩
  rw[yXz]
  exact yCa hb
 ·rename_i z hne hz
  split at h<;>first|(cases h;done)|skip
  rename_i hn
  obtain⟨hb,h⟩:=y3 h
  cases h
  refine⟨_,hz,?_⟩
  simp only[mkM,hn]at hm
  obtain⟨_,hm⟩:=y3 hm
  cases hm
  simp only[VR,DR]
  exact⟨trivial,hb⟩
 ·cases h
def eX (s:St) (n:Nat):Option Nat:=
 match s.get n with
 |some (.objs _ _ _ _ l _)=>some l.length
 |_=>none
theorem zDv {k:Ko} {L:List HP} {E:Ev} {s:St} {w:World} (R:Rel k L E s w) {n len:Nat} (h:eX s n=some len):
 ∃a c sub,E.tab[n]? =some (.slice a len c,sub)∧sub.length=len∧(∀p∈sub,∃b oo,p= .pointer (some ⟨b,oo,none⟩))∧Sat w (slR 1 a len c sub):=by
 unfold eX at h
 split at h<;>first|(cases h;done)|skip
 rename_i t T m unf l hole hg
 cases h
 obtain⟨⟨v,sub⟩,x,h1,h2,h3⟩:=R.row hg (by simp)
 simp only[rowHP]at h2
 obtain⟨a,c,e1,e2,e3,e4⟩:=h2
 obtain⟨g,g',q1,q2,q3,rfl⟩:=e4
 subst e1
 exact⟨a,c,sub,h1,e2,e3,g,m5 q1,fun b o e=>h3 b o (by simp[un,e])⟩
def sr (P:Program) (o:Oper) (ρ:yY) (s:St) (K:V→Prop):Prop:=
 match o.op with
 | .load t x=>match sev ρ x with
   | .nm n off=>match s.get n with
     |some (.cells vs _)=>optK (z2f P t vs off) K
     |_=>False
   | .el n sz i f=>match eX s n with
     |some len=>bif Nat.beq sz 1 && Nat.beq f 0 && zCv P t then i<len∧K (.sub n i)else False
     |none=>optK (nF s (.own n)) fun se=>bif Nat.beq sz se.1 then shT P t fun ds=>zE se.2 i f ds.length=some ds∧optK (mkD P t ds) K else False
   | .re sz els i f=>shT P t fun ds=>zE els i f ds.length=some ds∧optK (mkD P t ds) K
   | .na n off i=>match s.get n with
     |some (.cells vs _)=>bif zCv P t then shT P t fun ds=>match ds with
      |[d]=>(vs.drop off)[i]?=some (.d d)∧K (.d d)
      |_=>False else False
     |some (.vec es _)=>bif zCv P t then shT P t fun ds=>match ds with
      |[d]=>(es.drop off)[i]?=some d∧K (.d d)
      |_=>False else False
     |_=>False
   |_=>False
 | .indexAddr t x i=>match sev ρ x with
   | .own n=>match sev ρ i with
     | .d (.v (.int _ i))=>optK (gU P t) fun sz=>match eX s n with
       |some len=>bif Nat.beq sz 1 then(0≤i∧i<len)∧K (.el n 1 i.toNat 0)else False
       |none=>optK (nF s (.own n)) fun se=>bif Nat.beq sz se.1 then(0≤i∧i<se.2.length)∧K (.el n sz i.toNat 0)else False
     |_=>False
   |_=>False
 | .binOp op t x y _=>match sev ρ x with
   | .own n=>bif zPe y && zBp P t then optK (nF s (.own n)) fun se=>zYc op se.2 K else False
   |_=>False
 | .convert st d x=>bif yAm P st && lA P d then optK (nF s (sev ρ x)) fun se=>∃b:ByteArray,se.1=1∧se.2=yV b∧K (.d (.v (.string b)))else False
 | .call c=>match c.callee with
   | .builtin .len=>match evs ρ c.args.toList with
     |[.own n]=>optK c.argTypes[0]? fun t=>bif zBp P t then(match eX s n with
      |some len=>K (.d (.v (.int .i64 len)))
      |none=>optK (nF s (.own n)) fun se=>K (.d (.v (.int .i64 se.2.length))))else False
     |[.mp n]=>optK c.argTypes[0]? fun t=>bif zXf P t then(match s.get n with
      |some (.map es)=>K (.d (.v (.int .i64 es.length)))
      |_=>False)else False
     |_=>False
   |_=>False
 | .lookup t x i ok=>match sev ρ x with
   | .mp n=>match s.get n with
     |some (.map es)=>optK (zLu P t) fun ke=>optK (zLv (sev ρ i)) fun kv=>bif z6h P ke.1 kv then optK (zMn P ke.2) fun z=>pS kv es∧∃b,shT P ke.2 fun ds=>LK es kv z ds b∧optK (mkM P ke.2 ds) fun v=>K (bif ok then .tup [v,.d (.v (.bool b))]else v)else False
     |_=>False
   |_=>False
 |_=>False
def yUg (P:Program) (E:Ev) (o:Oper) (ρ:Env) (w:World) (K:V→Prop):Prop:=∃v y,K v∧VR E v y∧(execOp (ev ρ) o).run P w=.ok (.value y) w
theorem zWr {P:Program} {F:PH} {b:ByteArray} {xs:List Value} (h:DRL F (yV b).flatten xs):xs=(b.data.toList.map UInt8.toNat).map fun(n:Nat)=>Value.int .u8 (n:Int):=by
 unfold yV at h
 revert h
 generalize b.data.toList=l
 induction l generalizing xs with
 |nil=>intro h;simpa[DRL]using h
 |cons a l ih=>
  intro h
  simp only[yVz,yXq,yXb,yYa,DRL,DR]at h
  obtain⟨x,ys,rfl,⟨rfl,_⟩,h⟩:=h
  simp only[yVz]
  rw[ih h]
theorem zJs {P:Program} {k:Ko} {L:List HP} {E:Ev} {s:St} {w:World} (R:Rel k L E s w) {ρS:yY} {ρ:Env} (he:EnvR E ρS ρ) {o:Oper} {K:V→Prop} (h:sr P o ρS s K):yUg P E o ρ w K:=by
 cases ho:o.op
 case load t x=>
  simp only[sr,ho]at h
  have hv:=he.ev x
  split at h<;>first|exact h.elim|skip
  ·rename_i n off hx
   rw[hx]at hv;simp only[VR]at hv
   obtain⟨b,oo,l,e1,e2⟩:=hv
   split at h<;>first|exact h.elim|skip
   rename_i vs T hg
   obtain⟨v,hp,hk⟩:=zM h
   obtain⟨b',l',sub,q1,q2,q3⟩:=R.cells hg
   rw[e1]at q1;cases q1
   obtain⟨y,hy,hh⟩:=zGj q2 q3 hp
   refine⟨v,y,hk,hy,?_⟩
   simp only[execOp,ho,e2,yWi]
   exact yE hh
  ·rename_i n sz i f hx
   rw[hx]at hv;simp only[VR]at hv
   obtain⟨b,oo,m,c,l,e1,e2⟩:=hv
   split at h
   ·rename_i len hob
    obtain⟨hb,hi,hk⟩:=zP h
    simp only[yVy]at hb
    have b1:=yVo hb.1.1
    have b2:=yVo hb.1.2
    subst b1 b2
    obtain⟨a,c',sub,q1,q2,q3,q4⟩:=zDv R hob
    rw[e1]at q1;cases q1
    obtain⟨bb,o',ll,T,fr,r1,r2,r3⟩:=zQy q4 (by omega)
    cases r1
    obtain⟨p,hp⟩:∃p,l[i]? =some p:=⟨_,yWp (by omega)⟩
    obtain⟨pb,po,rfl⟩:=q3 p (yVv hp)
    refine⟨.sub n i,.pointer (some ⟨pb,po,none⟩),hk,by simp only[VR];exact⟨_,l,pb,po,e1,hp,rfl⟩,?_⟩
    simp only[execOp,ho,e2]
    refine yE (fH hb.2 r2 ?_)
    rw[← r3,List.getElem?_take,yVl (by omega),yYg]at hp
    rw[show oo+i*1+0=oo+i by omega]
    exact hp
   obtain⟨⟨sz',els⟩,hd,h⟩:=zM h
   obtain⟨hb,h⟩:=zP h
   have:=yVo hb
   simp only at this
   subst this
   obtain⟨ds,hp,h⟩:=bY h
   obtain⟨v,hm,hk⟩:=zM h
   obtain⟨a,c',xs,q1,q2,q3,q4,q5⟩:=cH R (v:= .own n) (y:= .slice (some ⟨b,oo,none⟩) m c) (by simp only[VR];exact⟨l,e1,_,_,_,rfl⟩) hd
   cases q1
   obtain⟨y,hy,hh⟩:=zFx q3 q4 q5 hp hm
   refine⟨v,y,hk,hy,?_⟩
   simp only[execOp,ho,e2]
   exact yE hh
  ·rename_i sz els i f hx
   rw[hx]at hv;simp only[VR]at hv
   obtain⟨e0,e1,b,oo,l,T,fr,e2,e3,e4⟩:=hv
   obtain⟨ds,hp,h⟩:=bY h
   obtain⟨v,hm,hk⟩:=zM h
   obtain⟨a,c',xs,q1,q2,q3,q4,q5⟩:=zFf R (sz:=sz) (els:=els) (y:= .slice (some ⟨b,oo,none⟩) els.length els.length) (by
    simp only[DR];exact⟨_,_,rfl,yWj _,e1,.inr ⟨b,oo,l,T,fr,rfl,e3,e4⟩⟩)
   cases q1
   obtain⟨y,hy,hh⟩:=zFx q3 q4 q5 hp hm
   refine⟨v,y,hk,hy,?_⟩
   simp only[execOp,ho,e2]
   exact yE hh
  ·rename_i n off i hx
   rw[hx]at hv;simp only[VR]at hv
   obtain⟨b,oo,l,e1,e2⟩:=hv
   split at h<;>first|exact h.elim|skip
   rename_i vs T hg
   obtain⟨hsc,h⟩:=zP h
   obtain⟨ds,h⟩:=bY h
   split at h<;>first|exact h.elim|skip
   rename_i d
   obtain⟨hd,hk⟩:=h
   obtain⟨b',l',sub,q1,q2,q3⟩:=R.cells hg
   rw[e1]at q1;cases q1
   obtain⟨y,hy,hh⟩:=(q2.drop off).get hd
   rw[yYg]at hy
   refine⟨.d d,y,hk,hh,?_⟩
   simp only[execOp,ho,e2,yWi]
   exact yE (fH hsc q3 hy)
   rename_i vs T hg
   obtain⟨hsc,h⟩:=zP h
   obtain⟨ds,h⟩:=bY h
   split at h<;>first|exact h.elim|skip
   rename_i d
   obtain⟨hd,hk⟩:=h
   obtain⟨b',l',sub,q1,q2,q3⟩:=R.vec hg
   rw[e1]at q1;cases q1
   obtain⟨y,hy,hh⟩:=(q2.drop off).get hd
   rw[yYg]at hy
   refine⟨.d d,y,hk,by simpa only[VR]using hh,?_⟩
   simp only[execOp,ho,e2,yWi]
   exact yE (fH hsc q3 hy)
 case indexAddr t x i=>
  simp only[sr,ho]at h
  have hv:=he.ev x
  split at h<;>first|exact h.elim|skip
  rename_i n hx
  split at h<;>first|exact h.elim|skip
  rename_i kk i' hi
  have hiv:=he.ev i
  rw[hi]at hiv
  have hiv:=hiv.intv
  obtain⟨sz,hs,h⟩:=zM h
  split at h
  ·rename_i len hob
   obtain⟨hb,⟨h0,h1⟩,hk⟩:=zP h
   have b1:=yVo hb
   subst b1
   obtain⟨a,c',sub,q1,q2,q3,q4⟩:=zDv R hob
   rw[hx]at hv
   simp only[VR]at hv
   obtain⟨l,e1,_⟩:=hv
   rw[q1]at e1
   obtain⟨b,oo,ll,T,fr,rfl,r2,r3⟩:=zQy q4 (by omega)
   have e1:=Option.some.inj e1
   have e2:ev ρ x= .slice (some ⟨b,oo,none⟩) len c':=(congrArg Prod.fst e1).symm
   refine⟨_,.pointer (some ⟨b,oo+i'.toNat*1+0,none⟩),hk,by simp only[VR];exact⟨_,_,_,_,_,q1,rfl⟩,?_⟩
   simp only[execOp,ho,e2,hiv]
   refine yE ?_
   rw[vB hs ⟨h0,by omega⟩,uJ]
   rfl
  obtain⟨⟨sz',els⟩,hd,h⟩:=zM h
  obtain⟨hb,⟨h0,h1⟩,hk⟩:=zP h
  have:=yVo hb
  simp only at this
  subst this
  simp only at h1
  rw[hx]at hv
  have hv':=hv
  simp only[VR]at hv'
  obtain⟨sub,e1,_⟩:=hv'
  obtain⟨a,c',xs,q1,q2,q3,q4,q5⟩:=cH R hv hd
  obtain⟨b,oo,l,T,fr,rfl,e2,e3⟩:=zQy q5 (by omega)
  rw[q1]at e1
  refine⟨_,.pointer (some ⟨b,oo+i'.toNat*sz+0,none⟩),hk,by simp only[VR];exact⟨_,_,_,_,_,e1,rfl⟩,?_⟩
  simp only[execOp,ho,q1,hiv]
  refine yE ?_
  rw[vB hs ⟨h0,by omega⟩,uJ]
  rfl
 case binOp op t x y u=>
  simp only[sr,ho]at h
  split at h<;>first|exact h.elim|skip
  rename_i n hx
  obtain⟨hb,h⟩:=zP h
  simp only[yVy]at hb
  obtain⟨⟨sz',els⟩,hd,hk⟩:=zM h
  have hv:=he.ev x
  rw[hx]at hv
  obtain⟨a,c',xs,q1,q2,q3,q4,q5⟩:=cH R hv hd
  obtain⟨v,y',h1,h2,h3⟩:=zKz (E:=E) ho hb.1 hb.2 q1 (fun ha=>by
   obtain⟨z,hz,_⟩:=q5
   rcases hz with⟨h1,_⟩|⟨_,_,_,_,_,h1,_⟩
   ·exact yWl h1
   ·rw[ha]at h1;cases h1) hk
  exact⟨v,y',h1,h2,h3 w⟩
 case convert st d x=>
  simp only[sr,ho]at h
  obtain⟨hb,h⟩:=zP h
  simp only[yVy]at hb
  obtain⟨⟨sz',els⟩,hd,h⟩:=zM h
  obtain⟨b,rfl,rfl,hk⟩:=h
  obtain⟨a,c',xs,q1,q2,q3,q4,q5⟩:=cH R (he.ev x) hd
  refine⟨_,.string b,hk,jF rfl,?_⟩
  obtain⟨e,hes,hu⟩:=z5d hb.1
  simp only[execOp,ho,q1]
  refine yE ?_
  have hxs:=zWr (P:=P) q3
  obtain⟨r1,hfc,r3⟩:=zCf (P:=P) (.inl ⟨a,c',rfl,q5⟩)
  rcases a with _|ad
  ·obtain⟨x,hx,hs⟩:=q5
   have hz:(yV b).length=0:=by
    rcases hx with⟨h1,_⟩|⟨_,_,_,_,_,h1,_⟩
    ·exact h1
    ·cases h1
   have hb0:b= .empty:=by
    unfold yV at hz
    simp at hz
    simpa using hz
   subst hb0
   simp only[convert,bind,run_bind,Cv.run_underlying hes,Cv.run_underlying (bX hb.2),Cv.run_underlying hu]
   rfl
  ·simp only[Builtin.firstCells,Nat.mul_one]at hfc
   rw[hxs]at hfc
   simp only[convert,bind,run_bind,Cv.run_underlying hes,Cv.run_underlying (bX hb.2),Cv.run_underlying hu,Conv.bytesToString,hfc]
   rw[← Array.forIn_toList]
   simp only[bind,pure]
   rw[zAu (P:=P) w (fun _ _=>rfl) _ .empty]
   simp only[Sem.run]
   congr 2
   rw[Cv.bs_toNat]
   apply ByteArray.ext
   simp
 case call c=>
  simp only[sr,ho]at h
  split at h<;>first|exact h.elim|skip
  rename_i hc
  obtain⟨ys,e1,e2⟩:=dW he c.args
  split at h<;>first|exact h.elim|skip
  ·rename_i n hargs
   obtain⟨t,ht,h⟩:=zM h
   obtain⟨hs,h⟩:=zP h
   split at h
   ·rename_i len hob
    rw[hargs]at e2
    simp only[VRL,VR]at e2
    obtain⟨y,_,rfl,⟨l,hv,_⟩,rfl⟩:=e2
    obtain⟨a,c',sub,q1,q2,q3,q4⟩:=zDv R hob
    rw[hv]at q1
    have e3:y= .slice a len c':=congrArg Prod.fst (Option.some.inj q1)
    subst e3
    refine⟨_,.int .i64 len,h,jF rfl,?_⟩
    rw[jC ho hc,e1]
    obtain⟨e,hse⟩:=pF hs
    refine yE ?_
    simp only[Builtin.len_,ht,yXh,yXn,bind,run_bind,Cv.run_underlying hse]
    rfl
   obtain⟨⟨sz',els⟩,hd,hk⟩:=zM h
   rw[hargs]at e2
   simp only[VRL]at e2
   obtain⟨y,_,rfl,hv,rfl⟩:=e2
   obtain⟨a,c',xs,rfl,q2,q3,q4,q5⟩:=cH R hv hd
   refine⟨_,.int .i64 els.length,hk,jF rfl,?_⟩
   rw[jC ho hc,e1]
   obtain⟨e,hse⟩:=pF hs
   refine yE ?_
   simp only[Builtin.len_,ht,yXh,yXn,bind,run_bind,Cv.run_underlying hse]
   rfl
  ·rename_i n hargs
   obtain⟨t,ht,h⟩:=zM h
   obtain⟨hs,h⟩:=zP h
   split at h<;>first|exact h.elim|skip
   rename_i es hg
   rw[hargs]at e2
   simp only[VRL,VR]at e2
   obtain⟨y,_,rfl,⟨bm,sub,e3,rfl⟩,rfl⟩:=e2
   obtain⟨hd,x,q1,q2,q3⟩:=R.row hg (by simp)
   rw[e3]at q1;cases q1
   simp only[rowHP]at q2
   obtain⟨b,ents,ck,e4,e5,e6,rfl⟩:=q2
   cases e4
   have hm:=q3 bm _ (by simp[one];rfl)
   have hl:ents.length=es.length:=by
    clear q3 hm hg h e6
    induction es generalizing ents with
    |nil=>simp only[MR]at e5;rw[e5];rfl
    |cons p es ih=>obtain⟨m,ms,rfl,_,_,e5⟩:=e5;simp[ih _ e5]
   refine⟨_,.int .i64 es.length,h,jF rfl,?_⟩
   rw[jC ho hc,e1]
   obtain⟨kt,e,hse⟩:=zUu hs
   refine yE ?_
   simp only[Builtin.len_,ht,yXh,yXn,bind,run_bind,Cv.run_underlying hse,qC hm trivial]
   simp[pure,Sem.run,goInt,hl]
 case lookup t x i ok=>
  simp only[sr,ho]at h
  split at h<;>first|exact h.elim|skip
  rename_i n hx
  split at h<;>first|exact h.elim|skip
  rename_i es hg
  obtain⟨ke,hke,h⟩:=zM h
  obtain⟨kv,hkv,h⟩:=zM h
  obtain⟨hks,h⟩:=zP h
  obtain⟨z,hz,hal,b,h⟩:=zM h
  obtain⟨ds,hlk,h⟩:=bY h
  obtain⟨v,hm,hk⟩:=zM h
  have hv:=he.ev x
  rw[hx]at hv
  simp only[VR]at hv
  obtain⟨bm,sub,e1,e2⟩:=hv
  obtain⟨hd,x',q1,q2,q3⟩:=R.row hg (by simp)
  rw[e1]at q1;cases q1
  simp only[rowHP]at q2
  obtain⟨b',ents,ck,e4,e5,e6,rfl⟩:=q2
  rw[e2]at e4;cases e4
  have hmm:=q3 bm _ (by simp[one];rfl)
  have hi:ev ρ i=kv:=nA hkv (he.ev i)
  obtain⟨kd,hu,hkt⟩:=sX hks
  have hzr:∀v,mkM P ke.2 z=some v→∃zv,b6 P ke.2=some zv∧VR E v zv:=fun v hv=>z9e hz hv
  refine⟨bif ok then .tup [v,.d (.v (.bool b))]else v,?_⟩
  have run:∃y,VR E v y∧(Instr.lookup t (.map (some bm)) kv ok).run P w= .ok (if ok then .tuple #[y,.bool b]else y) w:=by
   rcases eB hkt 0 e5 hal with⟨r1,r2,r3,r4,_⟩|⟨q,m,ds',ys,r1,r2,r3,r4,r5,r6,r7,r8,_⟩
   ·rcases hlk with⟨l1,l2⟩|⟨l1,l2,l3⟩
    ·rw[r2]at l1;cases l1
    ·subst l2 l3
     obtain⟨zv,z1,z2⟩:=hzr v hm
     refine⟨zv,z2,?_⟩
     simp only[Instr.lookup,bind,run_bind,Cv.run_underlying (v8 hke),qC hmm trivial,pure,Sem.run,jD hu hkt,j8 hu r1,zero_run (fT z1)]
   ·rcases hlk with⟨l1,l2⟩|⟨l1,l2,l3⟩
    ·rw[r4]at l1;cases l1
     subst l2
     refine⟨mC ys,zPy hm r5,?_⟩
     simp only[Instr.lookup,bind,run_bind,Cv.run_underlying (v8 hke),qC hmm trivial,pure,Sem.run,jD hu hkt,j8 hu r1,r6]
    ·rw[r4]at l1;cases l1
  obtain⟨y,hy,hrun⟩:=run
  refine⟨if ok then .tuple #[y,.bool b]else y,hk,?_,?_⟩
  ·cases ok
   ·exact hy
   ·simp only[cond_true,if_true,VR,VRL,DR]
    exact⟨[y,.bool b],rfl,y,_,rfl,hy,_,_,rfl,⟨rfl,rfl⟩,rfl⟩
  ·simp only[execOp,ho,e2,hi]
   exact yE hrun
 all_goals(simp only[sr,ho]at h)
open Go Go.RowKit Cv
variable {P:Program} {k:Ko} {L:List HP} {E:Ev} {s:St} {w:World}
theorem z9z {α:Type _} {w:World} {f g:α→HP} (h:∀a x,f a x→g a x):∀{l:List α} {M:List HP} {hs:List PH},Hs w (l.map f++M) hs→Hs w (l.map g++M) hs
 |[],M,hs,H=>H
 |a::l,M,hs,H=>by
  simp only[yVz,yXb]at H ⊢
  cases H with
  |cons ha hsub hd hr=>exact .cons (h _ _ ha) hsub hd (z9z h hr)
theorem wE {α:Type _} {f g:α→HP} (h:∀a x,f a x→g a x) {l:List α} {M:List HP} (H:Hp k w (l.map f++M)):Hp k w (l.map g++M):=
 ⟨H.1,let⟨hs,hh⟩:=H.2;⟨hs,z9z h hh⟩⟩
theorem zQb {A:HP} {F:PH} {M:List HP} (H:Hp k w (A::fz F::M)):∃x,A x∧Dj x F∧Sub x w∧Hp k w (fz (un x F)::M):=by
 obtain⟨hk,hs,hh⟩:=H
 cases hh with
 |cons ha hsub hd hr=>
  cases hr with
  |cons hf hfs hfd hr=>
   simp only[fz]at hf
   obtain⟨rfl,hgt⟩:=hf
   refine⟨_,ha,hd _ yVp,hsub,hk,_,.cons ⟨rfl,hgt.mono (fun b o e=>by
    rcases hd _ yVp b with h|h
    ·simp[un,h,e]
    ·rw[e]at h;cases h)⟩ (z8m hsub hfs) (fun g hg=>z0w (hd g (yVr _ hg)) (hfd g hg)) hr⟩
theorem zZz {x F:PH} (d:Dj x F):FLe F (un x F):=fun b o e=>by
 rcases d b with h|h
 ·simp[un,h,e]
 ·rw[e]at h;cases h
theorem Rel.new (R:Rel k L E s w) {o:AObj} {O:Obj} {hd:Hd} (h:rowHP E.F o (E.tab++[hd]) hd (one w.heap.size O)):E.le ⟨E.F,E.tab++[hd]⟩∧Rel k L ⟨E.F,E.tab++[hd]⟩ (s.new o) (w.alloc O)∧(E.tab++[hd])[s.nx]? =some hd:=by
 have hle:E.le ⟨E.F,E.tab++[hd]⟩:=⟨FLe.refl _,yZd _ _⟩
 have hget:(E.tab++[hd])[s.nx]? =some hd:=by rw[← R.nx];simp
 refine⟨hle,⟨by simp[St.new,R.nx],?_⟩,hget⟩
 have H:=R.hp.new O
 have H1:Hp k (w.alloc O) (s.rows.map (rHP E)++(pt w.heap.size O::fz E.F::L)):=H.perm (yWa (l₁:=s.rows.map (rHP E))).symm
 have H2:=wE (fun r x=>rHP.mono hle r) H1
 have H3:Hp k (w.alloc O) (pt w.heap.size O::(s.rows.map (rHP ⟨E.F,E.tab++[hd]⟩)++fz E.F::L)):=H2.perm yWa
 exact H3.imp fun x hx=> .inr ⟨hd,hget,by rw[show x=one w.heap.size O from hx];exact h⟩
theorem Rel.freeze (R:Rel k L E s w) {n t sz:Nat} {els:List (List D)} (h:s.get n=some (.own t sz els)):∃E',E.le E'∧E'.tab=E.tab∧Rel k L E' (s.set n (.fro sz els)) w:=by
 have H:Hp k w (rHP E (n,.own t sz els)::fz E.F::((wX n s.rows).map (rHP E)++L)):=(R.focus h).cons yWa
 obtain⟨x,hx,hd,hsub,H⟩:=zQb H
 rcases hx with⟨e,_⟩|⟨hv,h1,h2⟩
 ·cases e
 simp only[rowHP]at h2
 obtain⟨a,c,xs,h3,h4,h5,h6⟩:=h2
 have hle:E.le ⟨un x E.F,E.tab⟩:=⟨zZz hd,yZq _⟩
 refine⟨⟨un x E.F,E.tab⟩,hle,rfl,?_⟩
 have H1:Hp k w ((wX n s.rows).map (rHP E)++fz (un x E.F)::L):=H.perm yWa.symm
 have H2:=wE (fun r x=>rHP.mono hle r) H1
 have H3:Hp k w (rHP ⟨un x E.F,E.tab⟩ (n,.fro sz els)::((wX n s.rows).map (rHP ⟨un x E.F,E.tab⟩)++fz (un x E.F)::L)):=by
  have:=(@vS k w True _).2 ⟨trivial,H2⟩
  refine this.imp fun y hy=> .inr ⟨hv,h1,?_⟩
  simp only[rowHP]
  refine⟨hy.2,?_⟩
  simp only[DR]
  refine⟨a,c,h3,(zHa h6).2,h5,?_⟩
  rcases h6 with⟨rfl,q2,rfl,rfl,rfl⟩|⟨b,r,rfl,rfl,q3,q4,q5⟩
  ·exact .inl (yWl q2)
  ·refine .inr ⟨b,0,xs++r,t,(0,0),rfl,?_,DRS_iff.2 ⟨xs,r,rfl,h4.mono hle.1⟩⟩
   simp[un,one]
 refine⟨by simpa[St.set]using R.nx,H3.perm ?_⟩
 have:=(((gC h).2 (.fro sz els)).map (rHP ⟨un x E.F,E.tab⟩)).append_right (fz (un x E.F)::L)
 simpa[St.set]using this.symm
def z0h (s:St):V→Option (D×St)
 | .d d=>some (d,s)
 | .own n=>match s.get n with
   |some (.own _ sz els)=>some (.ro sz els,s.set n (.fro sz els))
   |some (.fro sz els)=>some (.ro sz els,s)
   |_=>none
 |_=>none
def yAk (s:St):List V→Option (List D×St)
 |[]=>some ([],s)
 |v::l=>match z0h s v with
  |some (d,s')=>match yAk s' l with
   |some (ds,s2)=>some (d::ds,s2)
   |none=>none
  |none=>none
theorem zCy (R:Rel k L E s w) {v:V} {d:D} {s':St} (h:z0h s v=some (d,s')) {y:Value} (hv:VR E v y):∃E',E.le E'∧E'.tab=E.tab∧Rel k L E' s' w∧s'.nx=s.nx∧DR E'.F d y:=by
 unfold z0h at h
 split at h<;>first|(cases h;done)|skip
 ·cases h
  exact⟨E,Ev.le.refl _,rfl,R,rfl,by simpa only[VR]using hv⟩
 ·rename_i n
  simp only[VR]at hv
  obtain⟨sub,h1,_⟩:=hv
  split at h<;>first|(cases h;done)|skip
  ·rename_i t sz els hg
   cases h
   obtain⟨E',q1,q2,q3⟩:=R.freeze hg
   refine⟨E',q1,q2,q3,rfl,?_⟩
   have hg':(s.set n (.fro sz els)).get n=some (.fro sz els):=by
    simp only[St.get,St.set]
    have:∀l:List (Nat×AObj),zPr n l≠none→zPr n (zPu n (.fro sz els) l)=some (.fro sz els):=by
     intro l
     induction l with
     |nil=>intro h;exact absurd rfl h
     |cons p l ih=>
      obtain⟨m,o⟩:=p
      intro h
      simp only[zPr,zPu]at h ⊢
      cases hb:Nat.beq m n
      ·rw[hb]at h;simp only[zPr,hb,cond_false]at h ⊢;exact ih h
      ·simp only[zPr,hb,cond_true]
    exact this _ (by simp only[St.get]at hg;rw[hg];simp)
   obtain⟨hd,x,e1,e2,e3⟩:=q3.row hg' (by simp)
   rw[q2,h1]at e1;cases e1
   simp only[rowHP]at e2
   exact e2.2
  ·rename_i sz els hg
   cases h
   obtain⟨hd,x,e1,e2,e3⟩:=R.row hg (by simp)
   rw[h1]at e1;cases e1
   simp only[rowHP]at e2
   exact⟨E,Ev.le.refl _,rfl,R,rfl,e2.2⟩
theorem z1y:∀{vs:List V} {s:St} {E:Ev} (R:Rel k L E s w) {ds:List D} {s':St} (h:yAk s vs=some (ds,s')) {ys:List Value} (hv:VRL E vs ys),
 ∃E',E.le E'∧E'.tab=E.tab∧Rel k L E' s' w∧s'.nx=s.nx∧DRL E'.F ds ys
 |[],s,E,R,ds,s',h,ys,hv=>by
  simp only[yAk,Option.some.injEq,Prod.mk.injEq]at h
  obtain⟨rfl,rfl⟩:=h
  simp only[VRL]at hv
  exact⟨E,Ev.le.refl _,rfl,R,rfl,by simpa only[DRL]using hv⟩
 |v::vs,s,E,R,ds,s',h,ys,hv=>by
  simp only[yAk]at h
  simp only[VRL]at hv
  obtain⟨y,ys,rfl,h1,h2⟩:=hv
  split at h<;>first|(cases h;done)|skip
  rename_i d s1 hd
  split at h<;>first|(cases h;done)|skip
  rename_i ds s2 hds
  cases h
  obtain⟨E1,q1,q2,q3,q4,q5⟩:=zCy R hd h1
  obtain⟨E2,r1,r2,r3,r4,r5⟩:=z1y q3 hds (h2.mono q1)
  exact⟨E2,q1.trans r1,r2.trans q2,r3,r4.trans q4,by simp only[DRL];exact⟨_,_,rfl,q5.mono r1.1,r5⟩⟩
def zZr:D→Bool
 | .v (.slice none 0 0)=>true
 |_=>false
def p9 (P:Program):List TypeId→List D→List D
 |t::ts,d::ds=>(match gU P t with
  |some sz=>bif zZr d then .ro sz []else d
  |none=>d)::p9 P ts ds
 |_,ds=>ds
theorem zKo {F:PH}:∀{ts:List TypeId} {ds:List D} {ys:List Value},DRL F ds ys→DRL F (p9 P ts ds) ys
 |[],ds,ys,h=>by unfold p9;exact h
 |t::ts,[],ys,h=>by unfold p9;exact h
 |t::ts,d::ds,ys,h=>by
  unfold p9
  simp only[DRL]at h ⊢
  obtain⟨x,xs,rfl,h1,h2⟩:=h
  refine⟨x,xs,rfl,?_,zKo h2⟩
  split
  ·cases hb:zZr d
   ·exact h1
   ·unfold zZr at hb
    split at hb
    ·simp only[DR]at h1
     obtain⟨rfl,_⟩:=h1
     simp only[cond_true,DR]
     exact⟨none,0,rfl,yWj _,by simp,.inl trivial⟩
    ·cases hb
  ·exact h1
theorem zOo:∀(ts:List TypeId) (ds:List D),(p9 P ts ds).length=ds.length
 |[],ds=>by unfold p9;rfl
 |t::ts,[]=>by unfold p9;rfl
 |t::ts,d::ds=>by unfold p9;simp[zOo ts ds]
def elD (P:Program) (s:St) (t:TypeId) (v:V):Option (List D×St):=
 bif rP v then(match yAk s v.cl with
  |some (ds,s')=>some (p9 P (zBg P 6 t) ds,s')
  |none=>none)else none
theorem bF {α:Type _} {b:Bool} {x:Option α} {v:α} (h:(bif b then x else none)=some v):b=true∧x=some v:=by
 cases b
 ·cases h
 ·exact⟨rfl,h⟩
theorem zIz (R:Rel k L E s w) {t:TypeId} {v:V} {ds:List D} {s':St} (h:elD P s t v=some (ds,s')) {y:Value} (hv:VR E v y):
 ∃E' ys,E.le E'∧E'.tab=E.tab∧Rel k L E' s' w∧s'.nx=s.nx∧y.cells=ys.toArray∧DRL E'.F ds ys:=by
 unfold elD at h
 obtain⟨hb,h⟩:=bF h
 split at h<;>first|(cases h;done)|skip
 rename_i ds0 s0 hf
 cases h
 obtain⟨l,hl,hvl⟩:=VR.cells hb hv
 obtain⟨E',q1,q2,q3,q4,q5⟩:=z1y R hf hvl
 exact⟨E',l,q1,q2,q3,q4,hl,zKo q5⟩
open Go Go.RowKit Cv
variable {P:Program} {k:Ko} {L:List HP} {E:Ev} {s:St} {w:World}
def zKy (F:PH) (T:Type) (m:Nat) (unf:T→Nat→AObj) (x:T) (p:Value) (l0:List Value):HP:=fun h=>
 ∃tab1:List Hd,tab1[0]? =some (p,l0)∧tab1.length=m∧hS ((List.range m).map fun j=>fun h=>∃hd',tab1[j]? =some hd'∧rowHP F (unf x j) tab1 hd' h) h
def xJ (F:PH) (T:Type) (m:Nat) (unf:T→Nat→AObj) (l:List T) (sub:List Value) (hole:Option Nat) (i:Nat):HP:=fun h=>
 if hole=some i then h=pe else ∃x p l0,l[i]? =some x∧sub[i]? =some p∧zKy F T m unf x p l0 h
def yId (sub:List Value):Prop:=∀p∈sub,∃b oo,p=.pointer (some ⟨b,oo,none⟩)
theorem rowHP_objs {F:PH} {t:Nat} {T:Type} {m:Nat} {unf:T→Nat→AObj} {l:List T} {hole:Option Nat} {tab:List Hd} {hd:Hd} {h:PH}:
 rowHP F (.objs t T m unf l hole) tab hd h↔∃a c,hd.1= .slice a l.length c∧hd.2.length=l.length∧yId hd.2∧hS2 (slO t 1 a l.length c hd.2) (hS ((List.range l.length).map (xJ F T m unf l hd.2 hole))) h:=by
 simp only[rowHP]
 constructor
 ·rintro⟨a,c,h1,h2,h3,g,g',h4,h5,h6,h7⟩
  refine⟨a,c,h1,h2,h3,g,g',h4,lW (fun i x hx=> ?_) h5,h6,h7⟩
  unfold xJ
  split
  ·rename_i hi;rwa [yVl hi]at hx
  ·rename_i hi
   rw[yVj hi]at hx
   obtain⟨x,p,l0,tab1,r1,r2,r3,r4,r5⟩:=hx
   exact⟨x,p,l0,r1,r2,tab1,r3,r4,r5⟩
 ·rintro⟨a,c,h1,h2,h3,g,g',h4,h5,h6,h7⟩
  refine⟨a,c,h1,h2,h3,g,g',h4,lW (fun i x hx=> ?_) h5,h6,h7⟩
  unfold xJ at hx
  split
  ·rename_i hi;rwa [yVl hi]at hx
  ·rename_i hi
   rw[yVj hi]at hx
   obtain⟨x,p,l0,r1,r2,tab1,r3,r4,r5⟩:=hx
   exact⟨x,p,l0,tab1,r1,r2,r3,r4,r5⟩
theorem zBd (R:Rel k L E s w) {n t:Nat} {T:Type} {m:Nat} {unf:T→Nat→AObj} {l:List T} {hole:Option Nat} (h:s.get n=some (.objs t T m unf l hole)):
 ∃a c sub,E.tab[n]? =some (.slice a l.length c,sub)∧sub.length=l.length∧yId sub∧
  Hp k w (slO t 1 a l.length c sub::((List.range l.length).map (xJ E.F T m unf l sub hole)++((wX n s.rows).map (rHP E)++fz E.F::L))):=by
 obtain⟨hk,hs,hh⟩:=R.focus h
 cases hh with
 |cons ha hsub hd hr=>
  rcases ha with⟨e,_⟩|⟨⟨hv,sub⟩,h1,h2⟩
  ·cases e
  ·obtain⟨a,c,rfl,q2,q3,q4⟩:=rowHP_objs.1 h2
   refine⟨a,c,sub,h1,q2,q3,?_⟩
   have H:Hp k w (hS2 (slO t 1 a l.length c sub) (hS ((List.range l.length).map (xJ E.F T m unf l sub hole)))::((wX n s.rows).map (rHP E)++fz E.F::L)):=⟨hk,_,.cons q4 hsub hd hr⟩
   have H1:=hp_star2.1 H
   have H2:=hp_star.1 H1.swap
   exact H2.perm yWa
theorem zKs {n t:Nat} {T:Type} {m:Nat} {unf:T→Nat→AObj} {l:List T} {hole:Option Nat} {a:Option Addr} {c:Nat} {sub:List Value} {M:List HP}
 (ht:E.tab[n]? =some (.slice a l.length c,sub)) (hl:sub.length=l.length) (hp:yId sub)
 (H:Hp k w (slO t 1 a l.length c sub::((List.range l.length).map (xJ E.F T m unf l sub hole)++M))):Hp k w (rHP E (n,.objs t T m unf l hole)::M):=by
 have H1:Hp k w ((List.range l.length).map (xJ E.F T m unf l sub hole)++slO t 1 a l.length c sub::M):=H.perm yWa.symm
 have H2:=(hp_star.2 H1).swap
 exact(hp_star2.2 H2).imp fun x hx=> .inr ⟨_,ht,rowHP_objs.2 ⟨a,c,rfl,hl,hp,hx⟩⟩
theorem zGd {n i:Nat} (h:i<n):∃B,List.range n=List.range i++i::B∧∀j∈B,j≠i:=by
 refine⟨(List.range (n-i-1)).map (fun j=>i+1+j),?_,fun j hj=> ?_⟩
 ·have:n=i+(1+(n-i-1)):=by omega
  conv=>lhs;rw[this]
  rw[List.range_add,List.range_add,yVu]
  simp[Function.comp_def,yZf]
 ·obtain⟨q,_,rfl⟩:=yWy.1 hj
  omega
theorem yDt (H:Hp k w L):Hp k w ((fun h=>h=pe)::L):=((@vS k w True L).2 ⟨trivial,H⟩).imp fun x hx=>hx.2
theorem yOc (H:Hp k w ((fun h=>h=pe)::L)):Hp k w L:=((@vS k w True L).1 (H.imp fun x hx=>⟨trivial,hx⟩)).2
theorem z9t {F:PH} {T:Type} {m:Nat} {unf:T→Nat→AObj} {l:List T} {sub:List Value} {M:List HP} {i:Nat} {x:T} {p:Value} (hx:l[i]? =some x) (hp:sub[i]? =some p)
 (H:Hp k w ((List.range l.length).map (xJ F T m unf l sub none)++M)):∃l0,Hp k w (zKy F T m unf x p l0::((List.range l.length).map (xJ F T m unf l sub (some i))++M)):=by
 have hi:i<l.length:=(yVn.1 hx).1
 obtain⟨B,hB,hne⟩:=zGd hi
 have e1:∀j,j≠i→xJ F T m unf l sub none j=xJ F T m unf l sub (some i) j:=fun j hj=>by
  funext h
  unfold xJ
  rw[yVj (by simp),yVj (by simp only[Option.some.injEq];omega)]
 have e2:xJ F T m unf l sub (some i) i=fun h=>h=pe:=by funext h;unfold xJ;rw[yVl rfl]
 have ea:(List.range i).map (xJ F T m unf l sub (some i))=(List.range i).map (xJ F T m unf l sub none):=yWr fun j hj=>(e1 j (by have:=yYh.1 hj;omega)).symm
 have eb:B.map (xJ F T m unf l sub (some i))=B.map (xJ F T m unf l sub none):=yWr fun j hj=>(e1 j (hne j hj)).symm
 rw[hB,yVu,yVz]at H ⊢
 rw[ea,eb,e2]
 have H1:Hp k w (xJ F T m unf l sub none i::((List.range i).map (xJ F T m unf l sub none)++(B.map (xJ F T m unf l sub none)++M))):=by
  rw[yVq]at H
  exact H.perm yWa
 obtain⟨l0,H2⟩:∃l0,Hp k w (zKy F T m unf x p l0::((List.range i).map (xJ F T m unf l sub none)++(B.map (xJ F T m unf l sub none)++M))):=by
  obtain⟨hk,hs,hh⟩:=H1
  cases hh with
  |cons ha hsub hd hr=>
   unfold xJ at ha
   rw[yVj (by simp)]at ha
   obtain⟨x',p',l0,r1,r2,r3⟩:=ha
   rw[hx]at r1;rw[hp]at r2
   cases r1;cases r2
   exact⟨l0,hk,_,.cons r3 hsub hd hr⟩
 have H3:=yDt H2
 rw[yVq]
 refine⟨l0,H3.swap.cons ?_⟩
 exact yWa.symm
theorem yFc {F:PH} {T:Type} {m:Nat} {unf:T→Nat→AObj} {l:List T} {sub:List Value} {M:List HP} {i:Nat} {x:T} {p:Value} {l0:List Value} (hi:i<l.length) (hp:sub[i]? =some p)
 (H:Hp k w (zKy F T m unf x p l0::((List.range l.length).map (xJ F T m unf l sub (some i))++M))):Hp k w ((List.range l.length).map (xJ F T m unf (l.set i x) sub none)++M):=by
 obtain⟨B,hB,hne⟩:=zGd hi
 have e1:∀j,j≠i→xJ F T m unf (l.set i x) sub none j=xJ F T m unf l sub (some i) j:=fun j hj=>by
  funext h
  unfold xJ
  rw[yVj (by simp),yVj (by simp only[Option.some.injEq];omega),List.getElem?_set_ne (by omega)]
 have e2:xJ F T m unf l sub (some i) i=fun h=>h=pe:=by funext h;unfold xJ;rw[yVl rfl]
 have ea:(List.range i).map (xJ F T m unf (l.set i x) sub none)=(List.range i).map (xJ F T m unf l sub (some i)):=yWr fun j hj=>e1 j (by have:=yYh.1 hj;omega)
 have eb:B.map (xJ F T m unf (l.set i x) sub none)=B.map (xJ F T m unf l sub (some i)):=yWr fun j hj=>e1 j (hne j hj)
 rw[hB,yVu,yVz,yVq]at H ⊢
 rw[e2]at H
 rw[ea,eb]
 have H1:Hp k w ((fun h=>h=pe)::zKy F T m unf x p l0::((List.range i).map (xJ F T m unf l sub (some i))++(B.map (xJ F T m unf l sub (some i))++M))):=
  H.perm ((List.Perm.cons _ yWa).trans (.swap _ _ _))
 have H2:=yOc H1
 have H3:Hp k w (xJ F T m unf (l.set i x) sub none i::((List.range i).map (xJ F T m unf l sub (some i))++(B.map (xJ F T m unf l sub (some i))++M))):=H2.imp fun h hh=>by
  unfold xJ
  rw[yVj (by simp)]
  exact⟨x,p,l0,by rw[List.getElem?_set_self hi],hp,hh⟩
 exact H3.perm yWa.symm
theorem yAq {F:PH} {T:Type} {m:Nat} {unf:T→Nat→AObj} {l l2:List T} {sub sub2:List Value} (hl:sub.length=l.length) {M:List HP}
 (H:Hp k w ((List.range l.length).map (xJ F T m unf l sub none)++((List.range l2.length).map (xJ F T m unf l2 sub2 none)++M))):
 Hp k w ((List.range (l++l2).length).map (xJ F T m unf (l++l2) (sub++sub2) none)++M):=by
 rw[yVm,List.range_add,yVu,yXz,yVq]
 have ea:(List.range l.length).map (xJ F T m unf (l++l2) (sub++sub2) none)=(List.range l.length).map (xJ F T m unf l sub none):=yWr fun j hj=>by
  have hj:=yYh.1 hj
  funext h
  unfold xJ
  rw[yVj (by simp),yVj (by simp),yYm hj,yYm (by omega)]
 have eb:(List.range l2.length).map ((xJ F T m unf (l++l2) (sub++sub2) none)∘(l.length+·))=(List.range l2.length).map (xJ F T m unf l2 sub2 none):=yWr fun j hj=>by
  funext h
  simp only[Function.comp]
  unfold xJ
  rw[yVj (by simp),yVj (by simp),yXp (by omega),yXp (by omega)]
  rw[show l.length+j-l.length=j by omega,show l.length+j-sub.length=j by omega]
 rw[ea,eb]
 exact H
theorem zFv {n:Nat} {T:Type} {m:Nat} {unf:T→Nat→AObj} {x:T} {p:Value} {l0:List Value} (ht:E.tab[n]? =some (p,l0)) {h:PH} (H:rHP E (n,.adt T m unf x) h):zKy E.F T m unf x p l0 h:=by
 rcases H with⟨e,_⟩|⟨hd,h1,h2⟩
 ·cases e
 ·rw[ht]at h1;cases h1
  simp only[rowHP]at h2
  exact h2
theorem zTt {n:Nat} {T:Type} {m:Nat} {unf:T→Nat→AObj} {x:T} {p:Value} {l0:List Value} (ht:E.tab[n]? =some (p,l0)) {h:PH} (H:zKy E.F T m unf x p l0 h):rHP E (n,.adt T m unf x) h:=
 .inr ⟨_,ht,by simp only[rowHP];exact H⟩
theorem Rel.out {A:HP} {E:Ev} {s:St} (R:Rel k (A::L) E s w):Hp k w (A::(s.rows.map (rHP E)++fz E.F::L)):=by
 refine R.hp.perm ?_
 have:(fz E.F::A::L).Perm (A::fz E.F::L):= .swap _ _ _
 exact(this.append_left _).trans yWa
theorem Rel.inn {A:HP} {E:Ev} {s:St} (hn:E.tab.length=s.nx) (H:Hp k w (A::(s.rows.map (rHP E)++fz E.F::L))):Rel k (A::L) E s w:=by
 refine⟨hn,H.perm ?_⟩
 have:(fz E.F::A::L).Perm (A::fz E.F::L):= .swap _ _ _
 exact((this.append_left _).trans yWa).symm
theorem Rel.impL {A B:HP} {E:Ev} {s:St} (R:Rel k (A::L) E s w) (h:∀x,A x→B x):Rel k (B::L) E s w:=Rel.inn R.nx (R.out.imp h)
theorem Rel.take {E:Ev} {s:St} (R:Rel k L E s w) {n:Nat} {o:AObj} (h:s.get n=some o):Rel k (rHP E (n,o)::L) E (s.del n) w:=Rel.inn R.nx (R.focus h)
theorem Rel.takeF {E:Ev} {s:St} (R:Rel k L E s w) {n:Nat} {o:AObj} (h:s.get n=some o):Rel k (rHP E (n,o)::L) E (s.delF n o) w:=by
 cases o with
 |fro sz els=>
  obtain⟨hd,x,h1,h2,h3⟩:=R.row h (by simp)
  refine⟨R.nx,?_⟩
  have H:Hp k w ((fun h=>h=pe)::(s.rows.map (rHP E)++fz E.F::L)):=yDt R.hp
  simp only[rowHP]at h2
  have H1:Hp k w (rHP E (n,.fro sz els)::(s.rows.map (rHP E)++fz E.F::L)):=H.imp fun y hy=> .inr ⟨hd,h1,by simp only[rowHP];exact⟨hy,h2.2⟩⟩
  refine H1.perm ?_
  have:(rHP E (n,.fro sz els)::fz E.F::L).Perm (fz E.F::rHP E (n,.fro sz els)::L):= .swap _ _ _
  exact yWa.symm.trans (this.append_left _)
 |_=>exact R.take h
theorem Rel.takeOut (R:Rel k L E s w) {n t i:Nat} {T:Type} {m:Nat} {unf:T→Nat→AObj} {l:List T} (h:s.get n=some (.objs t T m unf l none)) {x:T} (hx:l[i]? =some x) {y:Value} (hv:VR E (.sub n i) y):
 ∃E1,E.le E1∧Rel k L E1 ((s.set n (.objs t T m unf l (some i))).new (.adt T m unf x)) w∧VR E1 (.nm s.nx 0) y∧∃l0,E1.tab[s.nx]? =some (y,l0):=by
 obtain⟨a,c,sub,h1,h2,h3,H⟩:=zBd R h
 simp only[VR]at hv
 obtain⟨hd,l',b,oo,e1,e2,e3⟩:=hv
 rw[h1]at e1;cases e1
 obtain⟨l0,H1⟩:=z9t hx e2 (H.perm yWa.symm)
 have H2:Hp k w (slO t 1 a l.length c sub::((List.range l.length).map (xJ E.F T m unf l sub (some i))++(zKy E.F T m unf x y l0::((wX n s.rows).map (rHP E)++fz E.F::L)))):=
  H1.perm ((yWa.symm.trans (List.Perm.append_left _ (.swap _ _ _))).trans yWa)
 have H3:=(zKs h1 h2 h3 H2).swap
 have H4:Hp k w (zKy E.F T m unf x y l0::((zPu n (.objs t T m unf l (some i)) s.rows).map (rHP E)++fz E.F::L)):=by
  refine H3.cons ?_
  have:=(((gC h).2 (.objs t T m unf l (some i))).map (rHP E)).append_right (fz E.F::L)
  simpa using this.symm
 have H5:Hp k w ((zPu n (.objs t T m unf l (some i)) s.rows).map (rHP E)++(zKy E.F T m unf x y l0::fz E.F::L)):=H4.perm yWa.symm
 have hle:E.le ⟨E.F,E.tab++[(y,l0)]⟩:=⟨FLe.refl _,yZd _ _⟩
 have hget:(E.tab++[((y,l0):Hd)])[s.nx]? =some (y,l0):=by rw[← R.nx];simp
 have H6:=wE (fun r x=>rHP.mono hle r) H5
 have H7:Hp k w (zKy E.F T m unf x y l0::((zPu n (.objs t T m unf l (some i)) s.rows).map (rHP ⟨E.F,E.tab++[(y,l0)]⟩)++fz E.F::L)):=H6.perm yWa
 refine⟨⟨E.F,E.tab++[(y,l0)]⟩,hle,⟨by simp[St.new,St.set,R.nx],?_⟩,by simp only[VR];exact⟨b,oo,l0,by rw[hget,e3],e3⟩,l0,hget⟩
 exact H7.imp fun z hz=>zTt (E:=⟨E.F,E.tab++[(y,l0)]⟩) hget hz
theorem Rel.putBack (R:Rel k L E s w) {n t i z:Nat} {T:Type} {m:Nat} {unf:T→Nat→AObj} {l:List T} {x:T} (ha:s.get z=some (.adt T m unf x)) (h:(s.del z).get n=some (.objs t T m unf l (some i))) (hi:i<l.length)
 {y:Value} {l0:List Value} (hz:E.tab[z]? =some (y,l0)) (hs:∀v sub,E.tab[n]? =some (v,sub)→sub[i]? =some y):Rel k L E ((s.del z).set n (.objs t T m unf (l.set i x) none)) w:=by
 have R1:=R.take ha
 obtain⟨a,c,sub,h1,h2,h3,H⟩:=zBd R1 h
 have hp:=hs _ _ h1
 have H1:Hp k w (rHP E (z,.adt T m unf x)::((List.range l.length).map (xJ E.F T m unf l sub (some i))++(slO t 1 a l.length c sub::((wX n (s.del z).rows).map (rHP E)++fz E.F::L)))):=by
  refine H.perm ?_
  have p1:((wX n (s.del z).rows).map (rHP E)++fz E.F::rHP E (z,.adt T m unf x)::L).Perm (rHP E (z,.adt T m unf x)::((wX n (s.del z).rows).map (rHP E)++fz E.F::L)):=
   (List.Perm.append_left _ (.swap _ _ _)).trans yWa
  refine(List.Perm.cons _ ((List.Perm.append_left _ p1).trans yWa)).trans ((List.Perm.swap _ _ _).trans (List.Perm.cons _ yWa.symm))
 have H2:=yFc hi hp (H1.imp fun q hq=>zFv hz hq)
 have H3:Hp k w (rHP E (n,.objs t T m unf (l.set i x) none)::((wX n (s.del z).rows).map (rHP E)++fz E.F::L)):=by
  refine zKs (a:=a) (c:=c) (sub:=sub) (by rw[yWq];exact h1) (by rw[yWq];exact h2) h3 ?_
  rw[yWq]
  exact H2.perm yWa
 refine⟨by simpa[St.set,St.del]using R1.nx,H3.perm ?_⟩
 have:=(((gC h).2 (.objs t T m unf (l.set i x) none)).map (rHP E)).append_right (fz E.F::L)
 simpa[St.set]using this.symm
theorem zDu {rows:List (Nat×AObj)} {nx t:Nat} {T:Type} {m:Nat} {unf:T→Nat→AObj} {l:List T} {a:Option Addr} {c:Nat} {sub:List Value} (hn:E.tab.length=nx) (hl:sub.length=l.length) (hp:yId sub)
 (H:Hp k w (slO t 1 a l.length c sub::((List.range l.length).map (xJ E.F T m unf l sub none)++(rows.map (rHP E)++fz E.F::L)))):
 ∃E',E.le E'∧Rel k L E' ⟨(nx,.objs t T m unf l none)::rows,nx+1⟩ w∧VR E' (.own nx) (.slice a l.length c):=by
 have hle:E.le ⟨E.F,E.tab++[(.slice a l.length c,sub)]⟩:=⟨FLe.refl _,yZd _ _⟩
 have hget:(E.tab++[((.slice a l.length c,sub):Hd)])[nx]? =some (.slice a l.length c,sub):=by rw[← hn];simp
 refine⟨⟨E.F,E.tab++[(.slice a l.length c,sub)]⟩,hle,⟨by simp[hn],?_⟩,by simp only[VR];exact⟨sub,hget,_,_,_,rfl⟩⟩
 have H0:Hp k w (rows.map (rHP E)++(slO t 1 a l.length c sub::((List.range l.length).map (xJ E.F T m unf l sub none)++fz E.F::L))):=by
  refine H.perm ?_
  refine(List.Perm.cons _ ?_).trans yWa.symm
  rw[← yVq,← yVq]
  exact List.Perm.append_right _ yXj
 have H1:=wE (fun r x=>rHP.mono hle r) H0
 have H2:Hp k w (slO t 1 a l.length c sub::((List.range l.length).map (xJ E.F T m unf l sub none)++(rows.map (rHP ⟨E.F,E.tab++[(.slice a l.length c,sub)]⟩)++fz E.F::L))):=by
  refine H1.perm (yWa.trans (List.Perm.cons _ ?_))
  rw[← yVq,← yVq]
  exact List.Perm.append_right _ yXj
 exact zKs (E:=⟨E.F,E.tab++[(.slice a l.length c,sub)]⟩) hget hl hp H2
open Go Go.RowKit Cv
def Outc (k:Ko) (L:List HP) (E:Ev) (K:V→St→Prop) (y:Value) (w':World):Prop:=∃E' v s',E.le E'∧Rel k L E' s' w'∧VR E' v y∧K v s'
@[reducible] def Hnd:=FuncId→List V→St→(V→St→Prop)→Prop
def HOk (P:Program) (H:Hnd):Prop:=∀f args s K,H f args s K→∀(k:Ko) (L:List HP) (E:Ev) (w:World) (ys:List Value),Rel k L E s w→VRL E args ys→Does P (callFunc f ys.toArray) w (Outc k L E K)
structure SlI where
 e:TypeId
 sz:Nat
 by_:Nat
 z:List D
def b7 (P:Program) (t:TypeId):Option SlI:=
 match uI P t with
 |some (e,sz,by_,z)=>bif Nat.beq z.size sz && z.toList.all (·.oneC)then some ⟨e,sz,by_,p9 P (zBg P 6 e) (z.toList.map .v)⟩else none
 |none=>none
theorem z7m {F:PH}:∀{l:List Value},(l.all (·.oneC))=true→DRL F (l.map .v) l
 |[],_=>by simp[DRL]
 |y::l,h=>by
  simp only[List.all_cons,yVy]at h
  simp only[yVz,DRL,DR]
  exact⟨y,l,rfl,⟨rfl,h.1⟩,z7m h.2⟩
theorem gP {P:Program} {t:TypeId} {i:SlI} (h:b7 P t=some i):∃z,uI P t=some (i.e,i.sz,i.by_,z)∧z.size=i.sz∧i.z.length=i.sz∧∀F,DRL F i.z z.toList:=by
 unfold b7 at h
 split at h<;>first|(cases h;done)|skip
 rename_i e sz by_ z hz
 obtain⟨hb,h⟩:=bF h
 cases h
 simp only[yVy]at hb
 have h1:=yVo hb.1
 exact⟨z,hz,h1,by rw[zOo,yVk,y0f,h1],fun F=>zKo (z7m hb.2)⟩
def z5r {α:Type} (l:List α) (o:Nat) (vs:List α):List α:=l.take o++(vs++l.drop (o+vs.length))
theorem zTr {α:Type} {sz:Nat}:∀{els:List (List α)} (i:Nat) (ds:List α),(∀el∈els,el.length=sz)→i<els.length→ds.length=sz→
 (els.set i ds).flatten=z5r els.flatten (i*sz) ds
 |[],i,ds,_,h,_=>by simp at h
 |el::els,0,ds,hu,h,hd=>by
  simp only[y1g,yXq,z5r,Nat.zero_mul,y0j,yYa,yWi]
  rw[hd,← hu el yVp,List.drop_left]
 |el::els,i+1,ds,hu,h,hd=>by
  have ih:=zTr (els:=els) i ds (fun e he=>hu e (yVr _ he)) (by simpa using h) hd
  simp only[y1h,yXq,z5r]at ih ⊢
  rw[ih]
  have e1:=hu el yVp
  rw[yZb,y0y (i*sz) sz,List.take_append,y0i,e1]
  rw[yVx (show el.length≤sz+i*sz by omega),show sz+i*sz-sz=i*sz by omega,yYt (show el.length≤sz+i*sz+ds.length by omega),show sz+i*sz+ds.length-sz=i*sz+ds.length by omega]
  simp
theorem zQv {F:PH} {ds es:List D} {l m:List Value} (h1:DRL F ds l) (h2:DRL F es m) (o:Nat):DRL F (ds.take o++(es++ds.drop (o+es.length))) (spl l o m):=by
 unfold spl
 rw[yVq]
 have:=h2.length
 rw[this]
 exact(h1.take o).append (h2.append (h1.drop _))
def zVx (P:Program) (e sz:Nat):St→List (Nat×V)→List (List D)→Option (List (List D)×St)
 |s,[],els=>some (els,s)
 |s,(i,v)::ps,els=>match elD P s e v with
  |some (ds,s')=>bif Nat.beq ds.length sz && Nat.blt i els.length then zVx P e sz s' ps (els.set i ds)else none
  |none=>none
theorem yEz {α:Type} {sz:Nat} {els:List (List α)} {i:Nat} {ds:List α} (hu:∀el∈els,el.length=sz) (hd:ds.length=sz):∀el∈els.set i ds,el.length=sz:=by
 intro el hel
 rcases List.mem_or_eq_of_mem_set hel with h|rfl
 ·exact hu el h
 ·exact hd
theorem zTz {P:Program} {k:Ko} {L:List HP} {w:World} {e sz:Nat}:∀{ps:List (Nat×V)} {E:Ev} {s:St} (R:Rel k L E s w) {els els':List (List D)} {s':St} {qs:List (Nat×Value)} {cs:List Value},
 zVx P e sz s ps els=some (els',s')→PRL E ps qs→(∀el∈els,el.length=sz)→DRL E.F els.flatten cs→
 ∃E' cs',E.le E'∧E'.tab=E.tab∧Rel k L E' s' w∧s'.nx=s.nx∧(∀el∈els',el.length=sz)∧els'.length=els.length∧DRL E'.F els'.flatten cs'∧Instr.fill (fun i=>some (i*sz,sz)) cs.toArray qs=some cs'.toArray
 |[],E,s,R,els,els',s',qs,cs,h,hp,hu,hc=>by
  simp only[zVx,Option.some.injEq,Prod.mk.injEq]at h
  obtain⟨rfl,rfl⟩:=h
  simp only[PRL]at hp
  subst hp
  exact⟨E,cs,Ev.le.refl _,rfl,R,rfl,hu,rfl,hc,rfl⟩
 |(i,v)::ps,E,s,R,els,els',s',qs,cs,h,hp,hu,hc=>by
  simp only[zVx]at h
  simp only[PRL]at hp
  obtain⟨y,qs,rfl,hv,hp⟩:=hp
  split at h<;>first|(cases h;done)|skip
  rename_i ds s1 hd
  obtain⟨hb,h⟩:=bF h
  simp only[yVy]at hb
  have hlen:=yVo hb.1
  have hi:i<els.length:=by simpa[yYi]using hb.2
  obtain⟨E1,ys,q1,q2,q3,q4,q5,q6⟩:=zIz R hd hv
  have hp1:PRL E1 ps qs:=by
   have:∀{ps:List (Nat×V)} {qs:List (Nat×Value)},PRL E ps qs→PRL E1 ps qs:=by
    intro ps
    induction ps with
    |nil=>intro qs h;exact h
    |cons p ps ih=>obtain⟨i,v⟩:=p;intro qs h;obtain⟨y,ys,h1,h2,h3⟩:=h;exact⟨y,ys,h1,h2.mono q1,ih h3⟩
   exact this hp
  have hc1:DRL E1.F (els.set i ds).flatten (spl cs (i*sz) ys):=by
   rw[zTr i ds hu hi hlen]
   exact zQv (hc.mono q1.1) q6 (i*sz)
  obtain⟨E2,cs',r1,r2,r3,r4,r5,r6,r7,r8⟩:=zTz q3 h hp1 (yEz hu hlen) hc1
  refine⟨E2,cs',q1.trans r1,r2.trans q2,r3,r4.trans q4,r5,by rw[r6,yWq],r7,?_⟩
  have hyl:ys.length=sz:=by rw[q6.length,hlen]
  have hcl:cs.length=els.length*sz:=by rw[hc.length,wN hu]
  have hin:i*sz+sz≤els.length*sz:=by
   have:=yXm sz (show i+1≤els.length by omega)
   rwa [yZb]at this
  have hysz:y.cells.size=sz:=by rw[q5,yZi,hyl]
  have hbb:(decide (y.cells.size≠sz)||decide (i*sz+y.cells.size>cs.toArray.size))=false:=by
   rw[hysz,yZi]
   simp;omega
  have hfold:y.cells.zipIdx.foldl (fun(cs:Array Value) (p:Value×Nat)=>cs.setIfInBounds (i*sz+p.2) p.1) cs.toArray=(spl cs (i*sz) ys).toArray:=by
   have hz:ys.toArray.zipIdx=(ys.zipIdx).toArray:=by
    apply Array.ext'
    simp
   rw[q5,hz,List.foldl_toArray]
   rw[zJo (off:=i*sz) ys 0 cs (by omega)]
   rfl
  simp only[Instr.fill]
  rw[yVj (by rw[hbb];simp),hfold]
  exact r8
theorem mV {z:List Value}:∀n,(eN z.toArray (n*z.length)).toList=(List.replicate n z).flatten
 |0=>by simp[eN]
 |n+1=>by
  have ih:=mV (z:=z) n
  simp only[eN,yZi]at ih ⊢
  rw[yZj,yXq,← ih,yZb,y0y,List.range_add,yVu]
  congr 1
  ·apply y0b
   intro i
   rw[yWt]
   by_cases hi:i<z.length
   ·rw[yZk hi]
    simp only[yXi,Nat.mod_eq_of_lt hi]
    rw[yVs]
    rw[yWp hi]
    rfl
   ·rw[yWk (by simpa using Nat.not_lt.1 hi),yWk (Nat.not_lt.1 hi)]
    rfl
  ·rw[yXz]
   refine yWr fun j _=> ?_
   simp only[Function.comp,Nat.add_mod_left]
theorem zPj {F:PH} {ds:List D} {l:List Value} (h:DRL F ds l):∀n,DRL F (List.replicate n ds).flatten (List.replicate n l).flatten
 |0=>by simp[DRL]
 |n+1=>by simp only[yZj,yXq];exact h.append (zPj h n)
theorem zCh {α:Type} {ds:List α} {n sz:Nat} (h:ds.length=sz):∀el∈List.replicate n ds,el.length=sz:=by
 intro el hel
 rw[(List.mem_replicate.1 hel).2];exact h
def yH (els:List (List D)) (i f:Nat) (ds:List D):List (List D):=els.modify i fun el=>el.take f++(ds++el.drop (f+ds.length))
def yEu:V→Bool
 | .top=>false
 | .agg _=>false
 | .tup _=>false
 |_=>true
def zSb:List V→Bool
 |[]=>true
 |v::l=>bif yEu v then zSb l else false
theorem zSl {E:Ev}:∀{vs:List V} {l:List Value},zSb vs=true→VRL E vs l→∀y∈l,y.oneC=true
 |[],l,_,h=>by simp only[VRL]at h;subst h;simp
 |v::vs,l,hb,h=>by
  simp only[VRL]at h
  obtain⟨x,xs,rfl,h1,h2⟩:=h
  simp only[zSb]at hb
  obtain⟨hb1,hb2⟩:yEu v=true∧zSb vs=true:=by
   revert hb
   generalize yEu v=b
   cases b<;>simp
  intro y hy
  rcases yWf.1 hy with rfl|hy
  ·cases v<;>simp only[yEu,yWc]at hb1<;>simp only[VR]at h1
   ·rename_i d;exact DRL.one (F:=E.F) (vs:=[d]) (l:=[y]) (by simp only[DRL];exact⟨_,_,rfl,h1,rfl⟩) y (by simp)
   ·obtain⟨_,_,_,_,rfl⟩:=h1;rfl
   ·obtain⟨_,_,_,_,_,_,rfl⟩:=h1;rfl
   ·obtain⟨_,_,_,_,_,_,_,rfl,_⟩:=h1;rfl
   ·obtain⟨_,_,_,_,rfl⟩:=h1;rfl
   ·obtain⟨_,_,_,_,_,rfl⟩:=h1;rfl
   ·obtain⟨_,_,_,rfl⟩:=h1;rfl
   ·obtain⟨_,_,_,_,_,_,rfl⟩:=h1;rfl
   ·obtain⟨_,_,rfl,_⟩:=h1;rfl
   ·obtain⟨_,rfl,_⟩:=h1;rfl
  ·exact zSl hb2 h2 y hy
def zPl (s:St) (sz:Nat):V→Option (List (List D))
 | .d (.v (.slice none 0 0))=>some []
 | .d (.v (.string b))=>bif Nat.beq sz 1 then some (yV b)else none
 |v=>match nF s v with
  |some (sz',els)=>bif Nat.beq sz sz' then some els else none
  |none=>none
def zRw (P:Program) (t1 t2:TypeId) (s:St) (x y:V) (K:V→St→Prop):Prop:=
 optK (b7 P t1) fun i=>bif zXb P t2 && Nat.blt 0 i.by_ then optK (zPl s i.sz y) fun ys=>
  match x with
  | .d (.v (.slice none 0 0))=>ys.length*i.by_≤140737488355328∧K (.own s.nx) (s.new (.own i.e i.sz ys))
  | .own n=>match s.get n with
    |some (.own T sz els)=>bif Nat.beq T i.e && Nat.beq sz i.sz then(els.length+ys.length)*i.by_≤140737488355328∧K (.own s.nx) ((s.del n).new (.own i.e i.sz (els++ys)))else False
    |_=>False
  |_=>False else False
def yFi:V→Bool
 | .agg l=> !(Nat.beq l.length 1)
 | .d _=>true
 |_=>false
def zPa:List V→St→(List V→St→Prop)→Prop
 |[],s,K=>K [] s
 |v::l,s,K=>match v with
  | .d (.ro sz els)=>zPa l (s.new (.fro sz els)) fun l' s'=>K (.own s.nx::l') s'
  |v=>zPa l s fun l' s'=>K (v::l') s'
def zIw (P:Program) (t1 t2:TypeId) (s:St) (x y:V) (K:V→St→Prop):Prop:=
 match y with
 | .own n2=>(match s.get n2 with
   |some (.objs _ T2 m2 unf2 l2 none)=>optK (b7 P t1) fun i=>bif zXb P t2 && Nat.blt 0 i.by_ && Nat.beq i.sz 1 then(match x with
    | .d (.v (.slice none 0 0))=>l2.length*i.by_≤140737488355328∧K (.own s.nx) ((s.del n2).new (.objs i.e T2 m2 unf2 l2 none))
    | .own n=>(match(s.del n2).get n with
      |some (.objs t1' T1 m1 unf1 l1 none)=>∃l1':List T2,AObj.objs t1' T1 m1 unf1 l1 none=AObj.objs i.e T2 m2 unf2 l1' none∧(l1'.length+l2.length)*i.by_≤140737488355328∧K (.own s.nx) (((s.del n2).del n).new (.objs i.e T2 m2 unf2 (l1'++l2) none))
      |_=>False)
    |_=>False)else False
   |_=>False)
 |_=>False
def yCc (s:St):V→Bool
 | .own n=>match eX s n with
   |some _=>true
   |none=>false
 |_=>false
def yJk (n i a:Nat) (v:V) (s:St) (K:V→St→Prop):Prop:=
 match s.get a with
 |some o=>(match(s.del a).get n with
  |some (.objs t T m unf l (some j))=>∃x:T,o=.adt T m unf x∧j=i∧i<l.length∧K v ((s.del a).set n (.objs t T m unf (l.set i x) none))
  |_=>False)
 |none=>False
def yBg (H:Hnd) (f:FuncId) (args:List V) (s:St) (K:V→St→Prop):Prop:=
 match args with
 | .sub n i::rest=>(match s.get n with
   |some (.objs t T m unf l none)=>∃x:T,l[i]?=some x∧H f (.nm s.nx 0::rest) ((s.set n (.objs t T m unf l (some i))).new (.adt T m unf x)) fun v s'=>yJk n i s.nx v s' K
   |_=>False)
 |args=>H f args s K
def yGb (P:Program) (t:TypeId):Option TypeId:=
 match P.underlying t with
 |some (.slice e)=>(match P.underlying e with
  |some (.int .u8)=>some e
  |_=>none)
 |_=>none
theorem zMl {P:Program} {t e:TypeId} (h:yGb P t=some e):P.underlying t=some (.slice e)∧P.underlying e=some (.int .u8):=by
 unfold yGb at h
 split at h<;>first|(cases h;done)|skip
 rename_i e' he
 split at h<;>first|(cases h;done)|skip
 rename_i hu
 cases h
 exact⟨he,hu⟩
def zRj:List (Nat×V)→Option Nat
 |[(0,.nm m 0)]=>some m
 |_=>none
def se (P:Program) (H:Hnd) (o:Oper) (ρ:yY) (s:St) (K:V→St→Prop):Prop:=
 match o.op with
 | .alloc e=>optK (b6 P e) fun z=>bif rP (toV z)then K (.nm s.nx 0) (s.new (.cells (toV z).cl e))else False
 | .box e x=>bif rP (sev ρ x)then zPa (sev ρ x).cl s fun vs s=>K (.nm s.nx 0) (s.new (.cells vs e))else False
 | .buildSlice t len ps=>match zRj (lZ ρ ps.toList)with
   |some m=>(match s.get m with
    |some (.adt T mm unf x)=>optK (b7 P t) fun i=>bif Nat.beq i.sz 1 && Nat.beq len 1 then K (.own s.nx) ((s.del m).new (.objs i.e T mm unf [x] none))else False
    |_=>False)
   |none=>optK (b7 P t) fun i=>bif Nat.ble (len*i.sz) 16777216 then match zVx P i.e i.sz s (lZ ρ ps.toList) (List.replicate len i.z)with
   |some (els,s')=>K (.own s'.nx) (s'.new (.own i.e i.sz els))
   |none=>False else False
 | .makeMap _ none=>K (.mp s.nx) (s.new (.map []))
 | .makeSlice t l c=>match sev ρ l,sev ρ c with
   | .d (.v (.int _ l)),.d (.v (.int _ c))=>optK (b7 P t) fun i=>(0≤l∧l≤c∧c≤9223372036854775807∧(i.by_:Int)*c≤2 ^ 48)∧K (.own s.nx) (s.new (.own i.e i.sz (List.replicate l.toNat i.z)))
   |_,_=>False
 | .store t x v=>match sev ρ x with
   | .nm n off=>bif rP (sev ρ v)then zPa (sev ρ v).cl s fun us s=>match s.get n with
     |some (.cells vs T)=>optK (sP P t) fun m=>bif Nat.beq us.length m && Nat.ble (off+m) vs.length && zSb us then
       K (.tup []) (s.set n (.cells (vs.take off++(us++vs.drop (off+m))) T))else False
     |_=>False
     else False
   | .el n sz i f=>match elD P s t (sev ρ v)with
     |some (ds,s')=>match s'.get n with
      |some (.own T sz' els)=>optK (sP P t) fun m=>bif Nat.beq sz sz' && Nat.beq ds.length m && Nat.ble (f+m) sz then i<els.length∧K (.tup []) (s'.set n (.own T sz (yH els i f ds)))else False
      |some (.mrk T els)=>optK (sP P t) fun m=>bif Nat.beq sz 1 && Nat.beq ds.length 1 && Nat.beq m 1 && Nat.beq f 0 then i<els.length∧K (.tup []) (s'.set n (.mrk T (yH els i 0 ds)))else False
      |_=>False
     |none=>False
   | .na n off i=>match sev ρ v with
     | .d (.v u)=>(match s.get n with
       |some (.cells vs T)=>optK (sP P t) fun m=>bif Nat.beq m 1 then i<(vs.drop off).length∧K (.tup []) (s.set n (.cells (vs.take off++(vs.drop off).set i (.d (.v u))) T))else False
       |some (.vec ds T)=>optK (sP P t) fun m=>bif Nat.beq m 1 then i<(ds.drop off).length∧K (.tup []) (s.set n (.vec (ds.take off++(ds.drop off).set i (.v u)) T))else False
       |_=>False)
     |_=>False
   |_=>False
 | .slice t x lo hi none=>match sev ρ x with
   | .own n=>match s.get n with
     |some (.own T sz els)=>optK (gU P t) fun sz'=>bif Nat.beq sz sz' then zGn (zLz ρ lo) (zLz ρ hi) fun l h=>match l,h with
      |none,none=>K (.own n) s
      |none,some h=>(0≤h∧h≤els.length)∧K (.own s.nx) ((s.del n).new (.own T sz (els.take h.toNat)))
      |some l,h=>z6b sz els (some l) h fun v=>K v (s.set n (.fro sz els))else False
     |some (.fro sz els)=>optK (gU P t) fun sz'=>bif Nat.beq sz sz' then zGn (zLz ρ lo) (zLz ρ hi) fun l h=>z6b sz els l h fun v=>K v s else False
     |_=>False
   |_=>False
 | .mapUpdate t x i v=>match sev ρ x with
   | .mp n=>optK (zLu P t) fun ke=>optK (zLv (sev ρ i)) fun kv=>bif z6h P ke.1 kv && yFi (sev ρ v)then(match elD P s ke.2 (sev ρ v)with
     |some (ds,s')=>(match s'.get n with
      |some (.map es)=>pS kv es∧K (.tup []) (s'.set n (.map (gM kv ds es)))
      |_=>False)
     |none=>False)else False
   |_=>False
 | .mapEntry t x i=>match sev ρ x with
   | .mp n=>optK (zLu P t) fun ke=>optK (zLv (sev ρ i)) fun kv=>bif z6h P ke.1 kv then optK (zMn P ke.2) fun z=>(match s.get n with
     |some (.map es)=>pS kv es∧∃b,shT P ke.2 fun ds=>LK es kv z ds b∧optK (mkM P ke.2 ds) fun v=>∀x:Int,K (.tup [v,.d (.v (.int .i64 x))]) (s.set n (.mapS (gM kv ds es) kv x))
     |_=>False)else False
   |_=>False
 | .entryStore t x st v=>match sev ρ x with
   | .mp n=>(match sev ρ st with
     | .d (.v (.int _ b))=>optK (zLu P t) fun ke=>bif yFi (sev ρ v)then(match elD P s ke.2 (sev ρ v)with
       |some (ds,s')=>(match s'.get n with
        |some (.mapS es kv b')=>b=b'∧pS kv es∧K (.tup []) (s'.set n (.map (gM kv ds es)))
        |_=>False)
       |none=>False)else False
     |_=>False)
   |_=>False
 | .convert st d x=>match sev ρ x with
   | .d (.v (.string b))=>bif lA P st then optK (yGb P d) fun e=>K (.own s.nx) (s.new (.mrk e (yV b)))else False
   | .own n=>match s.get n with
     |some (.own T sz els)=>bif Nat.beq st d && Nat.beq sz 1 then optK (yGb P d) fun e=>bif Nat.beq T e then 1≤els.length∧K (.own n) (s.set n (.fro sz els))else False else False
     |_=>False
   |_=>False
 | .range t x=>match sev ρ x with
   | .d (.v (.string b))=>bif lA P t then K (.nm s.nx 0) (s.new (.iter b 0))else False
   |_=>False
 | .next x true=>match sev ρ x with
   | .nm n 0=>match s.get n with
     |some (.iter b pos)=>cnd (Nat.blt pos b.size)
       (K (.tup [.d (.v (.bool true)),.d (.v (.int .i64 (pos:Nat))),.d (.v (.int .i32 (Utf8.decode b pos).1))]) (s.set n (.iter b (pos+(Utf8.decode b pos).2))))
       (K (.tup [.d (.v (.bool false))]) s)
     |_=>False
   |_=>False
 | .call c=>match c.callee with
   | .value x=>match sev ρ x with
     | .fn f a b=>yBg H f (a++(evs ρ c.args.toList++b)) s K
     |_=>False
   | .builtin .append=>match c.argTypes.toList with
     |[t1,t2]=>match evs ρ c.args.toList with
      |[x,y]=>bif yCc s y then zIw P t1 t2 s x y K else zRw P t1 t2 s x y K
      |_=>False
     |_=>False
   | .builtin .delete=>match evs ρ c.args.toList with
     |[.mp n,y]=>optK c.argTypes[0]? fun t=>optK (zLu P t) fun ke=>optK (zLv y) fun kv=>bif z6h P ke.1 kv then(match s.get n with
      |some (.map es)=>pS kv es∧K (.tup []) (s.set n (.map (eM kv es)))
      |_=>False)else False
     |_=>False
   |_=>False
 |_=>False
theorem vG {P:Program} {w:World} {r:Nat} {O O':Obj} (h:w.heap[r]? =some O') (hO:match O' with| .cells _ _ _=>False|_=>True):(setObj r O).run P w= .ok () (World.setB w r O):=by
 simp only[setObj,Sem.run,h]
 cases O'<;>first|exact hO.elim|rfl
theorem lL {sz:Nat}:∀{els:List (List D)} (i f:Nat) (ds:List D),(∀el∈els,el.length=sz)→i<els.length→f+ds.length≤sz→
 (yH els i f ds).flatten=z5r els.flatten (i*sz+f) ds∧∀el∈yH els i f ds,el.length=sz
 |[],i,f,ds,_,h,_=>by simp at h
 |el::els,0,f,ds,hu,h,hd=>by
  have e1:=hu el yVp
  constructor
  ·simp only[yH,List.modify_zero_cons,yXq,z5r,Nat.zero_mul,yWi]
   rw[yWm (by omega),yYd (by omega)]
   simp
  ·intro e he
   simp only[yH,List.modify_zero_cons,yWf]at he
   rcases he with rfl|he
   ·simp only[yVm,yWe,yWh];omega
   ·exact hu e (yVr _ he)
 |el::els,i+1,f,ds,hu,h,hd=>by
  have e1:=hu el yVp
  obtain⟨ih1,ih2⟩:=lL (els:=els) i f ds (fun e he=>hu e (yVr _ he)) (by simpa using h) hd
  constructor
  ·simp only[yH,y0q,yXq,z5r]at ih1 ⊢
   rw[ih1,yZb,List.take_append,y0i,e1]
   rw[yVx (show el.length≤i*sz+sz+f by omega),show i*sz+sz+f-sz=i*sz+f by omega,yYt (show el.length≤i*sz+sz+f+ds.length by omega),show i*sz+sz+f+ds.length-sz=i*sz+f+ds.length by omega]
   simp
  ·intro e he
   simp only[yH,y0q,yWf]at he ih2
   rcases he with rfl|he
   ·exact e1
   ·exact ih2 e he
theorem zMf {P:Program} {w:World} {t b o:Nat} {v y:Value} {l:List Value} {T:TypeId} (hz:sP P t=some 1) (hc:v.cells= #[y]) (ho:o<l.length) (h1:y.oneC=true)
 (hb:w.heap[b]? =some (.cells l.toArray T (l.length,l.length+1))):zLq P (storeVar t ⟨b,o,none⟩ v) w (World.setB w b (.cells (l.set o y).toArray T (l.length,l.length+1))):=by
 have hcell:w.cell? ⟨b,o,none⟩=some l[o]:=by rw[tF hb];exact yWp ho
 have hf:w.frozen? ⟨b,o,none⟩=false:=by
  simp only[World.frozen?,hb]
  simp;omega
 have hset:w.setCell ⟨b,o,none⟩ y=World.setB w b (.cells (l.set o y).toArray T (l.length,l.length+1)):=by
  unfold World.setCell World.setB
  congr 1
  apply y1f
  intro i
  rw[Array.getElem?_modify,yZg]
  have hlt:b<w.heap.size:=by
   rcases yXv b w.heap.size with h|h
   ·exact h
   ·rw[yYe h]at hb;cases hb
  by_cases hi:b=i
  ·subst hi
   have hb2:w.heap[b]= .cells l.toArray T (l.length,l.length+1):=by rw[yZs hlt]at hb;exact Option.some.inj hb
   simp[hlt,hb2]
  ·simp[hi]
 have h0:(store ⟨b,o,none⟩ y).run P w= .ok () (World.setB w b (.cells (l.set o y).toArray T (l.length,l.length+1))):=by
  unfold store
  cases y<;>first|(cases h1;done)|(simp only[Sem.run,hcell,hf,yWc,if_false,hset])
 unfold sP at hz
 split at hz<;>first|(cases hz;done)|skip
 rename_i i hi
 have hz:i.size=1:=Option.some.inj hz
 unfold zLq storeVar
 simp only[bind,run_bind,run_sizeOf hi,hc,hz]
 simp only[yZi,yVt,yXk]
 have e:(storeCells ⟨b,o,none⟩ [y] 0).run P w= .ok () (World.setB w b (.cells (l.set o y).toArray T (l.length,l.length+1))):=by
  unfold storeCells
  simp only[bind,run_bind,uJ,yZl,h0]
  unfold storeCells
  rfl
 simpa using e
theorem dX {P:Program} {w:World} {t b o n:Nat} {v:Value} {l vs:List Value} {T:TypeId} (hz:sP P t=some n) (hc:v.cells=vs.toArray) (hn:vs.length=n) (ho:o+n≤l.length) (h1:∀y∈vs,y.oneC=true)
 (hb:w.heap[b]? =some (.cells l.toArray T)):zLq P (storeVar t ⟨b,o,none⟩ v) w (World.setB w b (.cells (spl l o vs).toArray T)):=by
 unfold sP at hz
 split at hz<;>first|(cases hz;done)|skip
 rename_i i hi
 cases hz
 unfold zLq storeVar
 have:=j0 (P:=P) vs 0 o l w hb (by omega) h1
 simp only[yZl]at this
 simp only[bind,run_bind,run_sizeOf hi,hc,yZi,hn]
 simpa using this
open Go Go.RowKit Cv
variable {P:Program} {k:Ko} {L:List HP} {E:Ev} {s:St} {w:World}
theorem Ev.le.app {E:Ev} (hd:Hd):E.le ⟨E.F,E.tab++[hd]⟩:=⟨FLe.refl _,yZd _ _⟩
theorem Rel.ownOpen (R:Rel k L E s w) {n t sz:Nat} {els:List (List D)} (h:s.get n=some (.own t sz els)):
 ∃a c xs sub,E.tab[n]? =some (.slice a els.length c,sub)∧DRL E.F els.flatten xs∧(∀el∈els,el.length=sz)∧Hp k w (slO t sz a els.length c xs::((wX n s.rows).map (rHP E)++fz E.F::L)):=by
 obtain⟨hk,hs,hh⟩:=R.focus h
 cases hh with
 |cons ha hsub hd hr=>
  rcases ha with⟨e,_⟩|⟨⟨hv,sub⟩,h1,h2⟩
  ·cases e
  ·simp only[rowHP]at h2
   obtain⟨a,c,xs,rfl,q1,q2,q3⟩:=h2
   exact⟨a,c,xs,sub,h1,q1,q2,hk,_,.cons q3 hsub hd hr⟩
theorem bI {rows:List (Nat×AObj)} {nx t sz:Nat} {els:List (List D)} {a:Option Addr} {c:Nat} {xs:List Value} (hn:E.tab.length=nx) (hx:DRL E.F els.flatten xs) (hu:∀el∈els,el.length=sz)
 (H:Hp k w (slO t sz a els.length c xs::(rows.map (rHP E)++fz E.F::L))):
 ∃E',E.le E'∧Rel k L E' ⟨(nx,.own t sz els)::rows,nx+1⟩ w∧VR E' (.own nx) (.slice a els.length c):=by
 have hle:E.le ⟨E.F,E.tab++[(.slice a els.length c,[])]⟩:=⟨FLe.refl _,yZd _ _⟩
 have hget:(E.tab++[((.slice a els.length c,[]):Hd)])[nx]? =some (.slice a els.length c,[]):=by rw[← hn];simp
 refine⟨⟨E.F,E.tab++[(.slice a els.length c,[])]⟩,hle,⟨by simp[hn],?_⟩,by simp only[VR];exact⟨[],hget,_,_,_,rfl⟩⟩
 have H1:Hp k w (rows.map (rHP E)++(slO t sz a els.length c xs::fz E.F::L)):=H.perm (yWa (l₁:=rows.map (rHP E))).symm
 have H2:=wE (fun r x=>rHP.mono hle r) H1
 have H3:Hp k w (slO t sz a els.length c xs::(rows.map (rHP ⟨E.F,E.tab++[(.slice a els.length c,[])]⟩)++fz E.F::L)):=H2.perm yWa
 exact H3.imp fun x hx'=> .inr ⟨_,hget,by simp only[rowHP];exact⟨a,c,xs,rfl,hx,hu,hx'⟩⟩
theorem zBk (R:Rel k L E s w) {o:AObj} {O:Obj} {hd:Hd} {K:V→St→Prop} {v:V} {y:Value} (h:rowHP E.F o (E.tab++[hd]) hd (one w.heap.size O)) (hv:(E.tab++[hd])[s.nx]? =some hd→VR ⟨E.F,E.tab++[hd]⟩ v y) (hk:K v (s.new o)):
 Outc k L E K y (w.alloc O):=by
 obtain⟨h1,h2,h3⟩:=R.new h
 exact⟨_,v,_,h1,h2,hv h3,hk⟩
theorem Rel.setCells (R:Rel k L E s w) {n:Nat} {vs vs':List V} {T:TypeId} (h:s.get n=some (.cells vs T)) {b:Nat} {sub:List Value} (ht:E.tab[n]? =some (.pointer (some ⟨b,0,none⟩),sub)) {l':List Value} (hv:VRL E vs' l'):
 Rel k L E (s.set n (.cells vs' T)) (World.setB w b (.cells l'.toArray T)):=by
 obtain⟨hk,hs,hh⟩:=R.focus h
 cases hh with
 |cons ha hsub hd hr=>
  rcases ha with⟨e,_⟩|⟨hd',h1,h2⟩
  ·cases e
  ·rw[ht]at h1;cases h1
   simp only[rowHP]at h2
   obtain⟨b',l,e1,e2,rfl⟩:=h2
   cases e1
   have H:Hp k w (pt b (.cells l.toArray T)::((wX n s.rows).map (rHP E)++fz E.F::L)):=⟨hk,_,.cons rfl hsub hd hr⟩
   refine R.unfocus h ((H.upd (.cells l'.toArray T)).imp fun x hx=> .inr ⟨_,ht,?_⟩)
   simp only[rowHP]
   exact⟨b,l',rfl,hv,hx⟩
theorem Rel.setVec (R:Rel k L E s w) {n:Nat} {ds ds':List D} {T:TypeId} (h:s.get n=some (.vec ds T)) {b:Nat} {sub:List Value} (ht:E.tab[n]? =some (.pointer (some ⟨b,0,none⟩),sub)) {l':List Value} (hv:DRL E.F ds' l'):
 Rel k L E (s.set n (.vec ds' T)) (World.setB w b (.cells l'.toArray T)):=by
 obtain⟨hk,hs,hh⟩:=R.focus h
 cases hh with
 |cons ha hsub hd hr=>
  rcases ha with⟨e,_⟩|⟨hd',h1,h2⟩
  ·cases e
  ·rw[ht]at h1;cases h1
   simp only[rowHP]at h2
   obtain⟨b',l,e1,e2,rfl⟩:=h2
   cases e1
   have H:Hp k w (pt b (.cells l.toArray T)::((wX n s.rows).map (rHP E)++fz E.F::L)):=⟨hk,_,.cons rfl hsub hd hr⟩
   refine R.unfocus h ((H.upd (.cells l'.toArray T)).imp fun x hx=> .inr ⟨_,ht,?_⟩)
   simp only[rowHP]
   exact⟨b,l',rfl,hv,hx⟩
theorem Rel.setMap (R:Rel k L E s w) {n:Nat} {es es':List (Value×List D)} (h:s.get n=some (.map es)) {b:Nat} {sub:List Value} (ht:E.tab[n]? =some (.map (some b),sub)):
 ∃ents ck,MR E.F es ents∧w.heap[b]? =some (.map ents.toArray ck)∧wV ents ck∧∀ents' ck',MR E.F es' ents'→wV ents' ck'→Rel k L E (s.set n (.map es')) (World.setB w b (.map ents'.toArray ck')):=by
 obtain⟨hk,hs,hh⟩:=R.focus h
 cases hh with
 |cons ha hsub hd hr=>
  rcases ha with⟨e,_⟩|⟨hd',h1,h2⟩
  ·cases e
  ·rw[ht]at h1;cases h1
   simp only[rowHP]at h2
   obtain⟨b',ents,ck,e1,e2,e3,rfl⟩:=h2
   cases e1
   have H:Hp k w (pt b (.map ents.toArray ck)::((wX n s.rows).map (rHP E)++fz E.F::L)):=⟨hk,_,.cons rfl hsub hd hr⟩
   refine⟨ents,ck,e2,H.get,e3,fun ents' ck' hm hbo=>R.unfocus h ((H.upd (.map ents'.toArray ck')).imp fun x hx=> .inr ⟨_,ht,?_⟩)⟩
   simp only[rowHP]
   exact⟨b,ents',ck',rfl,hm,hbo,hx⟩
theorem Rel.setMapE (R:Rel k L E s w) {n:Nat} {es es':List (Value×List D)} {kv:Value} (h:s.get n=some (.map es)) {b:Nat} {sub:List Value} (ht:E.tab[n]? =some (.map (some b),sub)):
 ∃ents ck,MR E.F es ents∧w.heap[b]? =some (.map ents.toArray ck)∧wV ents ck∧∀ents' ck' x,MR E.F es' ents'→wV ents' ck'→zGx ents' kv x→Rel k L E (s.set n (.mapS es' kv x)) (World.setB w b (.map ents'.toArray ck')):=by
 obtain⟨hk,hs,hh⟩:=R.focus h
 cases hh with
 |cons ha hsub hd hr=>
  rcases ha with⟨e,_⟩|⟨hd',h1,h2⟩
  ·cases e
  ·rw[ht]at h1;cases h1
   simp only[rowHP]at h2
   obtain⟨b',ents,ck,e1,e2,e3,rfl⟩:=h2
   cases e1
   have H:Hp k w (pt b (.map ents.toArray ck)::((wX n s.rows).map (rHP E)++fz E.F::L)):=⟨hk,_,.cons rfl hsub hd hr⟩
   refine⟨ents,ck,e2,H.get,e3,fun ents' ck' x hm hbo hst=>R.unfocus h ((H.upd (.map ents'.toArray ck')).imp fun y hy=> .inr ⟨_,ht,?_⟩)⟩
   simp only[rowHP]
   exact⟨b,ents',ck',rfl,hm,hbo,hst,hy⟩
theorem Rel.setMapF (R:Rel k L E s w) {n:Nat} {es es':List (Value×List D)} {kv:Value} {x:Int} (h:s.get n=some (.mapS es kv x)) {b:Nat} {sub:List Value} (ht:E.tab[n]? =some (.map (some b),sub)):
 ∃ents ck,MR E.F es ents∧w.heap[b]? =some (.map ents.toArray ck)∧wV ents ck∧zGx ents kv x∧∀ents' ck',MR E.F es' ents'→wV ents' ck'→Rel k L E (s.set n (.map es')) (World.setB w b (.map ents'.toArray ck')):=by
 obtain⟨hk,hs,hh⟩:=R.focus h
 cases hh with
 |cons ha hsub hd hr=>
  rcases ha with⟨e,_⟩|⟨hd',h1,h2⟩
  ·cases e
  ·rw[ht]at h1;cases h1
   simp only[rowHP]at h2
   obtain⟨b',ents,ck,e1,e2,e3,e4,rfl⟩:=h2
   cases e1
   have H:Hp k w (pt b (.map ents.toArray ck)::((wX n s.rows).map (rHP E)++fz E.F::L)):=⟨hk,_,.cons rfl hsub hd hr⟩
   refine⟨ents,ck,e2,H.get,e3,e4,fun ents' ck' hm hbo=>R.unfocus h ((H.upd (.map ents'.toArray ck')).imp fun y hy=> .inr ⟨_,ht,?_⟩)⟩
   simp only[rowHP]
   exact⟨b,ents',ck',rfl,hm,hbo,hy⟩
theorem z6m {l:List MapEntry} (hn:(l.map (·.born)).Nodup):∀{q:Nat} {m:MapEntry},l[q]? =some m→l.findIdx? (fun e=>((e.born:Nat):Int)==((m.born:Nat):Int))=some q:=by
 induction l with
 |nil=>intro q m h;simp at h
 |cons a l ih=>
  intro q m h
  simp only[yVz,yXy]at hn
  cases q with
  |zero=>simp at h;subst h;simp[List.findIdx?_cons]
  |succ q=>
   simp only[yXe]at h
   have hne:a.born≠m.born:=fun e=>hn.1 (e▸yWy.2 ⟨m,yVv h,rfl⟩)
   have hne':¬((a.born:Nat):Int)=((m.born:Nat):Int):=by omega
   rw[List.findIdx?_cons,yVj (by simpa using hne'),ih hn.2 h]
   rfl
theorem z5m {F:PH} {P:Program} {t:TypeId} {ds:List D} {v:V} (h:zMn P t=some ds) (hm:mkM P t ds=some v):∃z ys,b6 P t=some z∧DRL F ds ys∧z=mC ys:=by
 unfold zMn at h
 split at h
 ·rename_i cs hz
  split at h<;>first|(cases h;done)|skip
  rename_i n hn
  obtain⟨hb,h⟩:=y3 h
  cases h
  simp only[mkM,hn]at hm
  obtain⟨hb2,hm⟩:=y3 hm
  simp only[yVy,yYl]at hb2
  have h1:=yVo hb2.1
  refine⟨_,cs.toList,hz,z7m hb,?_⟩
  unfold mC
  split
  ·rename_i y hy
   rw[hy]at h1
   simp only[yVz,yZc,yVt,yXk]at h1
   rw[← h1]at hb2
   exact absurd hb2.2 (by decide)
  ·rfl
 ·rename_i z hne hz
  split at h<;>first|(cases h;done)|skip
  rename_i hn
  obtain⟨hb,h⟩:=y3 h
  cases h
  exact⟨z,[z],hz,by simp only[DRL,DR];exact⟨_,_,rfl,⟨rfl,hb⟩,rfl⟩,rfl⟩
 ·cases h
theorem zPs {F:PH} {x:Value} {ds:List D} {ys:List Value} (hd:DRL F ds ys) {e:MapEntry} (h1:e.key=x) (h2:e.val=mC ys):∀{es:List (Value×List D)} {ents:List MapEntry},MR F es ents→MR F (es++[(x,ds)]) (ents++[e])
 |[],ents,h=>by
  simp only[MR]at h
  subst h
  simp only[yYa,MR]
  exact⟨e,[],rfl,h1,⟨ys,hd,h2⟩,rfl⟩
 |(y,d)::es,ents,h=>by
  simp only[MR]at h
  obtain⟨m,ms,rfl,q1,q2,q3⟩:=h
  simp only[yXb,MR]
  exact⟨m,_,rfl,q1,q2,zPs hd h1 h2 q3⟩
theorem zBl {kd:TypeDesc} {x:Value} (hk:zTm kd x):Instr.sameBits 10000 x x=true:=by
 rcases hk with⟨ik,k,n,rfl,rfl⟩|⟨s,rfl,rfl⟩<;>simp only[Instr.sameBits]
 ·simp
 ·rw[z2c];simp
theorem zSj {E:Ev} {v:V} (hv:yFi v=true) {y:Value} (h:VR E v y) {ys:List Value} (hc:y.cells=ys.toArray):y=mC ys:=by
 cases v<;>simp only[yFi,yWc]at hv
 ·rename_i d
  simp only[VR]at h
  have h1:y.oneC=true:=DRL.one (F:=E.F) (vs:=[d]) (l:=[y]) (by simp only[DRL];exact⟨_,_,rfl,h,rfl⟩) y (by simp)
  have hcy:y.cells= #[y]:=by cases y<;>first|rfl|cases h1
  rw[hcy]at hc
  have:ys=[y]:=by
   have:=congrArg Array.toList hc
   simpa using this.symm
  rw[this];rfl
 ·rename_i l
  simp only[VR]at h
  obtain⟨zs,rfl,h2⟩:=h
  simp only[Value.cells]at hc
  have:ys=zs:=by
   have:=congrArg Array.toList hc
   simpa using this.symm
  subst this
  have hl:=h2.length
  unfold mC
  split
  ·simp only[yVt,yXk]at hl
   rw[← hl]at hv
   exact absurd hv (by decide)
  ·rfl
theorem z9q {P:Program} {w:World} {b:Nat} {l:List Value} {T t:TypeId} (hb:w.heap[b]? =some (.cells l.toArray T)) (ht:P.underlying t=some (.slice T)) (he:P.underlying T=some (.int .u8)) (n c:Nat):
 (convert t t (.slice (some ⟨b,0,none⟩) n c)).run P w= .ok (.slice (some ⟨b,0,none⟩) n c) (World.setB w b (.cells l.toArray T (l.length,l.length+1))):=by
 have hsh:w.shape? b=some (T,l.length):=by
  unfold World.shape?
  rw[hb];simp
 have hfr:w.freeze ⟨b,l.length,none⟩ 1=World.setB w b (.cells l.toArray T (l.length,l.length+1)):=by
  unfold World.freeze World.setB
  rw[yVj (by decide)]
  congr 1
  apply y1f
  intro i
  rw[Array.getElem?_modify,yZg]
  by_cases c:b=i
  ·subst c
   have hlt:b<w.heap.size:=(Array.getElem?_eq_some_iff.1 hb).1
   rw[yVl rfl,yVl rfl,yVl hlt,hb];rfl
  ·rw[yVj c,yVj c]
 simp[convert,Go.run_underlying ht,Go.run_underlying he,markStringish,hsh]
 exact hfr
theorem Rel.setIter (R:Rel k L E s w) {n pos pos':Nat} {str:ByteArray} (h:s.get n=some (.iter str pos)) {b:Nat} {sub:List Value} (ht:E.tab[n]? =some (.pointer (some ⟨b,0,none⟩),sub)):
 w.heap[b]? =some (.stringIter str pos)∧Rel k L E (s.set n (.iter str pos')) (World.setB w b (.stringIter str pos')):=by
 obtain⟨hk,hs,hh⟩:=R.focus h
 cases hh with
 |cons ha hsub hd hr=>
  rcases ha with⟨e,_⟩|⟨hd',h1,h2⟩
  ·cases e
  ·rw[ht]at h1;cases h1
   simp only[rowHP]at h2
   obtain⟨b',e1,rfl⟩:=h2
   cases e1
   have H:Hp k w (pt b (.stringIter str pos)::((wX n s.rows).map (rHP E)++fz E.F::L)):=⟨hk,_,.cons rfl hsub hd hr⟩
   refine⟨H.get,R.unfocus h ((H.upd (.stringIter str pos')).imp fun x hx=> .inr ⟨_,ht,?_⟩)⟩
   simp only[rowHP]
   exact⟨b,rfl,hx⟩
theorem Rel.setOwn (R:Rel k L E s w) {n T sz i f:Nat} {els:List (List D)} {ds:List D} (h:s.get n=some (.own T sz els)) (hi:i<els.length) (hf:f+ds.length≤sz) {b oo m c:Nat} {sub:List Value}
 (ht:E.tab[n]? =some (.slice (some ⟨b,oo,none⟩) m c,sub)) {ys:List Value} (hy:DRL E.F ds ys):
 ∃l:List Value,w.heap[b]? =some (.cells l.toArray T)∧oo+i*sz+f+ys.length≤l.length∧Rel k L E (s.set n (.own T sz (yH els i f ds))) (World.setB w b (.cells (spl l (oo+i*sz+f) ys).toArray T)):=by
 obtain⟨a,c',xs,sub',h1,hx,hu,H⟩:=R.ownOpen h
 rw[ht]at h1;cases h1
 rcases H.slcases with⟨e,_⟩|⟨b',r,e,h2,h3,h4,H1⟩
 ·cases e
 cases e
 obtain⟨hfl,huu⟩:=lL i f ds hu hi hf
 have hin:i*sz+sz≤els.length*sz:=by
  have:=yXm sz (show i+1≤els.length by omega)
  rwa [yZb]at this
 have hyl:=hy.length
 refine⟨xs++r,H1.get,by rw[yVm];omega,R.unfocus h ((H1.upd (.cells (spl (xs++r) (0+i*sz+f) ys).toArray T)).imp fun x hx'=> .inr ⟨_,ht,?_⟩)⟩
 simp only[rowHP]
 have hlen:(yH els i f ds).length=els.length:=by simp[yH]
 have hspl:spl (xs++r) (0+i*sz+f) ys=spl xs (i*sz+f) ys++r:=by
  simp only[spl,yWi]
  rw[yWm (by omega),yYd (by omega)]
  simp
 refine⟨_,c,spl xs (i*sz+f) ys,by rw[hlen],?_,huu,.inr ⟨b,r,rfl,by rw[hx',hspl],?_,?_,by rw[hlen];exact h4⟩⟩
 ·rw[hfl];exact zQv hx hy _
 ·rw[hlen,← h2];simp only[spl,yVm,yWe,yWh];omega
 ·rw[← h3];simp only[spl,yVm,yWe,yWh];omega
theorem Rel.setMrk (R:Rel k L E s w) {n T i:Nat} {els:List (List D)} {ds:List D} (h:s.get n=some (.mrk T els)) (hi:i<els.length) (hf:ds.length=1) {b oo m c:Nat} {sub:List Value}
 (ht:E.tab[n]? =some (.slice (some ⟨b,oo,none⟩) m c,sub)) {y:Value} (hy:DRL E.F ds [y]):
 ∃l:List Value,w.heap[b]? =some (.cells l.toArray T (l.length,l.length+1))∧i<l.length∧Rel k L E (s.set n (.mrk T (yH els i 0 ds))) (World.setB w b (.cells (l.set (oo+i) y).toArray T (l.length,l.length+1)))∧oo=0:=by
 obtain⟨hk,hs,hh⟩:=R.focus h
 obtain⟨b',c',xs,r,q1,q2,q3,q4,H⟩:∃b' c' xs r,(Value.slice (some ⟨b,oo,none⟩) m c)= .slice (some ⟨b',0,none⟩) els.length c'∧DRL E.F els.flatten xs∧(∀el∈els,el.length=1)∧els.length≤c'∧Hp k w (pt b' (.cells (xs++r).toArray T ((xs++r).length,(xs++r).length+1))::(((wX n s.rows).map (rHP E))++fz E.F::L)):=by
  cases hh with
  |cons ha hsub hdj hr=>
   rcases ha with⟨e,_⟩|⟨hv,h1,h2⟩
   ·cases e
   ·rw[ht]at h1;cases h1
    simp only[rowHP]at h2
    obtain⟨b',c',xs,r,e1,e2,e3,e4,rfl⟩:=h2
    exact⟨b',c',xs,r,e1,e2,e3,e4,hk,_,.cons rfl hsub hdj hr⟩
 cases q1
 obtain⟨hfl,huu⟩:=lL i 0 ds q3 hi (by omega)
 have hxl:xs.length=els.length*1:=by rw[q2.length,wN q3]
 have hlen:(yH els i 0 ds).length=els.length:=by simp[yH]
 refine⟨xs++r,H.get,by rw[yVm];omega,R.unfocus h ((H.upd (.cells ((xs++r).set (0+i) y).toArray T ((xs++r).length,(xs++r).length+1))).imp fun x hx'=> .inr ⟨_,ht,?_⟩),rfl⟩
 simp only[rowHP]
 have hset:(xs++r).set (0+i) y=xs.set i y++r:=by rw[yWi,List.set_append_left _ _ (by omega)]
 refine⟨b,c,xs.set i y,r,by rw[hlen],?_,huu,by rw[hlen];exact q4,?_⟩
 ·rw[hfl]
  have e:xs.set i y=spl xs (i*1+0) [y]:=by
   rw[yZm,yVl (by omega)]
   simp[spl]
  rw[e]
  exact zQv q2 hy _
 ·rw[hset]at hx'
  rw[hx']
  simp
theorem zPd (F:PH):∀l:List UInt8,DRL F (l.map fun b=>[D.v (.int .u8 b.toNat)]).flatten (l.map fun b=>Value.int .u8 b.toNat)
 |[]=>by simp[DRL]
 |b::l=>by
  simp only[yVz,yXq,yXb,yYa,DRL,DR]
  exact⟨_,_,rfl,⟨rfl,rfl⟩,zPd F l⟩
theorem z6f {a b:World} (h1:a.heap=b.heap) (h2:a.tape=b.tape) (h3:a.drawn=b.drawn) (h4:a.os=b.os) (h5:a.output=b.output):a=b:=by
 cases a;cases b;simp only at h1 h2 h3 h4 h5;subst h1 h2 h3 h4 h5;rfl
theorem zMd (w:World) (e:TypeId) (s:ByteArray):Lib.bytesWorld w e s=World.setB (w.drew.alloc (.cells (Lib.bytesCells w e s) e)) w.heap.size (.cells (Lib.bytesCells w e s) e ((Lib.bytesCells w e s).size,(Lib.bytesCells w e s).size+1)):=by
 have hh:(Lib.bytesWorld w e s).heap=(World.setB (w.drew.alloc (.cells (Lib.bytesCells w e s) e)) w.heap.size (.cells (Lib.bytesCells w e s) e ((Lib.bytesCells w e s).size,(Lib.bytesCells w e s).size+1))).heap:=by
  apply y1f
  intro j
  have hsz:(w.drew.alloc (.cells (Lib.bytesCells w e s) e)).heap.size=w.heap.size+1:=by simp[World.alloc,World.drew,-World.alloc_eq,-World.drew_eq]
  simp only[World.setB]
  rw[yZg]
  by_cases hj:w.heap.size=j
  ·subst hj
   rw[yVl rfl,yVl (by omega),Lib.bytesWorld_at_new]
  ·rw[yVj hj]
   rcases yXv j w.heap.size with h|h
   ·rw[Lib.bytesWorld_at_old w e s j h]
    have:(w.drew.alloc (.cells (Lib.bytesCells w e s) e)).heap[j]? =w.heap[j]? :=by
     simp[World.alloc,World.drew,-World.alloc_eq,-World.drew_eq,Array.getElem?_push,Ne.symm hj]
    rw[this]
   ·rw[yYe (by rw[Lib.bytesWorld_size];omega),yYe (by omega)]
 refine z6f hh ?_ ?_ ?_ ?_<;>(unfold Lib.bytesWorld World.freeze World.setB;rw[yVj (by omega)])
theorem zXh (R:Rel k L E s w) (b:ByteArray) (e:TypeId) {K:V→St→Prop} (hk:K (.own s.nx) (s.new (.mrk e (yV b)))):
 Outc k L E K (.slice (some ⟨w.heap.size,0,none⟩) b.size (grownCap w b.size 0 e)) (Lib.bytesWorld w e b):=by
 have hl:(yV b).length=b.size:=by simp[yV]
 have hcap:b.size≤grownCap w b.size 0 e:=grownCap_ge w b.size 0 e
 have H:=((R.hp.drew).new (.cells (Lib.bytesCells w e b) e)).upd (.cells (Lib.bytesCells w e b) e ((Lib.bytesCells w e b).size,(Lib.bytesCells w e b).size+1))
 have hs:w.drew.heap.size=w.heap.size:=rfl
 rw[hs,← zMd]at H
 obtain⟨hd,hhd⟩:∃hd:Hd,hd=(.slice (some ⟨w.heap.size,0,none⟩) b.size (grownCap w b.size 0 e),[]):=⟨_,rfl⟩
 have hle:E.le ⟨E.F,E.tab++[hd]⟩:=Ev.le.app _
 have hget:(E.tab++[hd])[s.nx]? =some hd:=by rw[← R.nx];simp
 refine⟨⟨E.F,E.tab++[hd]⟩,.own s.nx,_,hle,⟨by simp[St.new,R.nx],?_⟩,?_,hk⟩
 ·have H1:Hp k (Lib.bytesWorld w e b) (s.rows.map (rHP E)++(pt w.heap.size (.cells (Lib.bytesCells w e b) e ((Lib.bytesCells w e b).size,(Lib.bytesCells w e b).size+1))::fz E.F::L)):=H.perm (yWa (l₁:=s.rows.map (rHP E))).symm
  have H2:=wE (fun r x=>rHP.mono hle r) H1
  have H3:Hp k (Lib.bytesWorld w e b) (pt w.heap.size (.cells (Lib.bytesCells w e b) e ((Lib.bytesCells w e b).size,(Lib.bytesCells w e b).size+1))::(s.rows.map (rHP ⟨E.F,E.tab++[hd]⟩)++fz E.F::L)):=H2.perm yWa
  refine H3.imp fun x hx=> .inr ⟨hd,hget,?_⟩
  simp only[rowHP]
  refine⟨w.heap.size,grownCap w b.size 0 e,b.data.toList.map fun(c:UInt8)=>Value.int .u8 c.toNat,List.replicate (grownCap w b.size 0 e-b.size) (Value.int .u8 0),by rw[hhd,hl],?_,?_,by rw[hl];exact hcap,?_⟩
  ·exact zPd _ _
  ·simp[yV]
  ·have hx:x=one w.heap.size _:=hx
   rw[hx]
   have ec:Lib.bytesCells w e b=(b.data.toList.map (fun(c:UInt8)=>Value.int .u8 c.toNat)++List.replicate (grownCap w b.size 0 e-b.size) (Value.int .u8 0)).toArray:=by
    apply Array.ext'
    simp[Lib.bytesCells]
   rw[ec]
   simp
 ·simp only[VR]
  exact⟨[],by rw[hget,hhd],_,_,_,rfl⟩
theorem zXx (R:Rel k L E s w) {sz:Nat} {v:V} {els:List (List D)} (h:zPl s sz v=some els) {y:Value} (hv:VR E v y):
 ∃ys,Src sz w y els.length ys∧DRL E.F els.flatten ys∧∀el∈els,el.length=sz:=by
 unfold zPl at h
 split at h
 ·cases h
  simp only[VR,DR]at hv
  obtain⟨rfl,_⟩:=hv
  exact⟨[],.inl ⟨none,0,rfl,pe,.inl ⟨rfl,rfl,rfl⟩,Sub.pe w⟩,by simp[DRL],by simp⟩
 ·rename_i b
  obtain⟨hb,h⟩:=bF h
  have:=yVo hb
  subst this
  cases h
  simp only[VR,DR]at hv
  obtain⟨rfl,_⟩:=hv
  refine⟨b.data.toList.map fun b=> .int .u8 b.toNat,.inr ⟨b,rfl,rfl,by simp[yV],rfl⟩,?_,?_⟩
  ·unfold yV
   generalize b.data.toList=l
   induction l with
   |nil=>simp[DRL]
   |cons a l ih=>simp only[yVz,yXq,yXb,yYa,DRL,DR];exact⟨_,_,rfl,⟨rfl,rfl⟩,ih⟩
  ·intro el hel
   unfold yV at hel
   obtain⟨x,_,rfl⟩:=yWy.1 hel
   rfl
 ·split at h<;>first|(cases h;done)|skip
  rename_i sz' els' hd
  obtain⟨hb,hh⟩:=bF h
  clear h
  have:=yVo hb
  subst this
  cases hh
  obtain⟨a,c,xs,rfl,h2,h3,h4,h5⟩:=cH R hv hd
  exact⟨xs,.inl ⟨a,c,rfl,h5⟩,h3,h4⟩
theorem zLw (R:Rel k L E s w) {t1 t2 rt:Nat} {x y:V} {xr yr:Value} (hx:VR E x xr) (hy:VR E y yr) {K:V→St→Prop} (h:zRw P t1 t2 s x y K):
 ∃v w',u9 P (Builtin.append_ #[t1,t2] rt #[xr,yr]) w v w'∧Outc k L E K v w':=by
 unfold zRw at h
 obtain⟨i,hi,h⟩:=zM h
 obtain⟨hb,h⟩:=zP h
 simp only[yVy]at hb
 obtain⟨els',hsrc,h⟩:=zM h
 obtain⟨z,q1,q2,q3,q4⟩:=gP hi
 obtain⟨ys,hsrc',hys,huy⟩:=zXx R hsrc hy
 have hby:0<i.by_:=by simpa[yYi]using hb.2
 split at h<;>first|exact h.elim|skip
 ·obtain⟨hlen,hk⟩:=h
  simp only[VR,DR]at hx
  obtain⟨rfl,_⟩:=hx
  obtain⟨a',c',w',hrun,H⟩:=(R.hp.nil i.e i.sz).append (P:=P) (rt:=rt) q1 hb.1 hsrc' hys.one (by rw[q2]) hby (by simpa using hlen)
  simp only[yWi,yYa]at hrun H
  obtain⟨E',r1,r2,r3⟩:=bI R.nx hys huy H
  exact⟨_,w',hrun,E',_,_,r1,r2,r3,hk⟩
 ·rename_i n
  split at h<;>first|exact h.elim|skip
  rename_i T sz els hg
  obtain⟨hb2,hlen,hk⟩:=zP h
  simp only[yVy]at hb2
  have e1:=yVo hb2.1
  have e2:=yVo hb2.2
  subst e1 e2
  obtain⟨a,c,xs,sub,h1,hxs,hu,H⟩:=R.ownOpen hg
  simp only[VR]at hx
  obtain⟨l,hx,_⟩:=hx
  rw[h1]at hx;cases hx
  obtain⟨a',c',w',hrun,H⟩:=H.append (P:=P) (rt:=rt) q1 hb.1 hsrc' hys.one (by rw[q2]) hby hlen
  obtain⟨E',r1,r2,r3⟩:=bI (els:=els++els') R.nx (by rw[List.flatten_append];exact hxs.append hys) (fun el hel=>by
   rcases yWn.1 hel with h|h
   ·exact hu el h
   ·exact huy el h) (by rw[yVm];exact H)
  rw[yVm]at r3
  exact⟨_,w',hrun,E',_,_,r1,r2,r3,hk⟩
theorem Rel.newFro {E:Ev} {s:St} (R:Rel k L E s w) {sz:Nat} {els:List (List D)} {y:Value} (h:DR E.F (.ro sz els) y):∃E',E.le E'∧Rel k L E' (s.new (.fro sz els)) w∧E'.tab[s.nx]? =some (y,[]):=by
 have hle:E.le ⟨E.F,E.tab++[(y,[])]⟩:=Ev.le.app _
 have hget:(E.tab++[((y,[]):Hd)])[s.nx]? =some (y,[]):=by rw[← R.nx];simp
 refine⟨_,hle,⟨by simp[St.new,R.nx],?_⟩,hget⟩
 have H2:=wE (fun r x=>rHP.mono hle r) R.hp
 have:=(@vS k w True _).2 ⟨trivial,H2⟩
 exact this.imp fun x hx=> .inr ⟨_,hget,by simp only[rowHP];exact⟨hx.2,h⟩⟩
theorem zAz:∀{vs:List V} {s:St} {K:List V→St→Prop} {E:Ev} {l:List Value},zPa vs s K→Rel k L E s w→VRL E vs l→∃E' vs' s',E.le E'∧Rel k L E' s' w∧VRL E' vs' l∧K vs' s'
 |[],s,K,E,l,h,R,hv=>⟨E,[],s,Ev.le.refl _,R,hv,h⟩
 |v::vs,s,K,E,l,h,R,hv=>by
  simp only[zPa]at h
  simp only[VRL]at hv
  obtain⟨x,xs,rfl,h1,h2⟩:=hv
  split at h
  ·rename_i sz els
   simp only[VR]at h1
   obtain⟨E1,q1,q2,q3⟩:=R.newFro h1
   obtain⟨E2,vs',s',r1,r2,r3,r4⟩:=zAz h q2 (h2.mono q1)
   refine⟨E2,_,s',q1.trans r1,r2,?_,r4⟩
   simp only[VRL,VR]
   simp only[DR]at h1
   obtain⟨a,c,e,_⟩:=h1
   exact⟨x,xs,rfl,⟨[],r1.get q3,a,_,c,e⟩,r3⟩
  ·obtain⟨E2,vs',s',r1,r2,r3,r4⟩:=zAz h R h2
   exact⟨E2,_,s',r1,r2,by simp only[VRL];exact⟨x,xs,rfl,h1.mono r1,r3⟩,r4⟩
theorem Outc.up {E E':Ev} (h:E.le E') {K:V→St→Prop} {y:Value} {w':World}:Outc k L E' K y w'→Outc k L E K y w':=fun⟨E2,v,s',h1,h2⟩=>⟨E2,v,s',h.trans h1,h2⟩
theorem zVd {H:Hnd} (hH:HOk P H) (R:Rel k L E s w) {f:FuncId} {args:List V} {ys:List Value} {K:V→St→Prop} (h:yBg H f args s K) (hv:VRL E args ys):Does P (callFunc f ys.toArray) w (Outc k L E K):=by
 unfold yBg at h
 split at h
 ·rename_i n i rest
  split at h<;>first|exact h.elim|skip
  rename_i t T m unf l hg
  obtain⟨x,hx,h⟩:=h
  simp only[VRL]at hv
  obtain⟨y,ys,rfl,h1,h2⟩:=hv
  have h1':=h1
  obtain⟨E1,hle,R1,hv1,l0,ht⟩:=R.takeOut hg hx h1
  have hvl:VRL E1 (.nm s.nx 0::rest) (y::ys):=by simp only[VRL];exact⟨_,_,rfl,hv1,h2.mono hle⟩
  refine(hH f _ _ _ h k L E1 w _ R1 hvl).mono ?_
  rintro r w' ⟨E',v,s',hle',R',hvr,hk⟩
  unfold yJk at hk
  split at hk<;>first|exact hk.elim|skip
  rename_i o ha
  split at hk<;>first|exact hk.elim|skip
  rename_i t' T' m' unf' l' j hn
  obtain⟨x',rfl,rfl,hi,hk⟩:=hk
  simp only[VR]at h1'
  obtain⟨hd,lsub,b,oo,e1,e2,e3⟩:=h1'
  have e1':=(hle.trans hle').get e1
  have R2:=R'.putBack ha hn hi (hle'.get ht) (fun v sub hs=>by rw[e1']at hs;cases hs;exact e2)
  exact⟨E',v,_,hle.trans hle',R2,hvr,hk⟩
 ·exact hH f _ s K h k L E w _ R hv
theorem zRp {E:Ev} {ps:List (Nat×V)} {qs:List (Nat×Value)} {m:Nat} (h:zRj ps=some m) (hp:PRL E ps qs):∃y,qs=[(0,y)]∧VR E (.nm m 0) y:=by
 unfold zRj at h
 split at h<;>first|(cases h;done)|skip
 cases h
 simp only[PRL]at hp
 obtain⟨y,ys,rfl,h1,rfl⟩:=hp
 exact⟨y,rfl,h1⟩
theorem zQn (R:Rel k L E s w) {t:TypeId} {i:SlI} (hi:b7 P t=some i) (hsz:i.sz=1) {m:Nat} {T:Type} {mm:Nat} {unf:T→Nat→AObj} {x:T} (hg:s.get m=some (.adt T mm unf x)) {qs:List (Nat×Value)}
 (hp:∃y,qs=[(0,y)]∧VR E (.nm m 0) y) {K:V→St→Prop} (hk:K (.own s.nx) ((s.del m).new (.objs i.e T mm unf [x] none))):
 ∃v w',(Instr.buildSlice t 1 qs.toArray).run P w= .ok v w'∧Outc k L E K v w':=by
 obtain⟨y,rfl,hv⟩:=hp
 simp only[VR]at hv
 obtain⟨b,oo,l0,e1,rfl⟩:=hv
 obtain⟨z,q1,q2,q3,q4⟩:=gP hi
 obtain⟨inf,zv,p1,p2,p3,p4,p5,p6⟩:=jJ q1
 have hbsl:bsl P t 1 #[(0,Value.pointer (some ⟨b,oo+0,none⟩))]=some (i.e,#[Value.pointer (some ⟨b,oo,none⟩)]):=by
  unfold bsl
  simp only[p1,p2]
  rw[yVj (by rw[p3,hsz];omega)]
  have hz:(if 1*inf.size=0 then some #[]else inf.zero.map Value.cells)=some z:=by
   rw[yVj (by rw[p3,hsz];omega),p5,yXi,p6]
  rw[hz]
  simp only
  have hrow:eN z (1*inf.size)=z:=by
   rw[p3,hsz]
   have hz1:z.size=1:=by rw[q2,hsz]
   apply Array.ext'
   have:=mV (z:=z.toList) 1
   rw[y0u,show z.toList.length=1 by simp[hz1]]at this
   simpa using this
  rw[hrow,p3,hsz]
  have hz1:z.toList.length=1:=by simp[q2,hsz]
  obtain⟨z0,hz0⟩:∃z0,z= #[z0]:=by
   match hzl:z.toList,hz1 with
   |[a],_=>exact⟨a,by apply Array.ext';simpa using hzl⟩
  subst hz0
  simp[Instr.fill,Value.cells]
 refine⟨_,_,cV hbsl w,?_⟩
 have R1:=R.take hg
 have H:=(R1.hp.new (.cells #[Value.pointer (some ⟨b,oo,none⟩)] i.e)).lit (l:=[Value.pointer (some ⟨b,oo,none⟩)]) (sz:=1) (n:=1) rfl
 have H1:Hp k (w.alloc (.cells #[Value.pointer (some ⟨b,oo,none⟩)] i.e)) (rHP E (m,.adt T mm unf x)::slO i.e 1 (some ⟨w.heap.size,0,none⟩) 1 1 [Value.pointer (some ⟨b,oo,none⟩)]::((s.del m).rows.map (rHP E)++fz E.F::L)):=by
  refine H.perm ?_
  refine(List.Perm.cons _ ?_).trans (.swap _ _ _)
  exact(List.Perm.append_left _ (.swap _ _ _)).trans yWa
 have H2:=(H1.imp fun q hq=>zFv e1 hq).swap
 have H3:Hp k (w.alloc (.cells #[Value.pointer (some ⟨b,oo,none⟩)] i.e)) (slO i.e 1 (some ⟨w.heap.size,0,none⟩) [x].length 1 [Value.pointer (some ⟨b,oo,none⟩)]::((List.range [x].length).map (xJ E.F T mm unf [x] [Value.pointer (some ⟨b,oo,none⟩)] none)++((s.del m).rows.map (rHP E)++fz E.F::L))):=by
  have H3:=H2.swap.imp (B:=xJ E.F T mm unf [x] [Value.pointer (some ⟨b,oo,none⟩)] none 0) fun q hq=>by
   unfold xJ
   rw[yVj (by simp)]
   exact⟨x,_,l0,rfl,rfl,hq⟩
  exact H3.swap
 obtain⟨E2,t1,t2,t3⟩:=zDu (l:=[x]) (by simpa[St.del]using R.nx) rfl (fun p hp=>by rw[yXc.1 hp];exact⟨_,_,rfl⟩) H3
 exact⟨E2,_,_,t1,t2,t3,hk⟩
theorem zKf (R:Rel k L E s w) {t1 t2 rt:Nat} {x y:V} {xr yr:Value} (hx:VR E x xr) (hy:VR E y yr) {K:V→St→Prop} (h:zIw P t1 t2 s x y K):
 ∃v w',(Builtin.append_ #[t1,t2] rt #[xr,yr]).run P w= .ok v w'∧Outc k L E K v w':=by
 unfold zIw at h
 split at h<;>first|exact h.elim|skip
 rename_i n2
 split at h<;>first|exact h.elim|skip
 rename_i t2' T2 m2 unf2 l2 hg2
 obtain⟨i,hi,h⟩:=zM h
 obtain⟨hb,h⟩:=zP h
 simp only[yVy]at hb
 have hby:0<i.by_:=by simpa[yYi]using hb.1.2
 have hsz:=yVo hb.2
 obtain⟨z,q1,q2,q3,q4⟩:=gP hi
 rw[hsz]at q1 q2
 obtain⟨a2,c2,sub2,g1,g2,g3,H⟩:=zBd R hg2
 simp only[VR]at hy
 obtain⟨ly,hy,_⟩:=hy
 rw[g1]at hy;cases hy
 have hsrc:Src 1 w (.slice a2 l2.length c2) l2.length sub2:= .inl ⟨a2,c2,rfl,by obtain⟨q,hq,hs⟩:=H.sat;exact⟨q,m5 hq,hs⟩⟩
 have hone:∀v∈sub2,v.oneC=true:=fun v hv=>by obtain⟨_,_,rfl⟩:=g3 v hv;rfl
 split at h<;>first|exact h.elim|skip
 ·obtain⟨hlen,hk⟩:=h
  simp only[VR,DR]at hx
  obtain⟨rfl,_⟩:=hx
  obtain⟨a',c',w',hrun,H1⟩:=(H.nil i.e 1).append (P:=P) (rt:=rt) q1 hb.1.1 hsrc hone q2 hby (by simpa using hlen)
  simp only[yWi,yYa]at hrun H1
  have H2:=H1.swap.drop
  obtain⟨E',r1,r2,r3⟩:=zDu (rows:=wX n2 s.rows) R.nx g2 g3 H2
  exact⟨_,w',hrun,E',_,_,r1,r2,r3,hk⟩
 ·rename_i n hsh hsh2
  split at h<;>first|exact h.elim|skip
  rename_i t1' T1 m1 unf1 l1 hg1
  obtain⟨l1',he1,hlen,hk⟩:=h
  rw[he1]at hg1
  have R1:=R.take hg2
  obtain⟨a1,c1,sub1,f1,f2,f3,H1⟩:=zBd R1 hg1
  simp only[VR]at hx
  obtain⟨lx,hx,_⟩:=hx
  rw[f1]at hx;cases hx
  obtain⟨a',c',w',hrun,H2⟩:=H1.append (P:=P) (rt:=rt) q1 hb.1.1 hsrc hone q2 hby hlen
  have p1:(List.map (xJ E.F T2 m2 unf2 l1' sub1 none) (List.range l1'.length)++(List.map (rHP E) (wX n (s.del n2).rows)++fz E.F::rHP E (n2,AObj.objs t2' T2 m2 unf2 l2 none)::L)).Perm
   (rHP E (n2,AObj.objs t2' T2 m2 unf2 l2 none)::(List.map (xJ E.F T2 m2 unf2 l1' sub1 none) (List.range l1'.length)++(List.map (rHP E) (wX n (s.del n2).rows)++fz E.F::L))):=
   (List.Perm.append_left _ ((List.Perm.append_left _ (.swap _ _ _)).trans yWa)).trans yWa
  have H3:=(H2.cons p1).swap
  have H4:Hp k w' (hS2 (slO t2' 1 a2 l2.length c2 sub2) (hS ((List.range l2.length).map (xJ E.F T2 m2 unf2 l2 sub2 none)))::slO i.e 1 a' (l1'.length+l2.length) c' (sub1++sub2)::(List.map (xJ E.F T2 m2 unf2 l1' sub1 none) (List.range l1'.length)++(List.map (rHP E) (wX n (s.del n2).rows)++fz E.F::L))):=
   H3.imp fun q hq=>by
    rcases hq with⟨e,_⟩|⟨hd,h1,h2⟩
    ·cases e
    ·rw[g1]at h1;cases h1
     obtain⟨a3,c3,e3,_,_,e4⟩:=rowHP_objs.1 h2
     cases e3
     exact e4
  have H5:=hp_star.1 (hp_star2.1 H4).drop
  have H6:Hp k w' (slO i.e 1 a' (l1'++l2).length c' (sub1++sub2)::((List.range (l1'++l2).length).map (xJ E.F T2 m2 unf2 (l1'++l2) (sub1++sub2) none)++((wX n (s.del n2).rows).map (rHP E)++fz E.F::L))):=by
   have H7:Hp k w' ((List.range l1'.length).map (xJ E.F T2 m2 unf2 l1' sub1 none)++((List.range l2.length).map (xJ E.F T2 m2 unf2 l2 sub2 none)++(slO i.e 1 a' (l1'.length+l2.length) c' (sub1++sub2)::((wX n (s.del n2).rows).map (rHP E)++fz E.F::L)))):=by
    refine H5.perm ?_
    refine(List.Perm.append_left _ (yWa.symm)).trans ?_
    rw[← yVq,← yVq]
    exact List.Perm.append_right _ yXj
   have H8:=yAq f2 H7
   rw[yVm]at H8 ⊢
   exact H8.perm yWa
  obtain⟨E',r1,r2,r3⟩:=zDu (rows:=wX n (s.del n2).rows) (by simpa[St.del]using R1.nx) (by rw[yVm,yVm,f2,g2]) (fun p hp=>by
   rcases yWn.1 hp with h|h
   ·exact f3 p h
   ·exact g3 p h) H6
  rw[yVm]at r3
  exact⟨_,w',hrun,E',_,_,r1,r2,r3,hk⟩
theorem zTv {H:Hnd} {E:Ev} {s:St} {w:World} (R:Rel k L E s w) {ρS:yY} {ρ:Env} (he:EnvR E ρS ρ) {o:Oper} {K:V→St→Prop} {t:TypeId} {x:Operand} {lo hi:Option Operand} (ho:o.op= .slice t x lo hi none) (h:se P H o ρS s K):
 ∃y,zKq P (execOp (ev ρ) o) y∧Outc k L E K y w:=by
 simp only[se,ho]at h
 split at h<;>first|exact h.elim|skip
 rename_i n hxs
 have hx:=he.ev x
 rw[hxs]at hx
 have ro:∀{E':Ev} {s':St} {sz:Nat} {els:List (List D)} {l u:Option Int} {K':V→Prop},E.le E'→Rel k L E' s' w→DR E'.F (.ro sz els) (ev ρ x)→gU P t=some sz→zLz ρS lo=some l→zLz ρS hi=some u→z6b sz els l u K'→(∀v,K' v→K v s')→
  ∃y,zKq P (execOp (ev ρ) o) y∧Outc k L E K y w:=by
  intro E' s' sz els l u K' hle R' hdr hs h1 h2 hsl hk
  obtain⟨a,c,v,e1,hkv,hcut⟩:=hdr.ro_cut hsl
  have hp:fW P o ρ (fun y=>VR E' v y):=by
   simp only[fW,ho,e1,hs,gF he h1,gF he h2,zGn]
   exact zSx (fun p n c hh=>hh E' rfl) hcut
  obtain⟨y,hy,hf⟩:=hD hp
  exact⟨y,hf,E',v,s',hle,R',hy,hk v hkv⟩
 split at h<;>first|exact h.elim|skip
 ·rename_i T sz els hg
  obtain⟨sz',hs,h⟩:=zM h
  obtain⟨hb,hh⟩:=zP h
  clear h
  have e:=yVo hb
  subst e
  obtain⟨l,u,h1,h2,h⟩:=aW hh
  clear hh
  cases l with
  |none=>
   obtain⟨a,c,xs,sub,q1,q2,q3,H⟩:=R.ownOpen hg
   have hx0:=hx
   simp only[VR]at hx
   obtain⟨sub',hx,_⟩:=hx
   rw[q1]at hx
   have hev:ev ρ x= .slice a els.length c:=((Prod.mk.inj (Option.some.inj hx)).1).symm
   have hnc:els.length≤c:=H.len.2
   cases u with
   |none=>
    have hp:fW P o ρ (fun y=>VR E (.own n) y):=by
     simp only[fW,ho,hev,hs,gF he h1,gF he h2,zGn,slN]
     exact⟨hnc,by rw[hev]at hx0;exact hx0⟩
    obtain⟨y,hy,hf⟩:=hD hp
    exact⟨y,hf,E,_,s,Ev.le.refl _,R,hy,h⟩
   |some u=>
    obtain⟨⟨h3,h4⟩,hk⟩:=h
    have hux:(els.take u.toNat).length=u.toNat:=by rw[yWe];omega
    have H2:Hp k w (slO T sz a (els.take u.toNat).length c (xs.take (u.toNat*sz))::((wX n s.rows).map (rHP E)++fz E.F::L)):=by
     refine H.imp fun z hz=> ?_
     rw[hux]
     rcases hz with⟨rfl,z1,rfl,rfl,rfl⟩|⟨b,r,rfl,rfl,z2,z3,z4⟩
     ·left
      exact⟨rfl,by omega,rfl,by simp,rfl⟩
     ·right
      have hle:u.toNat*sz≤els.length*sz:=yXm _ (by omega)
      refine⟨b,xs.drop (u.toNat*sz)++r,rfl,?_,?_,?_,by omega⟩
      ·rw[← yVq,yXw]
      ·rw[yWe];omega
      ·rw[← yVq,yXw];exact z3
    obtain⟨E',r1,r2,r3⟩:=bI (els:=els.take u.toNat) R.nx (by rw[← aM _ q3];exact q2.take _) (fun el hel=>q3 el (yZy hel)) H2
    have hp:fW P o ρ (fun y=>VR E' (.own s.nx) y):=by
     simp only[fW,ho,hev,hs,gF he h1,gF he h2,zGn,slN]
     rw[hux]at r3
     exact⟨⟨h3,by omega⟩,r3⟩
    obtain⟨y,hy,hf⟩:=hD hp
    exact⟨y,hf,E',_,_,r1,r2,hy,hk⟩
  |some l=>
   have hfr:=zCy R (v:= .own n) (d:= .ro sz els) (s':=s.set n (.fro sz els)) (by simp only[z0h,hg]) hx
   obtain⟨E',r1,r2,r3,r4,r5⟩:=hfr
   exact ro r1 r3 r5 hs h1 h2 h (fun v hv=>hv)
 ·rename_i sz els hg
  obtain⟨sz',hs,h⟩:=zM h
  obtain⟨hb,hh⟩:=zP h
  clear h
  have e:=yVo hb
  subst e
  obtain⟨l,u,h1,h2,h⟩:=aW hh
  clear hh
  have hfr:=zCy R (v:= .own n) (d:= .ro sz els) (s':=s) (by simp only[z0h,hg]) hx
  obtain⟨E',r1,r2,r3,r4,r5⟩:=hfr
  exact ro r1 r3 r5 hs h1 h2 h (fun v hv=>hv)
theorem zUs {H:Hnd} (hH:HOk P H) (R:Rel k L E s w) {ρS:yY} {ρ:Env} (he:EnvR E ρS ρ) {o:Oper} {K:V→St→Prop} (h:se P H o ρS s K):Does P (execOp (ev ρ) o) w (Outc k L E K):=by
 cases ho:o.op
 case alloc e=>
  simp only[se,ho]at h
  obtain⟨z,hz,h⟩:=zM h
  obtain⟨hb,hk⟩:=zP h
  obtain⟨l,hl,hv⟩:=VR.cells (E:=E) hb (zHn E z)
  simp only[execOp,ho]
  refine z8 (v:= .pointer (some ⟨w.heap.size,0,none⟩)) (w':=w.alloc (.cells z.cells e)) ?_ ?_
  ·simp only[Instr.alloc,bind,pure,run_bind,zero_run (fT hz),Sem.run,zHs]
  ·refine zBk (hd:=(.pointer (some ⟨w.heap.size,0,none⟩),[])) R ?_ (fun hg=> ?_) hk
   ·simp only[rowHP];exact⟨_,l,rfl,VRL.mono (Ev.le.app _) hv,by rw[hl]⟩
   ·simp only[VR];exact⟨_,0,_,hg,rfl⟩
 case box e x=>
  simp only[se,ho]at h
  obtain⟨hb,hk⟩:=zP h
  obtain⟨l,hl,hv⟩:=VR.cells (E:=E) hb (he.ev x)
  obtain⟨E1,us,s1,hle1,R1,hv,hk⟩:=zAz hk R hv
  simp only[execOp,ho]
  refine z8 (v:= .pointer (some ⟨w.heap.size,0,none⟩)) (w':=w.alloc (.cells (ev ρ x).cells e)) rfl (Outc.up hle1 ?_)
  refine zBk (hd:=(.pointer (some ⟨w.heap.size,0,none⟩),[])) R1 ?_ (fun hg=> ?_) hk
  ·simp only[rowHP];exact⟨_,l,rfl,VRL.mono (Ev.le.app _) hv,by rw[hl]⟩
  ·simp only[VR];exact⟨_,0,_,hg,rfl⟩
 case buildSlice t len ps=>
  simp only[se,ho]at h
  split at h
  ·rename_i m hm
   split at h<;>first|exact h.elim|skip
   rename_i T mm unf x hg
   obtain⟨i,hi,h⟩:=zM h
   obtain⟨hb,hk⟩:=zP h
   simp only[yVy]at hb
   have hb1:=yVo hb.1
   have hb2:=yVo hb.2
   subst hb2
   obtain⟨v,w',hr,hout⟩:=zQn R hi hb1 hg (hp:=zRp hm (tQ he ps.toList)) hk
   simp only[execOp,ho]
   refine z8 ?_ hout
   have hps:(ps.map fun(x:Nat×Operand)=>(x.1,ev ρ x.2))=(ps.toList.map fun p=>(p.1,ev ρ p.2)).toArray:=by apply Array.ext';simp
   rw[hps]
   exact hr
  obtain⟨i,hi,h⟩:=zM h
  obtain⟨hb,h⟩:=zP h
  split at h<;>first|exact h.elim|skip
  rename_i els s' hf
  obtain⟨z,q1,q2,q3,q4⟩:=gP hi
  obtain⟨inf,zv,p1,p2,p3,p4,p5,p6⟩:=jJ q1
  have hc0:DRL E.F (List.replicate len i.z).flatten (eN z (len*i.sz)).toList:=by
   rw[← q2,show z.size=z.toList.length by simp]
   have:=mV (z:=z.toList) len
   rw[y0u]at this
   rw[this]
   exact zPj (q4 E.F) len
  obtain⟨E',cs',r1,r2,r3,r4,r5,r6,r7,r8⟩:=zTz R hf (tQ he ps.toList) (zCh q3) hc0
  have hbsl:bsl P t len (ps.map fun(i,x)=>(i,ev ρ x))=some (i.e,cs'.toArray):=by
   unfold bsl
   simp only[p1,p2]
   rw[yVj (by rw[p3];have:=yXt hb;omega)]
   have hz:(if len*inf.size=0 then some #[]else inf.zero.map Value.cells)=some (if len*inf.size=0 then #[]else z):=by
    split
    ·rfl
    ·rw[p5,yXi,p6]
   have hrow:eN (if len*inf.size=0 then #[]else z) (len*inf.size)=eN z (len*i.sz):=by
    rw[p3]
    by_cases h0:len*i.sz=0
    ·rw[yVl h0,h0];rfl
    ·rw[yVj h0]
   rw[hz]
   simp only
   rw[hrow]
   simp only[p3]
   rw[y0u]at r8
   have hps:(ps.map fun(x:Nat×Operand)=>(x.1,ev ρ x.2)).toList=ps.toList.map fun p=>(p.1,ev ρ p.2):=by simp
   rw[hps,r8]
   rfl
  simp only[execOp,ho]
  refine z8 (cV hbsl w) ?_
  have hlen:els.length=len:=by rw[r6,yYj]
  have hxl:cs'.length=els.length*i.sz:=by rw[r7.length,wN r5]
  have H:=(r3.hp.new (.cells cs'.toArray i.e)).lit hxl
  obtain⟨E2,t1,t2,t3⟩:=bI r3.nx r7 r5 H
  rw[hlen]at t3
  exact⟨E2,_,_,r1.trans t1,t2,t3,h⟩
 case makeMap t r=>
  cases r with
  |some r=>simp only[se,ho]at h
  |none=>
   simp only[se,ho]at h
   simp only[execOp,ho]
   refine z8 (v:= .map (some w.heap.size)) (w':=w.alloc (.map #[] 0)) rfl ?_
   refine zBk (hd:=(.map (some w.heap.size),[])) R ?_ (fun hg=> ?_) h
   ·simp only[rowHP];exact⟨_,[],0,rfl,by simp only[MR],z8v,rfl⟩
   ·simp only[VR];exact⟨_,_,hg,rfl⟩
 case makeSlice t l c=>
  simp only[se,ho]at h
  split at h<;>first|exact h.elim|skip
  rename_i kl l' kc c' hl hc
  obtain⟨i,hi,hbd,hk⟩:=zM h
  obtain⟨z,q1,q2,q3,q4⟩:=gP hi
  have el:=he.ev l
  have ec:=he.ev c
  rw[hl]at el
  rw[hc]at ec
  simp only[execOp,ho,el.intv,ec.intv]
  refine z8 (zKt q1 hbd w) ?_
  have hrow:(madeCells z (c'.toNat*i.sz)).toList=(List.replicate c'.toNat z.toList).flatten:=by
   have:=mV (z:=z.toList) c'.toNat
   rw[y0u,show z.toList.length=i.sz by simp[q2]]at this
   rw[← this,← zIk]
   rfl
  have hsplit:List.replicate c'.toNat z.toList=List.replicate l'.toNat z.toList++List.replicate (c'.toNat-l'.toNat) z.toList:=by
   rw[List.replicate_append_replicate]
   congr 1;omega
  have hx:DRL E.F (List.replicate l'.toNat i.z).flatten (List.replicate l'.toNat z.toList).flatten:=zPj (q4 E.F) _
  have hzl:z.toList.length=i.sz:=by simp[q2]
  have H:=R.hp.new (.cells (madeCells z (c'.toNat*i.sz)) i.e)
  have harr:madeCells z (c'.toNat*i.sz)=((List.replicate l'.toNat z.toList).flatten++(List.replicate (c'.toNat-l'.toNat) z.toList).flatten).toArray:=by
   apply Array.ext'
   rw[hrow,hsplit,List.flatten_append]
  rw[harr]at H ⊢
  have H2:=H.slmk (n:=l'.toNat) (c:=c'.toNat) (sz:=i.sz) (by rw[wN (zCh hzl),yYj]) (by
   rw[yVm,wN (zCh hzl),wN (zCh hzl),yYj,yYj,← yYf]
   congr 1;omega) (by omega)
  obtain⟨E2,t1,t2,t3⟩:=bI (els:=List.replicate l'.toNat i.z) R.nx hx (zCh q3) (by rw[yYj];exact H2)
  rw[yYj]at t3
  exact⟨E2,_,_,t1,t2,t3,hk⟩
 case store t x v=>
  simp only[se,ho]at h
  have hx:=he.ev x
  split at h<;>first|exact h.elim|skip
  ·rename_i n off hxs
   rw[hxs]at hx;simp only[VR]at hx
   obtain⟨b,oo,sub,e1,e2⟩:=hx
   obtain⟨hnt,h⟩:=zP h
   obtain⟨lv,hlv,hvv⟩:=VR.cells hnt (he.ev v)
   obtain⟨E1,us,s1,hle1,R1,hvv,h⟩:=zAz h R hvv
   have e1:=hle1.get e1
   split at h<;>first|exact h.elim|skip
   rename_i vs T hg
   obtain⟨m,hm,h⟩:=zM h
   obtain⟨hb,hk⟩:=zP h
   simp only[yVy]at hb
   obtain⟨⟨hb1,hb2⟩,hb3⟩:=hb
   have hb1:=yVo hb1
   have hb2:=yXt hb2
   obtain⟨b',l,sub',q1,q2,q3⟩:=R1.cells hg
   rw[e1]at q1;cases q1
   have h1:=q2.length
   have h2:=hvv.length
   have hst:=dX (P:=P) (o:=0+off) hm hlv (by rw[h2,hb1]) (by omega) (zSl hb3 hvv) q3
   simp only[execOp,ho,e2]
   refine wO hst ⟨E1,_,_,hle1,R1.setCells hg e1 (vs':=vs.take off++(us++vs.drop (off+m))) ?_,?_,hk⟩
   ·unfold spl
    rw[yVq,yWi,h2,hb1]
    exact(q2.take off).append (hvv.append (q2.drop _))
   ·simp only[VR];exact⟨[],rfl,VRL.nil⟩
  ·rename_i n sz i f hxs
   split at h<;>first|exact h.elim|skip
   rename_i ds s' hd
   split at h<;>first|exact h.elim|skip
   rename_i T sz' els hg
   obtain⟨m,hm,h⟩:=zM h
   obtain⟨hb,hi,hk⟩:=zP h
   simp only[yVy]at hb
   obtain⟨⟨hb1,hb2⟩,hb3⟩:=hb
   have e:=yVo hb1
   subst e
   have hb2:=yVo hb2
   have hb3:=yXt hb3
   obtain⟨E',ys,q1,q2,q3,q4,q5,q6⟩:=zIz R hd (he.ev v)
   rw[hxs]at hx;simp only[VR]at hx
   obtain⟨b,oo,mm,c,sub,e1,e2⟩:=hx
   obtain⟨l,r1,r2,r3⟩:=q3.setOwn (ds:=ds) (f:=f) hg hi (by omega) (q1.get e1) q6
   have hst:=dX (P:=P) (o:=oo+i*sz+f) hm q5 (by rw[q6.length,hb2]) (by rw[q6.length,hb2]at r2;exact r2) q6.one r1
   simp only[execOp,ho,e2]
   exact wO hst ⟨E',_,_,q1,r3,by simp only[VR];exact⟨[],rfl,VRL.nil⟩,hk⟩
   rename_i T els hg
   obtain⟨m,hm,h⟩:=zM h
   obtain⟨hb,hi,hk⟩:=zP h
   simp only[yVy]at hb
   obtain⟨⟨⟨hb1,hb2⟩,hb3⟩,hb4⟩:=hb
   have hb1:=yVo hb1
   have hb2:=yVo hb2
   have hb3:=yVo hb3
   have hb4:=yVo hb4
   subst hb1 hb3 hb4
   obtain⟨E',ys,q1,q2,q3,q4,q5,q6⟩:=zIz R hd (he.ev v)
   rw[hxs]at hx;simp only[VR]at hx
   obtain⟨b,oo,mm,c,sub,e1,e2⟩:=hx
   have hyl:=q6.length
   obtain⟨y,rfl⟩:∃y,ys=[y]:=List.length_eq_one_iff.1 (by omega)
   obtain⟨l,r1,r2,r3,r4⟩:=q3.setMrk (ds:=ds) hg hi hb2 (q1.get e1) q6
   have hst:=zMf (P:=P) (o:=oo+i) hm q5 (by rw[r4];simpa using r2) (q6.one y yVp) r1
   simp only[execOp,ho,e2]
   have ea:oo+i*1+0=oo+i:=by omega
   rw[ea]
   exact wO hst ⟨E',_,_,q1,r3,by simp only[VR];exact⟨[],rfl,VRL.nil⟩,hk⟩
  ·rename_i n off i hxs
   rw[hxs]at hx;simp only[VR]at hx
   obtain⟨b,oo,sub,e1,e2⟩:=hx
   have hv0:=he.ev v
   split at h<;>first|exact h.elim|skip
   rename_i u hu
   rw[hu]at hv0
   have hv1:=hv0
   simp only[VR,DR]at hv1
   obtain⟨hv1,hv2⟩:=hv1
   split at h<;>first|exact h.elim|skip
   rename_i vs T hg
   obtain⟨m,hm,h⟩:=zM h
   obtain⟨hb,hi,hk⟩:=zP h
   have hb:=yVo hb
   subst hb
   rw[yWh]at hi
   obtain⟨b',l,sub',q1,q2,q3⟩:=R.cells hg
   rw[e1]at q1;cases q1
   have h1:=q2.length
   have hlv:(ev ρ v).cells=[u].toArray:=by
    rw[hv1];cases u<;>first|rfl|cases hv2
   have hst:=dX (P:=P) (o:=0+(off+i)) hm hlv rfl (by omega) (by intro z hz;rw[yXc.1 hz];exact hv2) q3
   simp only[execOp,ho,e2]
   refine wO hst ⟨E,_,_,Ev.le.refl _,R.setCells hg e1 (vs':=vs.take off++(vs.drop off).set i (.d (.v u))) ?_,?_,hk⟩
   ·have e:vs.take off++(vs.drop off).set i (.d (.v u))=vs.take (off+i)++([.d (.v u)]++vs.drop (off+i+1)):=by
     rw[yZm,yVl (by rw[yWh];omega),yYu,List.take_add,yVq]
     rfl
    rw[e]
    unfold spl
    rw[yVq,yWi]
    exact(q2.take _).append ((VRL.one (by simp only[VR,DR];exact⟨trivial,hv2⟩)).append (q2.drop _))
   ·simp only[VR];exact⟨[],rfl,VRL.nil⟩
   rename_i vs T hg
   obtain⟨m,hm,h⟩:=zM h
   obtain⟨hb,hi,hk⟩:=zP h
   have hb:=yVo hb
   subst hb
   rw[yWh]at hi
   obtain⟨b',l,sub',q1,q2,q3⟩:=R.vec hg
   rw[e1]at q1;cases q1
   have h1:=q2.length
   have hlv:(ev ρ v).cells=[u].toArray:=by
    rw[hv1];cases u<;>first|rfl|cases hv2
   have hst:=dX (P:=P) (o:=0+(off+i)) hm hlv rfl (by omega) (by intro z hz;rw[yXc.1 hz];exact hv2) q3
   simp only[execOp,ho,e2]
   refine wO hst ⟨E,_,_,Ev.le.refl _,R.setVec hg e1 (ds':=vs.take off++(vs.drop off).set i (.v u)) ?_,?_,hk⟩
   ·have e:vs.take off++(vs.drop off).set i (.v u)=vs.take (off+i)++([.v u]++vs.drop (off+i+1)):=by
     rw[yZm,yVl (by rw[yWh];omega),yYu,List.take_add,yVq]
     rfl
    rw[e]
    unfold spl
    rw[yVq,yWi]
    exact(q2.take _).append ((show DRL E.F [.v u] [u]from(by simp only[DRL,DR];exact⟨_,_,rfl,⟨rfl,hv2⟩,rfl⟩)).append (q2.drop _))
   ·simp only[VR];exact⟨[],rfl,VRL.nil⟩
 case convert st d x=>
  simp only[se,ho]at h
  split at h<;>first|exact h.elim|skip
  ·rename_i b hx
   obtain⟨hb,h⟩:=zP h
   obtain⟨e,he',hk⟩:=zM h
   obtain⟨u1,u2⟩:=zMl he'
   have hv:=he.ev x
   rw[hx]at hv
   simp only[VR,DR]at hv
   simp only[execOp,ho,hv.1]
   have hrun:=Lib.run_convert_string_bytes (P:=P) w st d e b (bX hb) u1 u2
   refine z8 hrun ?_
   exact zXh R b e hk
  ·rename_i n hx
   split at h<;>first|exact h.elim|skip
   rename_i T sz els hg
   obtain⟨hb,h⟩:=zP h
   simp only[yVy]at hb
   have hst:=yVo hb.1
   have hsz:=yVo hb.2
   obtain⟨e,he',h2⟩:=zM h
   obtain⟨hTb,hpos,hk⟩:=zP h2
   have hT:=yVo hTb
   subst hst hsz hT
   obtain⟨u1,u2⟩:=zMl he'
   have hv:=he.ev x
   rw[hx]at hv
   simp only[VR]at hv
   obtain⟨l0,e1,a0,m0,c0,e2⟩:=hv
   obtain⟨a,c,xs,sub,q1,q2,q3,H⟩:=R.ownOpen hg
   rw[q1]at e1
   rcases H.slcases with⟨_,h0,_⟩|⟨b,r,rfl,r1,r2,r3,H1⟩
   ·omega
   have hrun:=z9q (P:=P) (w:=w) (b:=b) (l:=xs++r) (T:=T) (t:=st) H1.get u1 u2 els.length c
   have H2:=H1.upd (.cells (xs++r).toArray T ((xs++r).length,(xs++r).length+1))
   have H3:Hp k (World.setB w b (.cells (xs++r).toArray T ((xs++r).length,(xs++r).length+1))) (pt b (.cells (xs++r).toArray T ((xs++r).length,(xs++r).length+1))::fz E.F::((wX n s.rows).map (rHP E)++L)):=H2.cons yWa
   obtain⟨y,hy,hd,hsub,H4⟩:=zQb H3
   have hle:E.le ⟨un y E.F,E.tab⟩:=⟨zZz hd,yZq _⟩
   have H5:=wE (fun r x=>rHP.mono hle r) (H4.perm (yWa (l₁:=(wX n s.rows).map (rHP E)) (l₂:=L) (a:=fz (un y E.F))).symm)
   have H6:Hp k (World.setB w b (.cells (xs++r).toArray T ((xs++r).length,(xs++r).length+1))) (rHP ⟨un y E.F,E.tab⟩ (n,.fro 1 els)::((wX n s.rows).map (rHP ⟨un y E.F,E.tab⟩)++fz (un y E.F)::L)):=by
    have:=(@vS k _ True _).2 ⟨trivial,H5⟩
    refine this.imp fun z hz=> .inr ⟨_,q1,?_⟩
    simp only[rowHP]
    refine⟨hz.2,?_⟩
    simp only[DR]
    refine⟨_,c,rfl,r3,q3,.inr ⟨b,0,xs++r,T,((xs++r).length,(xs++r).length+1),rfl,?_,DRS_iff.2 ⟨xs,r,rfl,q2.mono hle.1⟩⟩⟩
    rw[show y=one b _ from hy]
    simp[un,one]
   have R2:Rel k L ⟨un y E.F,E.tab⟩ (s.set n (.fro 1 els)) (World.setB w b (.cells (xs++r).toArray T ((xs++r).length,(xs++r).length+1))):=by
    refine⟨by simpa[St.set]using R.nx,H6.perm ?_⟩
    have:=(((gC hg).2 (.fro 1 els)).map (rHP ⟨un y E.F,E.tab⟩)).append_right (fz (un y E.F)::L)
    simpa[St.set]using this.symm
   have e3:ev ρ x= .slice (some ⟨b,0,none⟩) els.length c:=(congrArg Prod.fst (Option.some.inj e1)).symm
   simp only[execOp,ho]
   rw[e3]
   exact z8 hrun ⟨_,_,_,hle,R2,by simp only[VR];exact⟨_,q1,_,_,_,rfl⟩,hk⟩
 case slice t x lo hi mx=>
  cases mx with
  |some m=>simp only[se,ho]at h
  |none=>
   obtain⟨y,hf,hout⟩:=zTv R he ho h
   exact jP (hf w) hout
 case mapUpdate t x i v=>
  simp only[se,ho]at h
  split at h<;>first|exact h.elim|skip
  rename_i n hx
  obtain⟨ke,hke,h⟩:=zM h
  obtain⟨kv,hkv,h⟩:=zM h
  obtain⟨hb,h⟩:=zP h
  simp only[yVy]at hb
  split at h<;>first|exact h.elim|skip
  rename_i ds s1 hd
  split at h<;>first|exact h.elim|skip
  rename_i es hg
  obtain⟨hal,hk⟩:=h
  obtain⟨E1,ys,q1,q2,q3,q4,q5,q6⟩:=zIz R hd (he.ev v)
  have hxv:=he.ev x
  rw[hx]at hxv
  simp only[VR]at hxv
  obtain⟨bm,sub,e1,e2⟩:=hxv
  have e1:=q1.get e1
  rw[e2]at e1
  obtain⟨ents,ck,r1,r2,rb,r3⟩:=q3.setMap (es':=gM kv ds es) hg e1
  have hi:ev ρ i=kv:=nA hkv (he.ev i)
  obtain⟨kd,hu,hkt⟩:=sX hb.1
  have hval:=zSj hb.2 (he.ev v) q5
  have run:∃ents' ck',MR E1.F (gM kv ds es) ents'∧wV ents' ck'∧(Instr.mapUpdate t (.map (some bm)) kv (ev ρ v)).run P w= .ok () (World.setB w bm (.map ents'.toArray ck')):=by
   rcases eB hkt 0 r1 hal with⟨t1,t2,t3,t4,_⟩|⟨q,m,ds',ys',t1,t2,t3,t4,t5,t6,t7,t8,_⟩
   ·refine⟨ents++[{key:=kv,val:=ev ρ v,born:=ck}],ck+1,by rw[t3];exact zPs q6 (e:={key:=kv,val:=ev ρ v,born:=ck}) rfl hval r1,zOv rb rfl,?_⟩
    simp only[Instr.mapUpdate,bind,run_bind,Cv.run_underlying (v8 hke),qC r2 trivial,pure,Sem.run,jD hu hkt,j8 hu t1]
    rw[vG r2 trivial]
    simp
   ·refine⟨ents.set q {m with key:=kv,val:=ev ρ v},ck,t7 _ _ _ q6 rfl hval,zJx rb t2 rfl,?_⟩
    have hq:(ents.toArray[0+q]?).map (·.key)=some kv:=by simp[t2,t3]
    simp only[Instr.mapUpdate,bind,run_bind,Cv.run_underlying (v8 hke),qC r2 trivial,pure,Sem.run,jD hu hkt,j8 hu t1,hq,yXo,Instr.keyThatStays,zBl hkt,if_true]
    rw[vG r2 trivial]
    congr 4
    rw[List.modify_toArray]
    congr 1
    rw[yWi,List.modify_eq_set,t2];rfl
  obtain⟨ents',ck',u1,ub,u2⟩:=run
  simp only[execOp,ho,e2,hi]
  exact wO u2 ⟨E1,.tup [],_,q1,r3 ents' ck' u1 ub,by simp only[VR];exact⟨[],rfl,VRL.nil⟩,hk⟩
 case mapEntry t x i=>
  simp only[se,ho]at h
  split at h<;>first|exact h.elim|skip
  rename_i n hx
  obtain⟨ke,hke,h⟩:=zM h
  obtain⟨kv,hkv,h⟩:=zM h
  obtain⟨hks,h⟩:=zP h
  obtain⟨z,hz,h⟩:=zM h
  split at h<;>first|exact h.elim|skip
  rename_i es hg
  obtain⟨hal,b,h⟩:=h
  obtain⟨ds,h⟩:=bY h
  obtain⟨hlk,h⟩:=h
  obtain⟨v,hm,hk⟩:=zM h
  have hxv:=he.ev x
  rw[hx]at hxv
  simp only[VR]at hxv
  obtain⟨bm,sub,e1,e2⟩:=hxv
  rw[e2]at e1
  obtain⟨ents,ck,r1,r2,rb,r3⟩:=R.setMapE (es':=gM kv ds es) (kv:=kv) hg e1
  have hi:ev ρ i=kv:=nA hkv (he.ev i)
  obtain⟨kd,hu,hkt⟩:=sX hks
  have run:∃ents' ck' y born,MR E.F (gM kv ds es) ents'∧wV ents' ck'∧zGx ents' kv born∧VR E v y∧(Instr.mapEntry t (.map (some bm)) kv).run P w= .ok (.tuple #[y,.int .i64 born]) (World.setB w bm (.map ents'.toArray ck')):=by
   rcases eB hkt 0 r1 hal with⟨t1,t2,t3,t4,t5⟩|⟨q,m,ds',ys',t1,t2,t3,t4,t5,t6,t7,t8,t9⟩
   ·rcases hlk with⟨l1,l2⟩|⟨l1,l2,l3⟩
    ·rw[t2]at l1;cases l1
    ·subst l2 l3
     obtain⟨zv,ys,z1,z2,z3⟩:=z5m (F:=E.F) hz hm
     refine⟨ents++[{key:=kv,val:=zv,born:=ck}],ck+1,zv,ck,by rw[t3];exact zPs z2 (e:={key:=kv,val:=zv,born:=ck}) rfl z3 r1,zOv rb rfl,⟨kd,hkt,ents.length,_,by have:=t5 {key:=kv,val:=zv,born:=ck} rfl;rwa [yWi]at this,by simp,rfl⟩,by rw[z3];exact zPy hm z2,?_⟩
     simp only[Instr.mapEntry,bind,run_bind,Cv.run_underlying (v8 hke),qC r2 trivial,pure,Sem.run,jD hu hkt,j8 hu t1,zero_run (fT z1)]
     rw[vG r2 trivial]
     simp[goInt]
   ·rcases hlk with⟨l1,l2⟩|⟨l1,l2,l3⟩
    ·rw[t4]at l1;cases l1
     refine⟨ents.set q {m with key:=kv},ck,m.val,m.born,t7 _ _ _ t5 rfl t6,zJx rb t2 rfl,⟨kd,hkt,q,{m with key:=kv},by have:=t9 {m with key:=kv} rfl;rwa [yWi]at this,by
      rw[List.getElem?_set_self (yVn.1 t2).1],rfl⟩,by rw[t6];exact zPy hm t5,?_⟩
     have hq:(ents.toArray[0+q]?).map (·.key)=some kv:=by simp[t2,t3]
     have hqb:((ents.toArray[0+q]?).map fun x=>((x.born:Nat):Int))=some (m.born:Int):=by simp[t2]
     simp only[Instr.mapEntry,bind,run_bind,Cv.run_underlying (v8 hke),qC r2 trivial,pure,Sem.run,jD hu hkt,j8 hu t1,hq,hqb,yXo,Instr.keyThatStays,zBl hkt,if_true]
     rw[vG r2 trivial]
     simp only[goInt,hqb,yXo]
     congr 3
     rw[List.modify_toArray]
     congr 1
     rw[yWi,List.modify_eq_set,t2];rfl
    ·rw[t4]at l1;cases l1
  obtain⟨ents',ck',y,born,u1,ub,us,uy,u2⟩:=run
  simp only[execOp,ho,e2,hi]
  exact z8 u2 ⟨E,.tup [v,.d (.v (.int .i64 born))],_,Ev.le.refl _,r3 ents' ck' born u1 ub us,by simp only[VR,VRL,DR];exact⟨_,rfl,_,_,rfl,uy,_,_,rfl,⟨rfl,rfl⟩,rfl⟩,hk born⟩
 case entryStore t x st v=>
  simp only[se,ho]at h
  split at h<;>first|exact h.elim|skip
  rename_i n hx
  split at h<;>first|exact h.elim|skip
  rename_i ik b hst
  obtain⟨ke,hke,h⟩:=zM h
  obtain⟨hb,h⟩:=zP h
  split at h<;>first|exact h.elim|skip
  rename_i ds s1 hd
  split at h<;>first|exact h.elim|skip
  rename_i es kv b' hg
  obtain⟨rfl,hal,hk⟩:=h
  obtain⟨E1,ys,q1,q2,q3,q4,q5,q6⟩:=zIz R hd (he.ev v)
  have hxv:=he.ev x
  rw[hx]at hxv
  simp only[VR]at hxv
  obtain⟨bm,sub,e1,e2⟩:=hxv
  have e1:=q1.get e1
  rw[e2]at e1
  have hsv:=he.ev st
  rw[hst]at hsv
  simp only[VR,DR]at hsv
  obtain⟨ents,ck,r1,r2,rb,⟨kd,hkt,q,m,u1,u2,u3⟩,r3⟩:=q3.setMapF (es':=gM kv ds es) hg e1
  have hval:=zSj hb (he.ev v) q5
  rcases eB hkt 0 r1 hal with⟨t1,t2,t3,t4,t5⟩|⟨q',m',ds',ys',t1,t2,t3,t4,t5,t6,t7,t8,t9⟩
  ·rw[t1]at u1;cases u1
  ·rw[t1]at u1
   simp only[Option.some.injEq,Prod.mk.injEq,yWi]at u1
   obtain⟨rfl,_⟩:=u1
   rw[t2]at u2;cases u2
   have hfi:=z6m rb.1 t2
   have run:(Instr.entryStore t (.map (some bm)) (ev ρ st) (ev ρ v)).run P w= .ok () (World.setB w bm (.map (ents.set q' {m with val:=ev ρ v}).toArray ck)):=by
    rw[hsv.1,← u3]
    have hfa:ents.toArray.findIdx? (fun e=>((e.born:Nat):Int)==((m.born:Nat):Int))=some q':=by simpa using hfi
    simp only[Instr.entryStore,bind,run_bind,qC r2 trivial,pure,Sem.run,asInt,asIntOf,hfa]
    rw[vG r2 trivial]
    congr 2
    rw[List.modify_toArray]
    congr 1
    rw[List.modify_eq_set,t2];rfl
   simp only[execOp,ho,e2]
   exact wO run ⟨E1,.tup [],_,q1,r3 _ ck (t7 _ _ _ q6 t3 hval) (zJx rb t2 rfl),by simp only[VR];exact⟨[],rfl,VRL.nil⟩,hk⟩
 case range t x=>
  simp only[se,ho]at h
  split at h<;>first|exact h.elim|skip
  rename_i b hx
  obtain⟨hs,hk⟩:=zP h
  have hv:=he.ev x
  rw[hx]at hv
  simp only[VR,DR]at hv
  simp only[execOp,ho,hv.1]
  refine z8 (v:= .pointer (some ⟨w.heap.size,0,none⟩)) (w':=w.alloc (.stringIter b 0)) ?_ ?_
  ·simp only[Instr.range,bind,pure,run_bind,Sem.bind,Cv.run_underlying (bX hs)]
   rfl
  ·refine zBk (hd:=(.pointer (some ⟨w.heap.size,0,none⟩),[])) R ?_ (fun hg=> ?_) hk
   ·simp only[rowHP];exact⟨_,rfl,rfl⟩
   ·simp only[VR];exact⟨_,0,_,hg,rfl⟩
 case next x isS=>
  cases isS with
  |false=>simp only[se,ho]at h
  |true=>
   simp only[se,ho]at h
   split at h<;>first|exact h.elim|skip
   rename_i n hx
   split at h<;>first|exact h.elim|skip
   rename_i b pos hg
   have hv:=he.ev x
   rw[hx]at hv
   simp only[VR]at hv
   obtain⟨bb,oo,sub,e1,e2⟩:=hv
   obtain⟨hd,hh,e3,e4,_⟩:=R.row hg (by simp)
   rw[e1]at e3;cases e3
   simp only[rowHP]at e4
   obtain⟨b2,e4,_⟩:=e4
   cases e4
   have hS:=fun pos'=>R.setIter (pos':=pos') hg e1
   have hget:=(hS 0).1
   simp only[execOp,ho,e2]
   rcases z3p h with⟨hb,hk⟩|⟨hb,hk⟩
   ·have hlt:pos<b.size:=by simpa[yYi]using hb
    refine z8 (v:= .tuple #[.bool true,.int .i64 (pos:Nat),.int .i32 (Utf8.decode b pos).1]) (w':=World.setB w bb (.stringIter b (pos+(Utf8.decode b pos).2))) ?_
     ⟨E,_,_,Ev.le.refl _,(hS _).2,?_,hk⟩
    ·simp only[Instr.next,bind,pure,run_bind,Sem.bind,Sem.run,qC hget trivial,yVl hlt,vG hget trivial]
     rfl
    ·simp only[VR,VRL,DR]
     exact⟨_,rfl,_,_,rfl,⟨rfl,rfl⟩,_,_,rfl,⟨rfl,rfl⟩,_,_,rfl,⟨rfl,rfl⟩,rfl⟩
   ·have hlt:¬pos<b.size:=by
     intro h'
     have:Nat.blt pos b.size=true:=by rw[yYi];exact h'
     rw[this]at hb;cases hb
    refine z8 (v:= .tuple #[.bool false]) (w':=w) ?_ ⟨E,_,_,Ev.le.refl _,R,?_,hk⟩
    ·simp only[Instr.next,bind,pure,run_bind,Sem.bind,Sem.run,qC hget trivial,yVj hlt]
    ·simp only[VR,VRL,DR]
     exact⟨_,rfl,_,_,rfl,⟨rfl,rfl⟩,rfl⟩
 case call c=>
  simp only[se,ho]at h
  split at h<;>first|exact h.elim|skip
  ·rename_i x hc
   split at h<;>first|exact h.elim|skip
   rename_i f a b hx
   have hv:=he.ev x
   rw[hx]at hv
   simp only[VR]at hv
   obtain⟨as,bs,e1,e2,e3⟩:=hv
   obtain⟨ys,e4,e5⟩:=dW he c.args
   have hrun:(execOp (ev ρ) o)=callFunc f (as++(ys++bs)).toArray:=by
    have hexec:execOp (ev ρ) o=(resolve (ev ρ) c o.type).bind fun d=>invoke d.target d.args:=by
     simp only[execOp,ho];rfl
    rw[hexec]
    unfold resolve
    rw[hc]
    simp only[e1,Deferred.ofValue,pure,Sem.bind,invoke,e4]
    congr 1
    apply Array.ext'
    simp
   rw[hrun]
   exact zVd hH R h (e2.append (e5.append e3))
  ·rename_i hc
   split at h<;>first|exact h.elim|skip
   rename_i t1 t2 hts
   split at h<;>first|exact h.elim|skip
   rename_i x y hargs
   obtain⟨ys,e1,e2⟩:=dW he c.args
   rw[hargs]at e2
   simp only[VRL]at e2
   obtain⟨xr,_,rfl,hx,yr,_,rfl,hy,rfl⟩:=e2
   have ht:c.argTypes= #[t1,t2]:=by apply Array.ext';simpa using hts
   rw[jC ho hc,e1,ht]
   cases hob:yCc s y with
   |false=>
    rw[hob]at h
    obtain⟨v,w',hr,hout⟩:=zLw (rt:=o.type) R hx hy h
    exact z8 hr hout
   |true=>
    rw[hob]at h
    obtain⟨v,w',hr,hout⟩:=zKf (rt:=o.type) R hx hy h
    exact z8 hr hout
  ·rename_i hc
   split at h<;>first|exact h.elim|skip
   rename_i n y hargs
   obtain⟨t,ht,h⟩:=zM h
   obtain⟨ke,hke,h⟩:=zM h
   obtain⟨kv,hkv,h⟩:=zM h
   obtain⟨hks,h⟩:=zP h
   split at h<;>first|exact h.elim|skip
   rename_i es hg
   obtain⟨hal,hk⟩:=h
   obtain⟨ys,e1,e2⟩:=dW he c.args
   rw[hargs]at e2
   simp only[VRL,VR]at e2
   obtain⟨mv,_,rfl,⟨bm,sub,e3,rfl⟩,yv,_,rfl,hy,rfl⟩:=e2
   obtain rfl:=nA hkv hy
   obtain⟨ents,ck,r1,r2,rb,r3⟩:=R.setMap (es':=eM yv es) hg e3
   obtain⟨kd,hu,hkt⟩:=sX hks
   have run:∃ents' ck',MR E.F (eM yv es) ents'∧wV ents' ck'∧(Builtin.delete_ c.argTypes o.type #[.map (some bm),yv]).run P w= .ok (.tuple #[]) (World.setB w bm (.map ents'.toArray ck')):=by
    rcases eB hkt 0 r1 hal with⟨t1,t2,t3,t4,_⟩|⟨q,m,ds',ys',t1,t2,t3,t4,t5,t6,t7,t8,_⟩
    ·refine⟨ents,ck,by rw[t4];exact r1,rb,?_⟩
     simp only[Builtin.delete_,ht,yXh,yXn,yXe,bind,run_bind,Cv.run_underlying (v8 hke),qC r2 trivial,pure,Sem.run,jD hu hkt,j8 hu t1]
     rw[vG r2 trivial]
    ·refine⟨ents.eraseIdx q,ck,t8,zZl rb,?_⟩
     simp only[Builtin.delete_,ht,yXh,yXn,yXe,bind,run_bind,Cv.run_underlying (v8 hke),qC r2 trivial,pure,Sem.run,jD hu hkt,j8 hu t1]
     rw[vG r2 trivial]
     simp
   obtain⟨ents',ck',u1,ub,u2⟩:=run
   rw[jC ho hc,e1]
   exact z8 u2 ⟨E,.tup [],_,Ev.le.refl _,r3 ents' ck' u1 ub,by simp only[VR];exact⟨[],rfl,VRL.nil⟩,hk⟩
 all_goals(simp only[se,ho]at h)
end Sx
