/- Texts of ours, one behind the other: a walk that the kernel reckons, and contracts of functions. No condition. -/
import Derived.Laws.Cover1
import Derived.Laws.StructEq
import Derived.MapKept
import Derived.Test.YthkofaanekmpmaaGreatU1
namespace Sx
set_option linter.unusedSimpArgs false
set_option linter.unusedVariables false
open Go Go.RowKit Cv
theorem VRL.length {E:Ev}:∀{vs:List V} {l:List Value},VRL E vs l→l.length=vs.length
 |[],l,h=>by simp only[VRL]at h;subst h;rfl
 |v::vs,l,h=>by simp only[VRL]at h;obtain⟨x,xs,rfl,h1,h2⟩:=h;simp[h2.length]
theorem VRL.get {E:Ev}:∀{vs:List V} {l:List Value},VRL E vs l→∀{i:Nat} {v:V},vs[i]? =some v→∃y,l[i]? =some y∧VR E v y
 |[],l,h,i,v,e=>by simp at e
 |v::vs,l,h,i,u,e=>by
  simp only[VRL]at h;obtain⟨x,xs,rfl,h1,h2⟩:=h
  cases i with
  |zero=>simp at e;subst e;exact⟨x,rfl,h1⟩
  |succ i=>simp at e ⊢;exact h2.get e
theorem VRL.take {E:Ev}:∀{vs:List V} {l:List Value},VRL E vs l→∀(n:Nat),VRL E (vs.take n) (l.take n)
 |[],l,h,n=>by simp only[VRL]at h;subst h;simp[VRL]
 |v::vs,l,h,n=>by
  simp only[VRL]at h;obtain⟨x,xs,rfl,h1,h2⟩:=h
  cases n with
  |zero=>simp[VRL]
  |succ n=>simp only[yXw,VRL];exact⟨_,_,rfl,h1,h2.take n⟩
theorem VRL.drop {E:Ev}:∀{vs:List V} {l:List Value},VRL E vs l→∀(n:Nat),VRL E (vs.drop n) (l.drop n)
 |[],l,h,n=>by simp only[VRL]at h;subst h;simp[VRL]
 |v::vs,l,h,n=>by
  have h0:=h
  simp only[VRL]at h;obtain⟨x,xs,rfl,h1,h2⟩:=h
  cases n with
  |zero=>exact h0
  |succ n=>simp only[List.drop_succ_cons];exact h2.drop n
theorem VRL.append {E:Ev}:∀{vs:List V} {l:List Value},VRL E vs l→∀{us:List V} {m:List Value},VRL E us m→VRL E (vs++us) (l++m)
 |[],l,h,us,m,h'=>by simp only[VRL]at h;subst h;exact h'
 |v::vs,l,h,us,m,h'=>by
  simp only[VRL]at h;obtain⟨x,xs,rfl,h1,h2⟩:=h
  simp only[yYd,VRL];exact⟨_,_,rfl,h1,h2.append h'⟩
theorem VRL.one {E:Ev} {v:V} {y:Value} (h:VR E v y):VRL E [v] [y]:=by simp only[VRL];exact⟨_,_,rfl,h,rfl⟩
theorem VRL.nil {E:Ev}:VRL E [] []:=by simp only[VRL]
theorem DRL.length {F:PH}:∀{vs:List D} {l:List Value},DRL F vs l→l.length=vs.length
 |[],l,h=>by simp only[DRL]at h;subst h;rfl
 |v::vs,l,h=>by simp only[DRL]at h;obtain⟨x,xs,rfl,h1,h2⟩:=h;simp[h2.length]
theorem DRL.append {F:PH}:∀{vs:List D} {l:List Value},DRL F vs l→∀{us:List D} {m:List Value},DRL F us m→DRL F (vs++us) (l++m)
 |[],l,h,us,m,h'=>by simp only[DRL]at h;subst h;exact h'
 |v::vs,l,h,us,m,h'=>by
  simp only[DRL]at h;obtain⟨x,xs,rfl,h1,h2⟩:=h
  simp only[yYd,DRL];exact⟨_,_,rfl,h1,h2.append h'⟩
theorem DRL.split {F:PH}:∀{vs us:List D} {l:List Value},DRL F (vs++us) l→∃l1 l2,l=l1++l2∧DRL F vs l1∧DRL F us l2
 |[],us,l,h=>⟨[],l,rfl,by simp only[DRL],h⟩
 |v::vs,us,l,h=>by
  simp only[yYd,DRL]at h;obtain⟨x,xs,rfl,h1,h2⟩:=h
  obtain⟨l1,l2,rfl,h3,h4⟩:=h2.split
  exact⟨x::l1,l2,rfl,by simp only[DRL];exact⟨_,_,rfl,h1,h3⟩,h4⟩
theorem DRL.take {F:PH}:∀{vs:List D} {l:List Value},DRL F vs l→∀(n:Nat),DRL F (vs.take n) (l.take n)
 |[],l,h,n=>by simp only[DRL]at h;subst h;simp[DRL]
 |v::vs,l,h,n=>by
  simp only[DRL]at h;obtain⟨x,xs,rfl,h1,h2⟩:=h
  cases n with
  |zero=>simp[DRL]
  |succ n=>simp only[yXw,DRL];exact⟨_,_,rfl,h1,h2.take n⟩
theorem DRL.drop {F:PH}:∀{vs:List D} {l:List Value},DRL F vs l→∀(n:Nat),DRL F (vs.drop n) (l.drop n)
 |[],l,h,n=>by simp only[DRL]at h;subst h;simp[DRL]
 |v::vs,l,h,n=>by
  have h0:=h
  simp only[DRL]at h;obtain⟨x,xs,rfl,h1,h2⟩:=h
  cases n with
  |zero=>exact h0
  |succ n=>simp only[List.drop_succ_cons];exact h2.drop n
theorem DRL.one {F:PH}:∀{vs:List D} {l:List Value},DRL F vs l→∀v∈l,v.oneC=true
 |[],l,h=>by simp only[DRL]at h;subst h;simp
 |v::vs,l,h=>by
  simp only[DRL]at h;obtain⟨x,xs,rfl,h1,h2⟩:=h
  intro u hu
  rcases yXe.1 hu with rfl|hu
  ·cases v with
   |v y=>simp only[DR]at h1;rw[h1.1];exact h1.2
   |ro sz els=>simp only[DR]at h1;obtain⟨a,c,rfl,_⟩:=h1;rfl
  ·exact h2.one u hu
theorem DRL.get {F:PH}:∀{vs:List D} {l:List Value},DRL F vs l→∀{i:Nat} {v:D},vs[i]? =some v→∃y,l[i]? =some y∧DR F v y
 |[],l,h,i,v,e=>by simp at e
 |v::vs,l,h,i,u,e=>by
  simp only[DRL]at h;obtain⟨x,xs,rfl,h1,h2⟩:=h
  cases i with
  |zero=>simp at e;subst e;exact⟨x,rfl,h1⟩
  |succ i=>simp at e ⊢;exact h2.get e
theorem DRL.vrl {E:Ev}:∀{vs:List D} {l:List Value},DRL E.F vs l→VRL E (vs.map .d) l
 |[],l,h=>by simp only[DRL]at h;subst h;simp[VRL]
 |v::vs,l,h=>by
  simp only[DRL]at h;obtain⟨x,xs,rfl,h1,h2⟩:=h
  simp only[yWz,VRL,VR];exact⟨_,_,rfl,h1,h2.vrl⟩
theorem DRS_iff {F:PH}:∀{els:List (List D)} {l:List Value},DRS F els l↔∃xs r,l=xs++r∧DRL F els.flatten xs
 |[],l=>by simp only[DRS,List.flatten_nil,true_iff,DRL];exact⟨[],l,rfl,rfl⟩
 |el::els,l=>by
  simp only[DRS,yYs]
  constructor
  ·rintro⟨l1,l2,rfl,h1,h2⟩
   obtain⟨xs,r,rfl,h3⟩:=DRS_iff.1 h2
   exact⟨l1++xs,r,by simp,h1.append h3⟩
  ·rintro⟨xs,r,rfl,h⟩
   obtain⟨l1,l2,rfl,h1,h2⟩:=h.split
   exact⟨l1,l2++r,by simp,h1,DRS_iff.2 ⟨l2,r,rfl,h2⟩⟩
theorem jF {α:Type} {sz:Nat}:∀{els:List (List α)},(∀el∈els,el.length=sz)→els.flatten.length=els.length*sz
 |[],_=>by simp
 |el::els,h=>by
  rw[yYs,yWi,h el yWp,jF (fun e he=>h e (yWq _ he)),yWr,yZf]
  omega
theorem aX {α:Type} {sz:Nat}:∀{els:List (List α)} (i:Nat),(∀el∈els,el.length=sz)→els.flatten.drop (i*sz)=(els.drop i).flatten
 |[],i,_=>by simp
 |el::els,0,h=>by simp
 |el::els,i+1,h=>by
  rw[yYs,List.drop_succ_cons,← aX i (fun e he=>h e (yWq _ he)),yZf,y2g,← yZv]
  rw[show(el++els.flatten).drop sz=els.flatten by rw[← h el yWp,List.drop_left]]
theorem a8 {α:Type} {sz:Nat}:∀{els:List (List α)} (i:Nat),(∀el∈els,el.length=sz)→els.flatten.take (i*sz)=(els.take i).flatten
 |[],i,_=>by simp
 |el::els,0,h=>by simp
 |el::els,i+1,h=>by
  rw[yYs,yXw,yYs,← a8 i (fun e he=>h e (yWq _ he)),yZf,y2g,List.take_append,h el yWp]
  simp[h el yWp]
  rw[yWu (by rw[h el yWp];omega)]
theorem zDz {α:Type} {sz:Nat} {els:List (List α)} {i f n:Nat} {el:List α} (h:∀el∈els,el.length=sz) (hi:els[i]? =some el) (hf:f+n≤sz):(els.flatten.drop (i*sz+f)).take n=(el.drop f).take n:=by
 have hm:=yWt hi
 have hlt:i<els.length:=(yWn.1 hi).1
 rw[← yZv,aX i h]
 have:els.drop i=el::els.drop (i+1):=by
  rw[yYo hlt]
  congr 1
  exact(yWn.1 hi).2
 rw[this,yYs,yYr (by rw[h el hm];omega),yXh (by rw[yXg,h el hm];omega)]
def okc:Value→Bool
 | .agg cs=>cs.toList.all (·.oneC)
 | .tuple cs=>cs.toList.all (·.oneC)
 |_=>true
def toV (x:Value):V:=
 bif okc x then(match x with
 | .agg cs=> .agg (cs.toList.map fun y=> .d (.v y))
 | .tuple cs=> .tup (cs.toList.map fun y=> .d (.v y))
 |x=> .d (.v x))else .top
theorem z9h {E:Ev}:∀{l:List Value},(l.all (·.oneC))=true→VRL E (l.map fun y=> .d (.v y)) l
 |[],_=>by simp[VRL]
 |y::l,h=>by
  simp only[List.all_cons,yWw]at h
  simp only[yWz,VRL,VR,DR]
  exact⟨y,l,rfl,⟨rfl,h.1⟩,z9h h.2⟩
theorem zJh (E:Ev) (x:Value):VR E (toV x) x:=by
 unfold toV
 cases h:okc x
 ·simp[VR]
 ·cases x<;>simp only[cond_true,VR,DR]<;>first|exact⟨rfl,rfl⟩|exact⟨trivial,rfl⟩|(rename_i cs;exact⟨cs.toList,by simp,z9h h⟩)
@[reducible] def yO:=Nat→V
def sev (ρ:yO):Operand→V
 | .tmp t=>ρ t
 | .const x=>toV x
 | .func f=> .fn f [] []
 | .global _=> .top
def rT (ρ:yO):Option Nat→V→yO
 |none,_=>ρ
 |some d,v=>fun i=>bif Nat.beq i d then v else ρ i
def EnvR (E:Ev) (ρS:yO) (ρ:Env):Prop:=∀t,VR E (ρS t) (ρ t)
theorem EnvR.ev {E:Ev} {ρS:yO} {ρ:Env} (h:EnvR E ρS ρ) (x:Operand):VR E (sev ρS x) (ev ρ x):=by
 cases x with
 |tmp t=>exact h t
 |const v=>exact zJh E v
 |func f=>simp only[sev,Cv.ev,VR];exact⟨[],[],rfl,VRL.nil,VRL.nil⟩
 |global g=>simp only[sev,VR]
theorem EnvR.put {E:Ev} {ρS:yO} {ρ:Env} (h:EnvR E ρS ρ) (d:Option Nat) {v:V} {y:Value} (hv:VR E v y):EnvR E (rT ρS d v) (Cv.put ρ d y):=by
 cases d with
 |none=>exact h
 |some d=>
  intro t
  simp only[rT,Cv.put]
  cases Nat.beq t d
  ·exact h t
  ·exact hv
theorem EnvR.mono {E E':Ev} (h:E.le E') {ρS:yO} {ρ:Env} (e:EnvR E ρS ρ):EnvR E' ρS ρ:=fun t=>(e t).mono h
def evs (ρ:yO):List Operand→List V
 |[]=>[]
 |x::l=>sev ρ x::evs ρ l
theorem z8t {E:Ev} {ρS:yO} {ρ:Env} (h:EnvR E ρS ρ):∀(l:List Operand),VRL E (evs ρS l) (l.map (ev ρ))
 |[]=>by simp[evs,VRL]
 |x::l=>by simp only[evs,yWz,VRL];exact⟨_,_,rfl,h.ev x,z8t h l⟩
theorem dY {E:Ev} {ρS:yO} {ρ:Env} (h:EnvR E ρS ρ) (l:Array Operand):∃ys:List Value,l.map (ev ρ)=ys.toArray∧VRL E (evs ρS l.toList) ys:=
 ⟨l.toList.map (ev ρ),by apply Array.ext';simp,z8t h _⟩
def zSx:List V→Option (List Value)
 |[]=>some []
 | .d (.v x)::l=>match zSx l with
   |some r=>some (x::r)
   |none=>none
 |_::_=>none
def zMq:V→Option Value
 | .d (.v x)=>some x
 | .agg l=>match zSx l with
   |some r=>some (.agg r.toArray)
   |none=>none
 | .fn f [] []=>some (.func (.func f) #[] #[])
 |_=>none
theorem zUr {E:Ev}:∀{l:List V} {r ys:List Value},zSx l=some r→VRL E l ys→ys=r
 |[],r,ys,h,e=>by simp only[zSx,Option.some.injEq]at h;subst h;simpa only[VRL]using e
 |v::l,r,ys,h,e=>by
  simp only[VRL]at e;obtain⟨x,xs,rfl,h1,h2⟩:=e
  unfold zSx at h
  split at h
  ·rename_i heq;cases heq
  ·rename_i x' l' heq
   cases heq
   simp only[VR,DR]at h1
   split at h<;>first|(cases h;done)|skip
   rename_i r' hr
   cases h
   rw[h1.1,zUr hr h2]
  ·cases h
theorem pC {E:Ev} {v:V} {x y:Value} (h:zMq v=some x) (e:VR E v y):y=x:=by
 unfold zMq at h
 split at h
 ·cases h;simp only[VR,DR]at e;exact e.1
 ·rename_i l
  split at h<;>first|(cases h;done)|skip
  rename_i r hr
  cases h
  simp only[VR]at e
  obtain⟨ys,rfl,h2⟩:=e
  rw[zUr hr h2]
 ·cases h
  simp only[VR]at e
  obtain⟨as,bs,rfl,h2,h3⟩:=e
  simp only[VRL]at h2 h3
  subst h2 h3;rfl
 ·cases h
def lfy (ρ:yO):Operand→Bool
 | .tmp t=>match zMq (ρ t)with
   |some _=>true
   |none=>false
 |_=>true
def yHm (ρ:yO):List Operand→Bool
 |[]=>true
 |x::l=>bif lfy ρ x then yHm ρ l else false
def yGj (ρ:yO):Env:=fun t=>match zMq (ρ t)with
 |some x=>x
 |none=>undef
theorem yLw {E:Ev} {ρS:yO} {ρ:Env} (h:EnvR E ρS ρ) {x:Operand} (hl:lfy ρS x=true):ev (yGj ρS) x=ev ρ x:=by
 cases x with
 |tmp t=>
  simp only[lfy]at hl
  split at hl<;>first|(cases hl;done)|skip
  rename_i y hy
  simp only[Cv.ev,yGj,hy]
  exact(pC hy (h t)).symm
 |_=>rfl
theorem z1w {E:Ev} {ρS:yO} {ρ:Env} (h:EnvR E ρS ρ):∀{l:List Operand},yHm ρS l=true→∀x∈l,ev (yGj ρS) x=ev ρ x
 |[],_,x,hx=>by cases hx
 |y::l,hl,x,hx=>by
  simp only[yHm]at hl
  cases hy:lfy ρS y with
  |false=>rw[hy]at hl;cases hl
  |true=>
   rw[hy]at hl
   rcases yXe.1 hx with rfl|hx
   ·exact yLw h hy
   ·exact z1w h hl x hx
def zBd:Op→Bool
 | .binOp _ _ _ _ _=>true
 | .unOp _ _ _=>true
 | .convert _ _ _=>true
 | .index _ _ _=>true
 | .nilCheck _=>true
 | .slice _ _ _ _ none=>true
 | .call {callee:= .builtin _,..}=>true
 |_=>false
theorem z6s {ρ ρ':Env} {o:Oper} (hp:zBd o.op=true) (h:∀x∈o.op.operands.toList,ev ρ x=ev ρ' x):execOp (ev ρ) o=execOp (ev ρ') o:=by
 obtain⟨dst,op,ty,pos,after,gd⟩:=o
 cases op<;>simp only[zBd,yXb]at hp
 case binOp a b x y c=>simp only[Op.operands,yXe,List.not_mem_nil,or_false,forall_eq_or_imp,forall_eq]at h;simp only[execOp,h]
 case unOp a b x=>simp only[Op.operands,yXe,List.not_mem_nil,or_false,forall_eq]at h;simp only[execOp,h]
 case convert a b x=>simp only[Op.operands,yXe,List.not_mem_nil,or_false,forall_eq]at h;simp only[execOp,h]
 case index a x y=>simp only[Op.operands,yXe,List.not_mem_nil,or_false,forall_eq_or_imp,forall_eq]at h;simp only[execOp,h]
 case nilCheck x=>simp only[Op.operands,yXe,List.not_mem_nil,or_false,forall_eq]at h;simp only[execOp,h]
 case slice a x lo hi mx=>
  cases mx with
  |some m=>simp[zBd]at hp
  |none=>
   have hl:lo.map (ev ρ)=lo.map (ev ρ'):=by
    cases lo with
    |none=>rfl
    |some z=>simp only[yYk];rw[h z (by simp[Op.operands])]
   have hh:hi.map (ev ρ)=hi.map (ev ρ'):=by
    cases hi with
    |none=>rfl
    |some z=>simp only[yYk];rw[h z (by simp[Op.operands])]
   simp only[execOp,hl,hh,h x (by simp[Op.operands])]
   rfl
 case call c=>
  obtain⟨callee,args,ats⟩:=c
  cases callee<;>simp only[zBd,yXb]at hp
  have ha:args.map (ev ρ)=args.map (ev ρ'):=by
   apply Array.map_congr_left
   intro x hx
   exact h x (by simp[Op.operands,Call.operands,hx])
  simp only[execOp,resolve,ha]
open Go Go.RowKit Cv
def zXl (P:Program) (t:TypeId) (x y:Value):Option Bool:=
 match P.underlying t with
 |some (.int _)=>match x with
  | .int k a=>match y with
    | .int k' b=>bif keq k k' then some (a==b)else none
    |_=>none
  |_=>none
 |some .string=>match x with
  | .string a=>match y with
    | .string b=>some (a==b)
    |_=>none
  |_=>none
 |some .bool=>match x with
  | .bool a=>match y with
    | .bool b=>some (a==b)
    |_=>none
  |_=>none
 |_=>none
def zZt (P:Program) (xs ys:List Value):List Field→Option Bool
 |[]=>some true
 | f :: fs => bif f.name == "_" then none else match xs[f.offset]?, ys[f.offset]? with
   |some x,some y=>match zXl P f.type x y with
    |some a=>match zZt P xs ys fs with
     |some b=>some (a && b)
     |none=>none
    |none=>none
   |_,_=>none
def yIs (P:Program) (f:Field) (xs ys:List Value):Option Bool:=
 match P.underlying f.type with
 |some (.struct gs)=>match zGt P f.type with
  |some n=>bif P.stoodInHeld f.type then none else zZt P ((xs.drop f.offset).take n) ((ys.drop f.offset).take n) gs.toList
  |none=>none
 |_=>match xs[f.offset]?,ys[f.offset]? with
  |some x,some y=>zXl P f.type x y
  |_,_=>none
def zPp (P:Program) (xs ys:List Value):List Field→Option Bool
 |[]=>some true
 | f :: fs => bif f.name == "_" then none else match yIs P f xs ys with
   |some a=>match zPp P xs ys fs with
    |some b=>some (a && b)
    |none=>none
   |none=>none
def yBo (P:Program) (t:TypeId) (xs ys:List Value):Option Bool:=
 match P.underlying t with
 |some (.struct fs)=>bif P.stoodInHeld t then none else zPp P xs ys fs.toList
 |_=>none
theorem tN {P:Program} {t:TypeId} {x y:Value} {b:Bool} (h:zXl P t x y=some b):lN P t=true:=by
 unfold zXl at h
 unfold lN
 split at h<;>first|(cases h;done)|skip
 all_goals(rename_i he;rw[he])
theorem zVj {P:Program} {t:TypeId} {x y:Value} {b:Bool} {d:Nat} (h:zXl P t x y=some b) (w:World):(Op.equalIn (d+1) t x y).run P w= .ok b w:=by
 unfold zXl at h
 split at h<;>first|(cases h;done)|skip
 all_goals
  rename_i he
  split at h<;>first|(cases h;done)|skip
  split at h<;>first|(cases h;done)|skip
  unfold Op.equalIn
  simp only[bind,pure,run_bind,Cv.run_underlying he]
 ·obtain⟨hk,hb⟩:=yQ h
  clear h
  have:=zOb hk
  subst this
  cases hb
  simp only[if_true,Sem.run]
 ·cases h;rfl
 ·cases h;rfl
theorem zDa {P:Program} {t off:Nat} {cs:List Value} {v:Value} (hs:lN P t=true) (h:cs[off]? =some v) (w:World):(part t cs.toArray off).run P w= .ok v w:=by
 unfold part
 have:cs.toArray[off]? =some v:=by simp[h]
 simp only[bind,run_bind,bD hs w,yXb,if_false,this]
 rfl
theorem zPe {P:Program} (w:World) {xs ys:List Value} {σ:Type} {s0:σ} {fin:σ} {F:Field→σ→Sem (ForInStep σ)}
 (hF : ∀ f x y b, (f.name == "_") = false → xs[f.offset]? = some x → ys[f.offset]? = some y → zXl P f.type x y = some b → (F f s0).run P w = .ok (if b then .yield s0 else .done fin) w) :
 ∀{fs:List Field} {b:Bool},zZt P xs ys fs=some b→((forIn fs s0 F):Sem σ).run P w= .ok (if b then s0 else fin) w
 |[],b,h=>by
  simp only[zZt,Option.some.injEq]at h
  subst h;rfl
 |f::fs,b,h=>by
  simp only[zZt]at h
  have hn : (f.name == "_") = false := by
   cases hb : (f.name == "_")
   ·rfl
   ·rw[hb]at h;cases h
  rw[hn]at h
  simp only[cond_false]at h
  split at h<;>first|(cases h;done)|skip
  rename_i x y hx hy
  split at h<;>first|(cases h;done)|skip
  rename_i a ha
  split at h<;>first|(cases h;done)|skip
  rename_i b' hb
  cases h
  have h1:=hF f x y a hn hx hy ha
  have ih:=zPe (P:=P) w hF hb
  simp only[List.forIn_cons,bind,run_bind,h1]
  cases a
  ·rfl
  ·simpa using ih
theorem zSn {P:Program} {t:TypeId} {fs:Array Field} {xs ys:List Value} {b:Bool} {d:Nat} (hfs:P.underlying t=some (.struct fs)) (hst:P.stoodInHeld t=false) (h:zZt P xs ys fs.toList=some b) (w:World):
 (Op.equalIn (d+2) t (.agg xs.toArray) (.agg ys.toArray)).run P w= .ok b w:=by
 unfold Op.equalIn
 simp only[bind,pure,run_bind,Cv.run_underlying hfs,program,Sem.run,Sem.bind,hst,yXb,if_false]
 rw[← Array.forIn_toList]
 have := zPe (P := P) (xs := xs) (ys := ys) w (σ := Option Bool × Unit) (s0 := (none, ())) (fin := (some false, ())) (F := fun f __s => if f.name ≠ "_" then
  (part f.type xs.toArray f.offset).bind fun x=>(part f.type ys.toArray f.offset).bind fun y=>(Op.equalIn (d+1) f.type x y).bind fun c=>
    if(!c)=true then Sem.pure (ForInStep.done (some false,()))else Sem.pure (ForInStep.yield (none,()))
  else Sem.pure (ForInStep.yield (none,()))) (by
  intro f x y c hn hx hy hc
  have hne : f.name ≠ "_" := by simpa using hn
  simp only[hne,ne_eq,not_false_eq_true,if_true,run_bind,zDa (tN hc) hx,zDa (tN hc) hy,zVj (d:=d) hc]
  cases c<;>rfl) h
 rw[this]
 cases b<;>rfl
theorem zBn {P:Program} {t off n:Nat} {cs:List Value} (hs:zGt P t=some n) (w:World):(part t cs.toArray off).run P w= .ok (.agg ((cs.drop off).take n).toArray) w:=by
 obtain⟨h1,h2⟩:=f9 hs w
 unfold part
 have e:cs.toArray.extract off (off+n)=((cs.drop off).take n).toArray:=by
  rw[List.extract_toArray,List.extract_eq_take_drop]
  simp
 simp only[bind,pure,run_bind,h1,if_true,h2,Sem.run,e]
theorem zLd {P:Program} (w:World) {xs ys:List Value} {σ:Type} {s0:σ} {fin:σ} {F:Field→σ→Sem (ForInStep σ)}
 (hF : ∀ f b, (f.name == "_") = false → yIs P f xs ys = some b → (F f s0).run P w = .ok (if b then .yield s0 else .done fin) w) :
 ∀{fs:List Field} {b:Bool},zPp P xs ys fs=some b→((forIn fs s0 F):Sem σ).run P w= .ok (if b then s0 else fin) w
 |[],b,h=>by
  simp only[zPp,Option.some.injEq]at h
  subst h;rfl
 |f::fs,b,h=>by
  simp only[zPp]at h
  have hn : (f.name == "_") = false := by
   cases hb : (f.name == "_")
   ·rfl
   ·rw[hb]at h;cases h
  rw[hn]at h
  simp only[cond_false]at h
  split at h<;>first|(cases h;done)|skip
  rename_i a ha
  split at h<;>first|(cases h;done)|skip
  rename_i b' hb
  cases h
  have h1:=hF f a hn ha
  have ih:=zLd (P:=P) w hF hb
  simp only[List.forIn_cons,bind,run_bind,h1]
  cases a
  ·rfl
  ·simpa using ih
theorem yDp {P:Program} {f:Field} {xs ys:List Value} {b:Bool} (h:yIs P f xs ys=some b) (w:World):
 ∃x y,(part f.type xs.toArray f.offset).run P w= .ok x w∧(part f.type ys.toArray f.offset).run P w= .ok y w∧(Op.equalIn 9999 f.type x y).run P w= .ok b w:=by
 unfold yIs at h
 split at h
 ·rename_i gs hgs
  split at h<;>first|(cases h;done)|skip
  rename_i n hn
  have hst:P.stoodInHeld f.type=false∧zZt P ((xs.drop f.offset).take n) ((ys.drop f.offset).take n) gs.toList=some b:=by
   revert h;cases P.stoodInHeld f.type<;>intro h
   ·exact⟨rfl,h⟩
   ·cases h
  exact⟨_,_,zBn hn w,zBn hn w,zSn (d:=9997) hgs hst.1 hst.2 w⟩
 ·split at h<;>first|(cases h;done)|skip
  rename_i x y hx hy
  exact⟨x,y,zDa (tN h) hx w,zDa (tN h) hy w,zVj (d:=9998) h w⟩
theorem z4h {P:Program} {t:TypeId} {xs ys:List Value} {b:Bool} (h:yBo P t xs ys=some b) (w:World):(Op.equal t (.agg xs.toArray) (.agg ys.toArray)).run P w= .ok b w:=by
 unfold yBo at h
 split at h<;>first|(cases h;done)|skip
 rename_i fs hfs
 have hst:P.stoodInHeld t=false∧zPp P xs ys fs.toList=some b:=by
  revert h;cases P.stoodInHeld t<;>intro h
  ·exact⟨rfl,h⟩
  ·cases h
 rw[cW]
 unfold Op.equalIn
 simp only[bind,pure,run_bind,Cv.run_underlying hfs,program,Sem.run,Sem.bind,hst.1,yXb,if_false]
 rw[← Array.forIn_toList]
 have := zLd (P := P) (xs := xs) (ys := ys) w (σ := Option Bool × Unit) (s0 := (none, ())) (fin := (some false, ())) (F := fun f __s => if f.name ≠ "_" then
  (part f.type xs.toArray f.offset).bind fun x=>(part f.type ys.toArray f.offset).bind fun y=>(Op.equalIn 9999 f.type x y).bind fun c=>
    if(!c)=true then Sem.pure (ForInStep.done (some false,()))else Sem.pure (ForInStep.yield (none,()))
  else Sem.pure (ForInStep.yield (none,()))) (by
  intro f c hn hc
  have hne : f.name ≠ "_" := by simpa using hn
  obtain⟨x,y,r1,r2,r3⟩:=yDp hc w
  simp only[hne,ne_eq,not_false_eq_true,if_true,run_bind,r1,r2,r3]
  cases c<;>rfl) hst.2
 rw[this]
 cases b<;>rfl
open Go Go.RowKit Cv
def V.cl:V→List V
 | .agg l=>l
 |v=>[v]
def z3s (P:Program) (t:TypeId) (cs:List V) (off:Nat):Option V:=
 match zGt P t with
 |some sz=>some (.agg ((cs.drop off).take sz))
 |none=>bif lN P t then cs[off]? else none
def optK {α:Type} (x:Option α) (K:α→Prop):Prop:=
 match x with
 |some v=>K v
 |none=>False
theorem zL {α:Type} {x:Option α} {K:α→Prop} (h:optK x K):∃v,x=some v∧K v:=by
 cases x with
 |none=>exact h.elim
 |some v=>exact⟨v,rfl,h⟩
theorem zFy {P:Program} {E:Ev} {t:TypeId} {cs:List V} {ys:List Value} {off:Nat} {v:V} (hr:VRL E cs ys) (h:z3s P t cs off=some v):∃y,VR E v y∧∀w,(part t ys.toArray off).run P w= .ok y w:=by
 unfold z3s at h
 split at h
 ·rename_i sz hs
  simp only[Option.some.injEq]at h
  subst h
  refine⟨.agg ((ys.drop off).take sz).toArray,?_,fun w=> ?_⟩
  ·simp only[VR];exact⟨_,rfl,(hr.drop off).take sz⟩
  obtain⟨h1,h2⟩:=f9 hs w
  unfold part
  simp only[bind,run_bind,h1,h2,if_true,pure,Sem.run]
  congr 3
  simp[List.extract_eq_take_drop]
 ·rename_i hs
  obtain⟨hb,h⟩:=yQ h
  obtain⟨y,h1,h2⟩:=hr.get h
  refine⟨y,h2,fun w=> ?_⟩
  unfold part
  have:ys.toArray[off]? =some y:=by simp[h1]
  simp only[bind,run_bind,bD hb w,yXb,if_false,this]
  rfl
def zPr (place:Nat→Option (Nat×Nat)):List (Nat×V)→List V→Option (List V)
 |[],cs=>some cs
 |(i,v)::rest,cs=>
  match place i with
  |none=>none
  |some (off,size)=>bif Nat.beq v.cl.length size && Nat.ble (off+size) cs.length then zPr place rest (cs.take off++(v.cl++cs.drop (off+size)))else none
def PRL (E:Ev):List (Nat×V)→List (Nat×Value)→Prop
 |[],l=>l=[]
 |(i,v)::ps,l=>∃y ys,l=(i,y)::ys∧VR E v y∧PRL E ps ys
def sL:V→Bool
 | .top=>false
 |_=>true
theorem VR.cells {E:Ev} {v:V} {y:Value} (ht:sL v=true) (h:VR E v y):∃l,y.cells=l.toArray∧VRL E v.cl l:=by
 cases v
 case agg l=>simp only[VR]at h;obtain⟨ys,rfl,h⟩:=h;exact⟨ys,rfl,h⟩
 case top=>cases ht
 case d x=>
  have h0:=h
  simp only[VR]at h
  refine⟨[y],?_,VRL.one h0⟩
  cases x with
  |v x=>simp only[DR]at h;obtain⟨rfl,h⟩:=h;cases y<;>first|rfl|cases h
  |ro sz els=>simp only[DR]at h;obtain⟨a,c,rfl,_⟩:=h;rfl
 case nm n o=>have h0:=h;simp only[VR]at h;obtain⟨b,oo,l,h1,rfl⟩:=h;exact⟨[_],rfl,VRL.one h0⟩
 case el n sz i f=>have h0:=h;simp only[VR]at h;obtain⟨b,oo,m,c,l,h1,rfl⟩:=h;exact⟨[_],rfl,VRL.one h0⟩
 case re sz els i f=>have h0:=h;simp only[VR]at h;obtain⟨_,_,b,o,l,T,fr,rfl,_⟩:=h;exact⟨[_],rfl,VRL.one h0⟩
 case na n o i=>have h0:=h;simp only[VR]at h;obtain⟨b,oo,l,h1,rfl⟩:=h;exact⟨[_],rfl,VRL.one h0⟩
 case own n=>have h0:=h;simp only[VR]at h;obtain⟨l,h1,a,m,c,rfl⟩:=h;exact⟨[_],rfl,VRL.one h0⟩
 case mp n=>have h0:=h;simp only[VR]at h;obtain⟨b,l,h1,rfl⟩:=h;exact⟨[_],rfl,VRL.one h0⟩
 case sub n i=>have h0:=h;simp only[VR]at h;obtain⟨hd,l,b,oo,h1,h2,rfl⟩:=h;exact⟨[_],rfl,VRL.one h0⟩
 case tup l=>have h0:=h;simp only[VR]at h;obtain⟨ys,rfl,h⟩:=h;exact⟨[_],rfl,VRL.one h0⟩
 case fn f a b=>have h0:=h;simp only[VR]at h;obtain⟨as,bs,rfl,h⟩:=h;exact⟨[_],rfl,VRL.one h0⟩
 case ifc t x=>have h0:=h;simp only[VR]at h;obtain⟨z,rfl,h⟩:=h;exact⟨[_],rfl,VRL.one h0⟩
def z2f:List (Nat×V)→Bool
 |[]=>true
 |p::l=>bif sL p.2 then z2f l else false
theorem rL {E:Ev} {place:Nat→Option (Nat×Nat)}:∀{ps:List (Nat×V)} {cs r:List V} {qs:List (Nat×Value)} {ys:List Value},z2f ps=true→zPr place ps cs=some r→PRL E ps qs→VRL E cs ys→
 ∃zs,Instr.fill place ys.toArray qs=some zs.toArray∧VRL E r zs
 |[],cs,r,qs,ys,_,h,hp,hc=>by
  simp only[zPr,Option.some.injEq]at h
  simp only[PRL]at hp
  subst h hp
  exact⟨ys,rfl,hc⟩
 |(i,v)::ps,cs,r,qs,ys,ht,h,hp,hc=>by
  simp only[zPr]at h
  simp only[PRL]at hp
  obtain⟨y,qs,rfl,hv,hp⟩:=hp
  simp only[z2f]at ht
  cases hnt:sL v<;>rw[hnt]at ht<;>simp only[cond_false,cond_true,yXb]at ht
  obtain⟨l,hl,hvl⟩:=VR.cells hnt hv
  split at h<;>first|(cases h;done)|skip
  rename_i off size hpl
  obtain⟨hb,h⟩:=yQ h
  simp only[yWw]at hb
  have h1:=yWm hb.1
  have h2:=yYl hb.2
  have e1:=hvl.length
  have e2:=hc.length
  have hsz:y.cells.size=size:=by rw[hl,y0q,e1,h1]
  have hbb:(decide (y.cells.size≠size)||decide (off+y.cells.size>ys.toArray.size))=false:=by
   rw[hsz,y0q]
   simp;omega
  have hc':VRL E (cs.take off++(v.cl++cs.drop (off+size))) (ys.take off++(l++ys.drop (off+size))):=(hc.take off).append (hvl.append (hc.drop _))
  obtain⟨zs,q1,q2⟩:=rL ht h hp hc'
  refine⟨zs,?_,q2⟩
  simp only[Instr.fill,hpl]
  have hfold:y.cells.zipIdx.foldl (fun(cs:Array Value) (p:Value×Nat)=>cs.setIfInBounds (off+p.2) p.1) ys.toArray=(ys.take off++(l++ys.drop (off+size))).toArray:=by
   have hz:l.toArray.zipIdx=(l.zipIdx).toArray:=by
    apply Array.ext'
    simp
   rw[hl,hz,List.foldl_toArray]
   rw[zKd (off:=off) l 0 ys (by omega)]
   simp only[spl,y0u,e1,h1,yWo]
  rw[yWj (by rw[hbb];simp),hfold]
  exact q1
def b7 (P:Program) (t:TypeId):Option Value:=
 match P.info? t with
 |some i=>i.zero
 |none=>none
def z0a (P:Program) (t:TypeId) (ps:List (Nat×V)):Option V:=
 match b7 P t with
 |some z=>bif sL (toV z) && z2f ps then(match yDu P t with
  |some pl=>match yDo pl with
   |some _=>match zPr (zRu pl) ps (toV z).cl with
    |some cs=>some (.agg cs)
    |none=>none
   |none=>none
  |none=>match zHv P t with
   |some (_,_,sz)=>match zPr (fun i=>some (i*sz,sz)) ps (toV z).cl with
    |some cs=>some (.agg cs)
    |none=>none
   |none=>none)else none
 |none=>none
theorem g9 {P:Program} {t:TypeId} {z:Value} (h:b7 P t=some z):zero? P t=some z:=by
 unfold b7 at h
 unfold zero?
 split at h
 ·rename_i i hi;rw[hi];exact h
 ·cases h
theorem zQg {P:Program} {E:Ev} {t:TypeId} {ps:List (Nat×V)} {qs:List (Nat×Value)} {v:V} (hp:PRL E ps qs) (h:z0a P t ps=some v):
 ∃y,VR E v y∧∀w,(Instr.build t qs.toArray).run P w= .ok y w:=by
 unfold z0a at h
 split at h<;>first|(cases h;done)|skip
 rename_i z hz
 have hzr:=fun w=>zero_run (g9 hz) w
 obtain⟨hb,h⟩:=yQ h
 simp only[yWw]at hb
 obtain⟨zl,hzl,hzv⟩:=VR.cells (E:=E) hb.1 (zJh E z)
 split at h
 ·rename_i pl hpl
  split at h<;>first|(cases h;done)|skip
  rename_i L hL
  split at h<;>first|(cases h;done)|skip
  rename_i cs hcs
  simp only[Option.some.injEq]at h
  subst h
  have hpl':=zOq hL
  subst hpl'
  unfold yDu at hpl
  split at hpl<;>first|(cases hpl;done)|skip
  rename_i fs hfs
  simp only[Option.some.injEq]at hpl
  have hpa:(fun i=>L.toArray[i]?)=zRu (L.map some):=by
   funext i
   unfold zRu
   simp only[yYj,yXr]
   cases L[i]? <;>rfl
  obtain⟨zs,hf,hzs⟩:=rL hb.2 hcs hp hzv
  refine⟨.agg zs.toArray,by simp only[VR];exact⟨zs,rfl,hzs⟩,fun w=> ?_⟩
  have hm:=zKq w hpl
  have hmA:((fs.mapM fun f=>(do pure (f.offset,← Go.sizeOf f.type):Sem (Nat×Nat))):Sem (Array (Nat×Nat))).run P w= .ok L.toArray w:=by
   rw[y2b,map_eq_pure_bind]
   simp only[bind,pure,run_bind]at hm ⊢
   rw[hm]
   rfl
  unfold Instr.build
  simp only[bind]at hmA
  simp only[bind,run_bind,hzr,Cv.run_underlying hfs,hmA,hzl,hpa,hf]
  rfl
 ·split at h<;>first|(cases h;done)|skip
  rename_i n e sz hap
  split at h<;>first|(cases h;done)|skip
  rename_i cs hcs
  simp only[Option.some.injEq]at h
  subst h
  obtain⟨i,h1,h2,rfl⟩:=zCx hap
  obtain⟨zs,hf,hzs⟩:=rL hb.2 hcs hp hzv
  refine⟨.agg zs.toArray,by simp only[VR];exact⟨zs,rfl,hzs⟩,fun w=> ?_⟩
  unfold Instr.build
  simp only[bind,run_bind,hzr,Cv.run_underlying h1,run_sizeOf h2,hzl,hf]
  rfl
def zAq (ρ:yO):List (Nat×Operand)→List (Nat×V)
 |[]=>[]
 |(i,x)::l=>(i,sev ρ x)::zAq ρ l
theorem tE {E:Ev} {ρS:yO} {ρ:Env} (h:EnvR E ρS ρ):∀(l:List (Nat×Operand)),PRL E (zAq ρS l) (l.map fun p=>(p.1,ev ρ p.2))
 |[]=>by simp[zAq,PRL]
 |(i,x)::l=>by simp only[zAq,yWz,PRL];exact⟨_,_,rfl,h.ev x,tE h l⟩
def dO (P:Program) (t:TypeId):Bool:=
 match P.underlying t with
 |some (.interface _)=>true
 |none=>true
 |_=>false
def yFx:V→Bool
 | .nm _ _=>true
 | .el _ _ _ _=>true
 | .re _ _ _ _=>true
 | .sub _ _=>true
 |_=>false
theorem z1c {E:Ev} {v:V} {y:Value} (hp:yFx v=true) (h:VR E v y):∃a,y= .pointer (some a):=by
 cases v<;>simp only[yFx,yXb]at hp<;>simp only[VR]at h
 ·obtain⟨b,oo,l,h1,rfl⟩:=h;exact⟨_,rfl⟩
 ·obtain⟨b,oo,m,c,l,h1,rfl⟩:=h;exact⟨_,rfl⟩
 ·obtain⟨_,_,b,o,l,T,fr,rfl,_⟩:=h;exact⟨_,rfl⟩
 ·obtain⟨hd,l,b,oo,h1,h2,rfl⟩:=h;exact⟨_,rfl⟩
def zMl (ρ:yO):Option Operand→Option (Option Int)
 |none=>some none
 |some x=>match sev ρ x with
  | .d (.v (.int _ n))=>some (some n)
  |_=>none
def z5t (sz:Nat) (els:List (List D)) (lo hi:Option Int) (K:V→Prop):Prop:=
 match lo,hi with
 |none,none=>K (.d (.ro sz els))
 |some l,none=>(0≤l∧l≤els.length)∧K (.d (.ro sz (els.drop l.toNat)))
 |none,some h=>(0≤h∧h≤els.length)∧K (.d (.ro sz (els.take h.toNat)))
 |some l,some h=>(0≤l∧l≤h∧h≤els.length)∧K (.d (.ro sz ((els.take h.toNat).drop l.toNat)))
def zQf:Operand→Bool
 | .const (.slice none 0 0)=>true
 |_=>false
def zXn (op:BinOp) (els:List (List D)) (K:V→Prop):Prop:=
 ∀b:Bool,(b=true→els=[])→match op with
  | .eql=>K (.d (.v (.bool b)))
  | .neq=>K (.d (.v (.bool !b)))
  |_=>False
def zYa:V→V→Bool
 | .nm n o,.nm m p=>Nat.beq n m && Nat.beq o p
 |_,_=>false
def z0v (P:Program) (t:TypeId):Bool:=
 match P.underlying t with
 |some (.pointer e)=>(bY P e).isSome
 |_=>false
theorem zYu {P:Program} {t:TypeId} (h:z0v P t=true):∃e i,P.underlying t=some (.pointer e)∧P.info? e=some i:=by
 unfold z0v at h
 split at h<;>first|(cases h;done)|skip
 rename_i e he
 unfold bY at h
 split at h<;>first|(cases h;done)|skip
 rename_i i hi
 exact⟨e,i,he,hi⟩
theorem z5f {E:Ev} {u v:V} {x y:Value} (h:zYa u v=true) (hx:VR E u x) (hy:VR E v y):∃a,x= .pointer (some a)∧y= .pointer (some a):=by
 unfold zYa at h
 split at h<;>first|(cases h;done)|skip
 simp only[yWw]at h
 have h1:=yWm h.1
 have h2:=yWm h.2
 subst h1 h2
 simp only[VR]at hx hy
 obtain⟨b,oo,l,e1,rfl⟩:=hx
 obtain⟨b',oo',l',e2,rfl⟩:=hy
 rw[e1]at e2
 cases e2
 exact⟨_,rfl,rfl⟩
theorem zGc {P:Program} {t:TypeId} (h:z0v P t=true) (a:Addr) (w:World):(Op.equal t (.pointer (some a)) (.pointer (some a))).run P w= .ok true w:=by
 obtain⟨e,i,h1,h2⟩:=zYu h
 rw[cW]
 generalize 9999=d
 unfold Op.equalIn
 simp only[bind,pure,Cv.run_bind,Cv.run_underlying h1,Cv.run_sizeOf h2]
 split
 ·simp only[sameAddr,bind,pure,beq_self_eq_true,if_true];rfl
 ·simp only[beq_self_eq_true,if_true];rfl
def mpV (P:Program) (t:TypeId) (v:V) (y:Operand):Bool:=
 match v,y with
 | .mp _,.const (.map none)=>(match P.underlying t with
   |some (.map _ _)=>true
   |_=>false)
 |_,_=>false
theorem z9j {P:Program} {t:TypeId} {v:V} {y:Operand} (h:mpV P t v y=true):(∃n,v= .mp n)∧y= .const (.map none)∧∃a b,P.underlying t=some (.map a b):=by
 unfold mpV at h
 split at h<;>first|(cases h;done)|skip
 rename_i n
 split at h<;>first|(cases h;done)|skip
 rename_i a b hu
 exact⟨⟨n,rfl⟩,rfl,a,b,hu⟩
def sqL (P:Program) (o:Oper) (ρ:yO) (K:V→Prop):Prop:=
 bif zBd o.op then(bif yHm ρ o.op.operands.toList then fB P o (yGj ρ) (fun x=>K (toV x))else False)else False
def sq (P:Program) (o:Oper) (ρ:yO) (K:V→Prop):Prop:=
 match o.op with
 | .move x=>K (sev ρ x)
 | .assign x=>K (sev ρ x)
 | .pick c a b=>match sev ρ c with
   | .d (.v (.bool t))=>cnd t (K (sev ρ a)) (K (sev ρ b))
   |_=>False
 | .nilCheck x=>bif yFx (sev ρ x)then K (sev ρ x)else sqL P o ρ K
 | .fieldAddr s x f=>optK (zJt P s f) fun off=>match sev ρ x with
   | .nm n o=>K (.nm n (o+off))
   | .el n sz i g=>K (.el n sz i (g+off))
   | .re sz els i g=>K (.re sz els i (g+off))
   |_=>False
 | .indexAddr t x i=>match sev ρ i with
   | .d (.v (.int _ i))=>match sev ρ x with
     | .d (.ro sz els)=>optK (uH P t) fun sz'=>bif Nat.beq sz sz' then(0≤i∧i<els.length)∧K (.re sz els i.toNat 0)else False
     | .nm n o=>optK (dV P t) fun ns=>bif Nat.ble 32 ns.1 && Nat.beq ns.2 1 then(0≤i∧i<ns.1)∧K (.na n o i.toNat)else optK (zJw i ns.1) fun j=>K (.nm n (o+j*ns.2))
     | .el n sz k g=>optK (dV P t) fun ns=>optK (zJw i ns.1) fun j=>K (.el n sz k (g+j*ns.2))
     | .re sz els k g=>optK (dV P t) fun ns=>optK (zJw i ns.1) fun j=>K (.re sz els k (g+j*ns.2))
     |_=>False
   |_=>False
 | .index t x i=>match sev ρ x with
   | .agg cs=>match sev ρ i with
     | .d (.v (.int _ i))=>optK (zHv P t) fun ns=>optK (zJw i ns.1) fun j=>optK (z3s P ns.2.1 cs (j*ns.2.2)) K
     |_=>False
   |_=>sqL P o ρ K
 | .field t x f=>match sev ρ x with
   | .agg cs=>optK (zDm P t f) fun fo=>optK (z3s P fo.1 cs fo.2) K
   |_=>False
 | .extract x i=>match sev ρ x with
   | .tup l=>optK l[i]? K
   |_=>False
 | .build t ps=>optK (z0a P t (zAq ρ ps.toList)) K
 | .makeFunc (.func f) a b=>K (.fn f (evs ρ a.toList) (evs ρ b.toList))
 | .makeInterface t x=>bif dO P t then False else K (.ifc t (sev ρ x))
 | .typeAssert x _ a false=>bif dO P a then False else(match sev ρ x with
   | .ifc t v=>bif Nat.beq t a then K v else False
   |_=>False)
 | .typeAssert x _ a true=>bif dO P a then False else(match sev ρ x with
   | .ifc t v=>bif Nat.beq t a then K (.tup [v,.d (.v (.bool true))])else optK (b7 P a) fun z=>K (.tup [toV z,.d (.v (.bool false))])
   | .d (.v .nilIface)=>optK (b7 P a) fun z=>K (.tup [toV z,.d (.v (.bool false))])
   |_=>False)
 | .binOp op t x y _=>bif zYa (sev ρ x) (sev ρ y) && z0v P t then(match op with
    | .eql=>K (.d (.v (.bool true)))
    | .neq=>K (.d (.v (.bool false)))
    |_=>False)else bif mpV P t (sev ρ x) y then(match op with
    | .eql=>K (.d (.v (.bool false)))
    | .neq=>K (.d (.v (.bool true)))
    |_=>False)else bif yFx (sev ρ x) && zQs P t && zKr y then(match op with
    | .eql=>K (.d (.v (.bool false)))
    | .neq=>K (.d (.v (.bool true)))
    |_=>False)else bif zQf y && zCp P t then(match sev ρ x with
     | .d (.ro _ els)=>zXn op els K
     |_=>sqL P o ρ K)else match zMq (sev ρ x)with
    |some (.agg xs)=>match zMq (sev ρ y)with
     |some (.agg ys)=>bif P.eqGuardType P.depth t then False else optK (yBo P t xs.toList ys.toList) fun b=>match op with
      | .eql=>K (.d (.v (.bool b)))
      | .neq=>K (.d (.v (.bool !b)))
      |_=>False
     |_=>False
    |_=>sqL P o ρ K
 | .call c=>match c.callee with
   | .builtin .len=>match evs ρ c.args.toList with
     |[.d (.ro _ els)]=>optK c.argTypes[0]? fun t=>bif zCp P t then K (.d (.v (.int .i64 els.length)))else False
     |_=>sqL P o ρ K
   | .builtin .min=>match evs ρ c.args.toList with
     |[.d (.v (.int k x)),.d (.v (.int _ y))]=>K (.d (.v (.int k (min x y))))
     |[.d (.v (.int k x)),.d (.v (.int _ y)),.d (.v (.int _ z))]=>K (.d (.v (.int k (min (min x y) z))))
     |_=>sqL P o ρ K
   |_=>sqL P o ρ K
 | .slice t x lo hi none=>match sev ρ x with
   | .d (.ro sz els)=>optK (uH P t) fun sz'=>bif Nat.beq sz sz' then zGv (zMl ρ lo) (zMl ρ hi) fun l h=>z5t sz els l h K else False
   |_=>sqL P o ρ K
 | .unOp _ _ _=>sqL P o ρ K
 | .convert _ _ _=>sqL P o ρ K
 |_=>False
theorem gK {b:Bool} {A B:Prop} (h:bif b then A else B):(b=true∧A)∨(b=false∧B):=by
 cases b
 ·exact .inr ⟨rfl,h⟩
 ·exact .inl ⟨rfl,h⟩
theorem z4d {b:Bool} {A B:Prop} (h:cnd b A B):(b=true∧A)∨(b=false∧B):=by
 cases b
 ·exact .inr ⟨rfl,h⟩
 ·exact .inl ⟨rfl,h⟩
def yMb (P:Program) (E:Ev) (o:Oper) (ρ:Env) (K:V→Prop):Prop:=∃v y,K v∧VR E v y∧zJs P (execOp (ev ρ) o) y
theorem wS {P:Program} {E:Ev} {ρS:yO} {ρ:Env} (he:EnvR E ρS ρ) {o:Oper} {K:V→Prop} (h:sqL P o ρS K):yMb P E o ρ K:=by
 unfold sqL at h
 obtain⟨hp,h⟩:=zK h
 obtain⟨hl,h⟩:=zK h
 obtain⟨y,hk,hf⟩:=uT h
 exact⟨_,y,hk,zJh E y,by rw[← z6s hp (z1w he hl)];exact hf⟩
theorem VR.intv {E:Ev} {k:IntKind} {i:Int} {y:Value} (h:VR E (.d (.v (.int k i))) y):y= .int k i:=by
 simp only[VR,DR]at h;exact h.1
theorem jI {E:Ev} {x:Value} (h:x.oneC=true):VR E (.d (.v x)) x:=by
 simp only[VR,DR];exact⟨trivial,h⟩
theorem gI {E:Ev} {ρS:yO} {ρ:Env} (he:EnvR E ρS ρ) {x:Option Operand} {r:Option Int} (h:zMl ρS x=some r):bnd ρ x=some r:=by
 cases x with
 |none=>exact h
 |some x=>
  simp only[zMl]at h
  split at h<;>first|(cases h;done)|skip
  rename_i k n hx
  have:=he.ev x
  rw[hx]at this
  simp only[bnd,this.intv]
  exact h
theorem DR.ro_sl {F:PH} {sz lo hi:Nat} {els:List (List D)} {a:Option Addr} {c:Nat} (h:DR F (.ro sz els) (.slice a els.length c)) (h1:lo≤hi) (h2:hi≤els.length):
 DR F (.ro sz ((els.take hi).drop lo)) (.slice (if c=lo then a else a.map (·.add (lo*sz))) (hi-lo) (c-lo)):=by
 simp only[DR]at h ⊢
 obtain⟨a',c',e,hc,hs,hm⟩:=h
 cases e
 have hlen:((els.take hi).drop lo).length=hi-lo:=by rw[yXg,yXd];omega
 refine⟨_,c-lo,by rw[hlen],by rw[hlen];omega,fun el hel=>hs el (y1h (y0e hel)),?_⟩
 by_cases h0:lo=hi
 ·left
  exact yXn (by omega)
 ·right
  rcases hm with hm|⟨b,o,l,T,fr,rfl,h4,h5⟩
  ·subst hm;simp at h2;omega
  ·refine⟨b,o+lo*sz,l,T,fr,?_,h4,?_⟩
   ·rw[yWj (by omega)];simp[vM]
   ·obtain⟨xs,r,e,hx⟩:=DRS_iff.1 h5
    refine DRS_iff.2 ⟨(xs.drop (lo*sz)).take ((hi-lo)*sz),(xs.drop (lo*sz)).drop ((hi-lo)*sz)++r,?_,?_⟩
    ·rw[← yWo,yYw,← yZv,e,yYr]
     rw[hx.length,jF hs]
     exact yXu _ (by omega)
    ·have:=(hx.drop (lo*sz)).take ((hi-lo)*sz)
     rw[aX lo hs,a8 (hi-lo) (fun el hel=>hs el (y0e hel)),List.take_drop]at this
     rw[show lo+(hi-lo)=hi by omega]at this
     exact this
theorem DR.ro_cut {F:PH} {sz:Nat} {els:List (List D)} {y:Value} (h:DR F (.ro sz els) y) {lo hi:Option Int} {K:V→Prop} (hk:z5t sz els lo hi K):
 ∃a c v,y= .slice a els.length c∧K v∧slN a els.length c lo hi sz fun p n c=>∀E:Ev,E.F=F→VR E v (.slice p n c):=by
 have h0:=h
 simp only[DR]at h0
 obtain⟨a,c,rfl,hc,_⟩:=h0
 unfold z5t at hk
 split at hk
 ·exact⟨a,c,_,rfl,hk,by simp only[slN];exact⟨hc,fun E hE=>by subst hE;simpa only[VR]using h⟩⟩
 ·rename_i l
  obtain⟨⟨h1,h2⟩,hk⟩:=hk
  refine⟨a,c,_,rfl,hk,?_⟩
  simp only[slN]
  refine⟨⟨h1,h2,hc⟩,fun E hE=> ?_⟩
  subst hE
  have:=h.ro_sl (lo:=l.toNat) (hi:=els.length) (by omega) (yXl _)
  rw[yWu (yXl _)]at this
  simpa only[VR]using this
 ·rename_i u
  obtain⟨⟨h1,h2⟩,hk⟩:=hk
  refine⟨a,c,_,rfl,hk,?_⟩
  simp only[slN]
  refine⟨⟨h1,by omega⟩,fun E hE=> ?_⟩
  subst hE
  have:=h.ro_sl (lo:=0) (hi:=u.toNat) (by omega) (by omega)
  simp only[Nat.zero_mul,m9,ite_self,Nat.sub_zero,yZu]at this
  simpa only[VR]using this
 ·rename_i l u
  obtain⟨⟨h1,h2,h3⟩,hk⟩:=hk
  refine⟨a,c,_,rfl,hk,?_⟩
  simp only[slN]
  refine⟨⟨h1,h2,by omega⟩,fun E hE=> ?_⟩
  subst hE
  have:=h.ro_sl (lo:=l.toNat) (hi:=u.toNat) (by omega) (by omega)
  simpa only[VR]using this
theorem zVo {p:Option Addr} {n c:Nat} {lo hi:Option Int} {sz:Nat} {K K':Option Addr→Nat→Nat→Prop} (h:∀p n c,K p n c→K' p n c) (hk:slN p n c lo hi sz K):slN p n c lo hi sz K':=by
 unfold slN at*
 cases lo<;>cases hi<;>exact⟨hk.1,h _ _ _ hk.2⟩
theorem zKv {P:Program} {t:TypeId} (h:zQs P t=true) (a:Addr):g7 P t (.pointer (some a))=some false:=by
 obtain⟨e,he⟩:=zVe h
 unfold g7;rw[he];rfl
theorem z5k {y:Operand} (h:zKr y=true):y= .const (.pointer none):=by
 unfold zKr at h;split at h
 ·rfl
 ·cases h
theorem zMh {P:Program} {E:Ev} {ρ:Env} {o:Oper} {op:BinOp} {t u:TypeId} {x y:Operand} {els:List (List D)} {K:V→Prop} {a:Option Addr} {n c:Nat} (ho:o.op= .binOp op t x y u) (hy:zQf y=true) (ht:zCp P t=true)
 (hx:ev ρ x= .slice a n c) (ha:a=none→els=[]) (h:zXn op els K):yMb P E o ρ K:=by
 have hy':y= .const (.slice none 0 0):=by
  unfold zQf at hy;split at hy
  ·rfl
  ·cases hy
 subst hy'
 obtain⟨e,he⟩:=nS ht
 have hn:g7 P t (.slice a n c)=some a.isNone:=by unfold g7;rw[he]
 have hk:=h a.isNone (fun hb=>ha (by simpa using hb))
 split at hk<;>first|exact hk.elim|skip
 ·refine⟨_,.bool a.isNone,hk,jI rfl,?_⟩
  have:=xK (P:=P) (neg:=false) (r:=a.isNone) (ρ:=ρ) ho (by rw[hx];trivial) trivial (fun w=>by rw[hx];exact yZ trivial w) (fun w=>by rw[hx];exact uQ hn w)
  simpa using this
 ·refine⟨_,.bool (!a.isNone),hk,jI rfl,?_⟩
  have:=xK (P:=P) (neg:=true) (r:=a.isNone) (ρ:=ρ) ho (by rw[hx];trivial) trivial (fun w=>by rw[hx];exact yZ trivial w) (fun w=>by rw[hx];exact uQ hn w)
  simpa using this
theorem zVb {P:Program} {E:Ev} {ρS:yO} {ρ:Env} (he:EnvR E ρS ρ) {o:Oper} {K:V→Prop} (h:sq P o ρS K):yMb P E o ρ K:=by
 cases ho:o.op
 case move x=>simp only[sq,ho]at h;exact⟨_,_,h,he.ev x,fun w=>by simp only[execOp,ho];rfl⟩
 case assign x=>simp only[sq,ho]at h;exact⟨_,_,h,he.ev x,fun w=>by simp only[execOp,ho];rfl⟩
 case pick c a b=>
  simp only[sq,ho]at h
  split at h<;>first|exact h.elim|skip
  rename_i t hc
  have hv:=he.ev c
  rw[hc]at hv
  simp only[VR,DR]at hv
  rcases z4d h with⟨rfl,h⟩|⟨rfl,h⟩
  ·exact⟨_,_,h,he.ev a,fun w=>by simp only[execOp,ho,hv.1,asBool,bind,pure,Sem.bind,Sem.run];rfl⟩
  ·exact⟨_,_,h,he.ev b,fun w=>by simp only[execOp,ho,hv.1,asBool,bind,pure,Sem.bind,Sem.run];rfl⟩
 case nilCheck x=>
  simp only[sq,ho]at h
  rcases gK h with⟨hp,h⟩|⟨_,h⟩
  ·obtain⟨a,ha⟩:=z1c hp (he.ev x)
   exact⟨_,_,h,he.ev x,fun w=>by simp only[execOp,ho,ha];rfl⟩
  ·exact wS he h
 case fieldAddr s x f=>
  simp only[sq,ho]at h
  obtain⟨off,hf,h⟩:=zL h
  obtain⟨fs,fd,i,h1,h2,h3,h4,rfl⟩:=zMo hf
  have hv:=he.ev x
  have run:∀b oo,ev ρ x= .pointer (some ⟨b,oo,none⟩)→zJs P (execOp (ev ρ) o) (.pointer (some ⟨b,oo+fd.offset,none⟩)):=by
   intro b oo hx
   simp only[execOp,ho,hx]
   refine z6 fun w=> ?_
   simp only[Instr.fieldAt,Instr.sureAddr,fieldPlace,bind,pure,run_bind,Sem.bind,Sem.run,Cv.run_underlying h1,h2,run_sizeOf h3,yWj h4,vM]
  split at h<;>first|exact h.elim|skip
  ·rename_i n o' hx
   rw[hx]at hv;simp only[VR]at hv
   obtain⟨b,oo,l,e1,e2⟩:=hv
   exact⟨_,_,h,by simp only[VR];exact⟨b,oo,l,e1,rfl⟩,by have:=run _ _ e2;rw[y0g]at this;exact this⟩
  ·rename_i n sz i g hx
   rw[hx]at hv;simp only[VR]at hv
   obtain⟨b,oo,m,c,l,e1,e2⟩:=hv
   exact⟨_,_,h,by simp only[VR];exact⟨b,oo,m,c,l,e1,rfl⟩,by have:=run _ _ e2;rw[y0g _ g]at this;exact this⟩
  ·rename_i sz els i g hx
   rw[hx]at hv;simp only[VR]at hv
   obtain⟨e0,e1,b,oo,l,T,fr,e2,e3,e4⟩:=hv
   exact⟨_,_,h,by simp only[VR];exact⟨e0,e1,b,oo,l,T,fr,rfl,e3,e4⟩,by have:=run _ _ e2;rw[y0g _ g]at this;exact this⟩
 case indexAddr t x i=>
  simp only[sq,ho]at h
  split at h<;>first|exact h.elim|skip
  rename_i k i' hi
  have hiv:=he.ev i
  rw[hi]at hiv
  have hiv:=hiv.intv
  have hv:=he.ev x
  have arr:∀{b oo:Nat} {ns:Nat×Nat} {j:Nat},dV P t=some ns→zJw i' ns.1=some j→ev ρ x= .pointer (some ⟨b,oo,none⟩)→zJs P (execOp (ev ρ) o) (.pointer (some ⟨b,oo+j*ns.2,none⟩)):=by
   intro b oo ns j hsz hj hx
   obtain⟨rfl,hlt⟩:=zIt hj
   simp only[execOp,ho,hx,hiv]
   refine z6 fun w=> ?_
   rw[gU hsz ⟨by omega,by omega⟩,vM]
   simp
  split at h<;>first|exact h.elim|skip
  ·rename_i sz els hx
   obtain⟨sz',hs,h⟩:=zL h
   obtain⟨hb,⟨h0,h1⟩,hk⟩:=zK h
   have:=yWm hb
   subst this
   rw[hx]at hv;simp only[VR,DR]at hv
   obtain⟨a,c,e1,e2,e3,e4⟩:=hv
   rcases e4 with e4|⟨b,oo,l,T,fr,rfl,e5,e6⟩
   ·subst e4;simp at h1;omega
   refine⟨_,.pointer (some ⟨b,oo+i'.toNat*sz,none⟩),hk,?_,?_⟩
   ·simp only[VR];exact⟨by omega,e3,b,oo,l,T,fr,rfl,e5,e6⟩
   ·simp only[execOp,ho,e1,hiv]
    refine z6 fun w=> ?_
    rw[jJ hs ⟨h0,by omega⟩,vM]
  ·rename_i n o' hx
   obtain⟨ns,hs,h⟩:=zL h
   rcases gK h with⟨hb,⟨h0,h1⟩,h⟩|⟨_,h⟩
   ·simp only[yWw]at hb
    have hb2:=yWm hb.2
    rw[hx]at hv;simp only[VR]at hv
    obtain⟨b,oo,l,e1,e2⟩:=hv
    refine⟨_,.pointer (some ⟨b,oo+(o'+i'.toNat),none⟩),h,by simp only[VR];exact⟨b,oo,l,e1,rfl⟩,?_⟩
    simp only[execOp,ho,e2,hiv]
    refine z6 fun w=> ?_
    rw[gU hs ⟨h0,h1⟩,vM,hb2,Nat.mul_one,y0g]
   obtain⟨j,hj,h⟩:=zL h
   rw[hx]at hv;simp only[VR]at hv
   obtain⟨b,oo,l,e1,e2⟩:=hv
   exact⟨_,_,h,by simp only[VR];exact⟨b,oo,l,e1,rfl⟩,by have:=arr hs hj e2;rw[y0g]at this;exact this⟩
  ·rename_i n sz i g hx
   obtain⟨ns,hs,h⟩:=zL h
   obtain⟨j,hj,h⟩:=zL h
   rw[hx]at hv;simp only[VR]at hv
   obtain⟨b,oo,m,c,l,e1,e2⟩:=hv
   exact⟨_,_,h,by simp only[VR];exact⟨b,oo,m,c,l,e1,rfl⟩,by have:=arr hs hj e2;rw[y0g _ g]at this;exact this⟩
  ·rename_i sz els i g hx
   obtain⟨ns,hs,h⟩:=zL h
   obtain⟨j,hj,h⟩:=zL h
   rw[hx]at hv;simp only[VR]at hv
   obtain⟨e0,e1,b,oo,l,T,fr,e2,e3,e4⟩:=hv
   exact⟨_,_,h,by simp only[VR];exact⟨e0,e1,b,oo,l,T,fr,rfl,e3,e4⟩,by have:=arr hs hj e2;rw[y0g _ g]at this;exact this⟩
 case index t x i=>
  simp only[sq,ho]at h
  split at h
  ·rename_i cs hx
   split at h<;>first|exact h.elim|skip
   rename_i k i' hi
   obtain⟨⟨n,e,sz⟩,hs,h⟩:=zL h
   obtain⟨j,hj,h⟩:=zL h
   obtain⟨v,hp,hk⟩:=zL h
   have hiv:=he.ev i
   rw[hi]at hiv
   have hiv:=hiv.intv
   have hv:=he.ev x
   rw[hx]at hv;simp only[VR]at hv
   obtain⟨ys,e1,e2⟩:=hv
   obtain⟨y,hy,hr⟩:=zFy e2 hp
   obtain⟨rfl,hlt⟩:=zIt hj
   obtain⟨inf,q1,q2,q3⟩:=zCx hs
   refine⟨v,y,hk,hy,?_⟩
   simp only[execOp,ho,e1,hiv]
   refine z6 fun w=> ?_
   have hb:(0:Int)≤(j:Int)∧(j:Int)<n:=⟨by omega,by omega⟩
   simp only[Instr.index,asIntOf,bind,pure,run_bind,Sem.bind,Sem.run,Cv.run_underlying q1,yWl hb,run_sizeOf q2,q3]
   exact hr w
  ·exact wS he h
 case field t x f=>
  simp only[sq,ho]at h
  split at h<;>first|exact h.elim|skip
  rename_i cs hx
  obtain⟨⟨ft,off⟩,hf,h⟩:=zL h
  obtain⟨v,hp,hk⟩:=zL h
  have hv:=he.ev x
  rw[hx]at hv;simp only[VR]at hv
  obtain⟨ys,e1,e2⟩:=hv
  obtain⟨y,hy,hr⟩:=zFy e2 hp
  obtain⟨fs,fd,h1,h2,rfl,rfl⟩:=zJj hf
  refine⟨v,y,hk,hy,?_⟩
  simp only[execOp,ho,e1]
  refine z6 fun w=> ?_
  simp only[Instr.field,asAgg,bind,pure,run_bind,Sem.bind,Sem.run,Cv.run_underlying h1,h2]
  exact hr w
 case extract x i=>
  simp only[sq,ho]at h
  split at h<;>first|exact h.elim|skip
  rename_i l hx
  obtain⟨v,hl,h⟩:=zL h
  have hv:=he.ev x
  rw[hx]at hv;simp only[VR]at hv
  obtain⟨ys,e1,e2⟩:=hv
  obtain⟨y,hy,hr⟩:=e2.get hl
  refine⟨v,y,h,hr,?_⟩
  simp only[execOp,ho,e1]
  refine z6 fun w=> ?_
  have:ys.toArray[i]? =some y:=by simp[hy]
  simp only[Instr.extract,this]
  rfl
 case build t ps=>
  simp only[sq,ho]at h
  obtain⟨v,hb,h⟩:=zL h
  obtain⟨y,hy,hr⟩:=zQg (tE he ps.toList) hb
  refine⟨v,y,h,hy,?_⟩
  simp only[execOp,ho]
  refine z6 fun w=> ?_
  have:(ps.map fun(i,x)=>(i,ev ρ x))=(ps.toList.map fun p=>(p.1,ev ρ p.2)).toArray:=by
   apply Array.ext'
   simp
  rw[this]
  exact hr w
 case makeFunc fn a b=>
  cases fn<;>simp only[sq,ho]at h
  rename_i f
  obtain⟨as,e1,e2⟩:=dY he a
  obtain⟨bs,e3,e4⟩:=dY he b
  refine⟨_,.func (.func f) as.toArray bs.toArray,h,by simp only[VR];exact⟨as,bs,rfl,e2,e4⟩,?_⟩
  simp only[execOp,ho,e1,e3]
  exact z6 fun w=>rfl
 case makeInterface t x=>
  simp only[sq,ho]at h
  obtain⟨hb,h⟩:dO P t=false∧K (.ifc t (sev ρS x)):=by
   revert h;cases dO P t<;>intro h
   ·exact⟨rfl,h⟩
   ·exact h.elim
  refine⟨_,.iface t (ev ρ x),h,by simp only[VR];exact⟨_,rfl,he.ev x⟩,?_⟩
  simp only[execOp,ho]
  refine z6 fun w=> ?_
  unfold dO at hb
  cases hd:P.underlying t with
  |none=>rw[hd]at hb;cases hb
  |some d=>
   rw[hd]at hb
   unfold Instr.makeInterface
   simp only[bind,run_bind,Cv.run_underlying hd]
   cases d<;>first|rfl|cases hb
 case typeAssert x xt a ok=>
  cases ok with
  |true=>
   simp only[sq,ho]at h
   obtain⟨hb,h⟩:dO P a=false∧(match sev ρS x with
    | .ifc t v=>bif Nat.beq t a then K (.tup [v,.d (.v (.bool true))])else optK (b7 P a) fun z=>K (.tup [toV z,.d (.v (.bool false))])
    | .d (.v .nilIface)=>optK (b7 P a) fun z=>K (.tup [toV z,.d (.v (.bool false))])
    |_=>False):=by
    revert h;cases dO P a<;>intro h
    ·exact⟨rfl,h⟩
    ·exact h.elim
   have hne:∃d,P.underlying a=some d∧∀ms,d≠.interface ms:=by
    unfold dO at hb
    split at hb<;>first|(cases hb;done)|skip
    rename_i hne1 hne2
    cases hu:P.underlying a with
    |none=>exact absurd hu hne2
    |some d=>exact⟨d,rfl,fun ms e=>hne1 ms (by rw[hu,e])⟩
   obtain⟨d,hu,hd⟩:=hne
   have hfail:∀z,b7 P a=some z→VR E (.tup [toV z,.d (.v (.bool false))]) (.tuple #[z,.bool false]):=fun z hz=>by
    simp only[VR,VRL,DR]
    exact⟨[z,.bool false],rfl,_,_,rfl,zJh E z,_,_,rfl,⟨rfl,rfl⟩,rfl⟩
   split at h<;>first|exact h.elim|skip
   ·rename_i t v hx
    have hv:=he.ev x
    rw[hx]at hv
    simp only[VR]at hv
    obtain⟨z,e1,e2⟩:=hv
    rcases gK h with⟨ht,hk⟩|⟨ht,hk⟩
    ·have:=yWm ht
     subst this
     refine⟨_,.tuple #[z,.bool true],hk,?_,?_⟩
     ·simp only[VR,VRL,DR]
      exact⟨[z,.bool true],rfl,_,_,rfl,e2,_,_,rfl,⟨rfl,rfl⟩,rfl⟩
     ·simp only[execOp,ho,e1]
      refine z6 fun w=> ?_
      simp only[Instr.typeAssert,bind,run_bind,Cv.run_underlying hu]
      cases d<;>first|rfl|exact absurd rfl (hd _)|(simp only[if_true];rfl)
    ·obtain⟨z0,hz,hk⟩:=zL hk
     have hta:¬t=a:=fun e=>by subst e;rw[Nat.beq_refl]at ht;cases ht
     refine⟨_,.tuple #[z0,.bool false],hk,hfail z0 hz,?_⟩
     simp only[execOp,ho,e1]
     refine z6 fun w=> ?_
     simp only[Instr.typeAssert,bind,run_bind,Cv.run_underlying hu]
     cases d<;>first|exact absurd rfl (hd _)|(simp only[yWj hta,if_true,bind,run_bind,Cv.zero_run (g9 hz) w];rfl)
   ·rename_i hx
    have hv:=he.ev x
    rw[hx]at hv
    simp only[VR,DR]at hv
    obtain⟨z0,hz,hk⟩:=zL h
    refine⟨_,.tuple #[z0,.bool false],hk,hfail z0 hz,?_⟩
    simp only[execOp,ho,hv.1]
    refine z6 fun w=> ?_
    simp only[Instr.typeAssert,bind,run_bind,Cv.run_underlying hu]
    cases d<;>first|exact absurd rfl (hd _)|(simp only[if_true,bind,run_bind,Cv.zero_run (g9 hz) w];rfl)
  |false=>
   simp only[sq,ho]at h
   obtain⟨hb,h⟩:dO P a=false∧(match sev ρS x with
    | .ifc t v=>bif Nat.beq t a then K v else False
    |_=>False):=by
    revert h;cases dO P a<;>intro h
    ·exact⟨rfl,h⟩
    ·exact h.elim
   split at h<;>first|exact h.elim|skip
   rename_i t v hx
   obtain⟨ht,hk⟩:=zK h
   have:=yWm ht
   subst this
   have hv:=he.ev x
   rw[hx]at hv
   simp only[VR]at hv
   obtain⟨z,e1,e2⟩:=hv
   refine⟨v,z,hk,e2,?_⟩
   simp only[execOp,ho,e1]
   refine z6 fun w=> ?_
   unfold dO at hb
   split at hb<;>first|(cases hb;done)|skip
   rename_i hne1 hne2
   cases hu:P.underlying t with
   |none=>exact absurd hu hne2
   |some d=>
    simp only[Instr.typeAssert,bind,run_bind,Cv.run_underlying hu]
    cases d<;>first|rfl|exact absurd hu (hne1 _)|(simp only[if_true];rfl)
 case binOp op t x y u=>
  simp only[sq,ho]at h
  rcases gK h with⟨hp,hk⟩|⟨_,h⟩
  ·simp only[yWw]at hp
   obtain⟨a,hx,hy⟩:=z5f hp.1 (he.ev x) (he.ev y)
   clear h
   split at hk<;>first|exact hk.elim|skip
   ·refine⟨_,.bool true,hk,jI rfl,?_⟩
    have:=xK (P:=P) (neg:=false) (r:=true) (ρ:=ρ) ho (by rw[hx];trivial) (by rw[hy];trivial) (fun w=>by rw[hx,hy];exact yZ trivial w) (fun w=>by rw[hx,hy];exact zGc hp.2 a w)
    simpa using this
   ·refine⟨_,.bool false,hk,jI rfl,?_⟩
    have:=xK (P:=P) (neg:=true) (r:=true) (ρ:=ρ) ho (by rw[hx];trivial) (by rw[hy];trivial) (fun w=>by rw[hx,hy];exact yZ trivial w) (fun w=>by rw[hx,hy];exact zGc hp.2 a w)
    simpa using this
  rcases gK h with⟨hp,hk⟩|⟨_,h⟩
  ·obtain⟨⟨n,hx⟩,rfl,ka,kb,hu⟩:=z9j hp
   have hv:=he.ev x
   rw[hx]at hv
   simp only[VR]at hv
   obtain⟨b,l,_,ha⟩:=hv
   have hr:g7 P t (.map (some b))=some false:=by simp[g7,hu]
   clear h
   split at hk<;>first|exact hk.elim|skip
   ·refine⟨_,.bool false,hk,jI rfl,?_⟩
    have:=xK (P:=P) (neg:=false) (r:=false) (ρ:=ρ) ho (by rw[ha];trivial) trivial (fun w=>by rw[ha];exact yZ trivial w) (fun w=>by rw[ha];exact fY hr w)
    simpa using this
   ·refine⟨_,.bool true,hk,jI rfl,?_⟩
    have:=xK (P:=P) (neg:=true) (r:=false) (ρ:=ρ) ho (by rw[ha];trivial) trivial (fun w=>by rw[ha];exact yZ trivial w) (fun w=>by rw[ha];exact fY hr w)
    simpa using this
  rcases gK h with⟨hp,hk⟩|⟨_,h⟩
  ·simp only[yWw]at hp
   obtain⟨⟨hp1,hp2⟩,hp3⟩:=hp
   obtain⟨a,ha⟩:=z1c hp1 (he.ev x)
   have hy:=z5k hp3
   subst hy
   clear h
   split at hk<;>first|exact hk.elim|skip
   ·refine⟨_,.bool false,hk,jI rfl,?_⟩
    have:=xK (P:=P) (neg:=false) (r:=false) (ρ:=ρ) ho (by rw[ha];trivial) trivial (fun w=>by rw[ha];exact yZ trivial w) (fun w=>by rw[ha];exact fX (zKv hp2 a) w)
    simpa using this
   ·refine⟨_,.bool true,hk,jI rfl,?_⟩
    have:=xK (P:=P) (neg:=true) (r:=false) (ρ:=ρ) ho (by rw[ha];trivial) trivial (fun w=>by rw[ha];exact yZ trivial w) (fun w=>by rw[ha];exact fX (zKv hp2 a) w)
    simpa using this
  ·rcases gK h with⟨hp,hk⟩|⟨_,h⟩
   ·simp only[yWw]at hp
    clear h
    split at hk
    ·rename_i sz els hx
     have hv:=he.ev x
     rw[hx]at hv;simp only[VR,DR]at hv
     obtain⟨a,c,e1,_,_,e4⟩:=hv
     exact zMh ho hp.1 hp.2 e1 (fun ha=>by
      rcases e4 with e4|⟨_,_,_,_,_,e5,_⟩
      ·exact e4
      ·rw[ha]at e5;cases e5) hk
    ·exact wS he hk
   ·split at h
    ·rename_i xs hxs
     split at h<;>first|exact h.elim|skip
     rename_i ys hys
     rcases gK h with⟨_,hk⟩|⟨hgt,hk⟩
     ·exact hk.elim
     clear h
     obtain⟨b,hb,hk⟩:=zL hk
     have ex:=pC hxs (he.ev x)
     have ey:=pC hys (he.ev y)
     have hrun:=fun w=>z4h (P:=P) hb w
     simp only[y2c]at hrun
     have hg:∀(op:BinOp) w,(eqGuard op t x y (.agg xs) (.agg ys)).run P w= .ok () w:=by
      intro op w
      unfold eqGuard
      cases op<;>first|rfl|(simp[bind,pure,run_bind,program,Sem.run,Sem.bind,hgt])
     split at hk<;>first|exact hk.elim|skip
     ·refine⟨_,.bool b,hk,jI rfl,?_⟩
      have:=xK (P:=P) (neg:=false) (r:=b) (ρ:=ρ) ho (by rw[ex];trivial) (by rw[ey];trivial) (fun w=>by rw[ex,ey];exact hg _ w) (fun w=>by rw[ex,ey];exact hrun w)
      simpa using this
     ·refine⟨_,.bool (!b),hk,jI rfl,?_⟩
      have:=xK (P:=P) (neg:=true) (r:=b) (ρ:=ρ) ho (by rw[ex];trivial) (by rw[ey];trivial) (fun w=>by rw[ex,ey];exact hg _ w) (fun w=>by rw[ex,ey];exact hrun w)
      simpa using this
    ·exact wS he h
 case call c=>
  simp only[sq,ho]at h
  split at h
  ·rename_i hc
   split at h
   ·rename_i sz els hargs
    obtain⟨t,ht,h⟩:=zL h
    obtain⟨hs,h⟩:=zK h
    obtain⟨ys,e1,e2⟩:=dY he c.args
    rw[hargs]at e2
    simp only[VRL,VR,DR]at e2
    obtain⟨y,_,rfl,⟨a,k,rfl,_⟩,rfl⟩:=e2
    refine⟨_,.int .i64 els.length,h,jI rfl,?_⟩
    rw[jC ho hc,e1]
    obtain⟨e,hse⟩:=nS hs
    refine z6 fun w=> ?_
    simp only[Builtin.len_,ht,yYj,yYp,bind,run_bind,Cv.run_underlying hse]
    rfl
   ·exact wS he h
  ·rename_i hc
   split at h
   ·rename_i kk x k2 y hargs
    obtain⟨ys,e1,e2⟩:=dY he c.args
    rw[hargs]at e2
    simp only[VRL,VR,DR]at e2
    obtain⟨_,_,rfl,⟨rfl,_⟩,_,_,rfl,⟨rfl,_⟩,rfl⟩:=e2
    refine⟨_,.int kk (min x y),h,jI rfl,?_⟩
    rw[jC ho hc,e1]
    refine z6 fun w=> ?_
    rw[show min x y=if y<x then y else x by rw[Int.min_def];split<;>split<;>omega]
    apply run_min_int2
   ·rename_i kk x k2 y k3 z hargs
    obtain⟨ys,e1,e2⟩:=dY he c.args
    rw[hargs]at e2
    simp only[VRL,VR,DR]at e2
    obtain⟨_,_,rfl,⟨rfl,_⟩,_,_,rfl,⟨rfl,_⟩,_,_,rfl,⟨rfl,_⟩,rfl⟩:=e2
    refine⟨_,.int kk (min (min x y) z),h,jI rfl,?_⟩
    rw[jC ho hc,e1]
    refine z6 fun w=> ?_
    rw[show min (min x y) z=if z<(if y<x then y else x)then z else(if y<x then y else x)by rw[Int.min_def,Int.min_def];repeat' split<;>omega]
    apply run_min_int3
   ·exact wS he h
  ·exact wS he h
 case slice t x lo hi mx=>
  cases mx with
  |some m=>simp only[sq,ho]at h
  |none=>
   simp only[sq,ho]at h
   split at h
   ·rename_i sz els hx
    obtain⟨sz',hs,h⟩:=zL h
    obtain⟨hb,hh⟩:=zK h
    have:=yWm hb
    subst this
    obtain⟨l,u,h1,h2,hh⟩:=mK hh
    have hv:=he.ev x
    rw[hx]at hv;simp only[VR]at hv
    obtain⟨a,c,v,e1,hk,hsl⟩:=hv.ro_cut hh
    have hp:fB P o ρ (fun y=>VR E v y):=by
     simp only[fB,ho,e1,hs,gI he h1,gI he h2,zGv]
     exact zVo (fun p n c hh=>hh E rfl) hsl
    obtain⟨y,hy,hf⟩:=uT hp
    exact⟨v,y,hk,hy,hf⟩
   ·exact wS he h
 case unOp op t x=>simp only[sq,ho]at h;exact wS he h
 case convert s d x=>simp only[sq,ho]at h;exact wS he h
 all_goals(simp only[sq,ho]at h)
end Sx
namespace Cv
set_option linter.unusedSimpArgs false
set_option linter.unusedVariables false
open Go Go.RowKit
theorem z6q {φ:Phi} {b:Nat} {xs:List V} {t:TypeId} {opn:Option Nat} {O:Obj} (h:coT φ b (.cells xs t opn) O):∃r,O= .cells (cvl φ xs++r).toArray t∧(∀sz,opn=some sz→xs.length+r.length=(φ b).2*sz)∧(opn=none→r=[]):=by
 cases opn with
 |none=>
  have h':O= .cells (cvl φ xs).toArray t:=h
  exact⟨[],by rw[h',yXi],by simp,fun _=>rfl⟩
 |some sz=>
  obtain⟨r,h1,h2⟩:=h
  exact⟨r,h1,fun s hs=>(by cases hs;exact h2),by simp⟩
theorem Rel.cells {φ:Phi} {s:St} {w:World} (R:Rel φ s w) {b:Nat} {xs:List V} {t:TypeId} {opn:Option Nat} (h:s.get b=some (.cells xs t opn)):
 ∃r,w.heap[(φ b).1]? =some (.cells (cvl φ xs++r).toArray t)∧(∀sz,opn=some sz→xs.length+r.length=(φ b).2*sz)∧(opn=none→r=[]):=by
 obtain⟨O,h1,h2⟩:=R.obj b _ h
 obtain⟨r,rfl,h3,h4⟩:=z6q h2
 exact⟨r,h1,h3,h4⟩
theorem v7 {P:Program} {t k e:TypeId} (h:zMn P t=some (k,e)):P.underlying t=some (.map k e):=by
 unfold zMn at h
 split at h
 ·simp only[Option.some.injEq,Prod.mk.injEq]at h
  obtain⟨rfl,rfl⟩:=h
  assumption
 ·cases h
theorem qA {P:Program} {w:World} {r:Nat} {O:Obj} (h:w.heap[r]? =some O) (hO:match O with| .cells _ _ _=>False|_=>True):(getObj r).run P w= .ok O w:=by
 simp only[getObj,Sem.run,h]
 cases O<;>first|exact hO.elim|rfl
theorem z4j {P:Program} {t:TypeId} (h:yBi P t=true):∃e,P.underlying t=some (.slice e)∧P.underlying e=some (.int .u8):=by
 unfold yBi at h
 split at h<;>first|(cases h;done)|skip
 rename_i e he
 split at h<;>first|(cases h;done)|skip
 exact⟨e,he,by assumption⟩
theorem zBt {P:Program} (w:World) {F:Value→ByteArray→Sem (ForInStep ByteArray)} (hF:∀(n:Nat) (s:ByteArray),F (.int .u8 (n:Int)) s= .pure (.yield (s.push (UInt8.ofNat n)))):∀(l:List Nat) (acc:ByteArray),
 ((forIn (l.map fun(n:Nat)=>Value.int .u8 (n:Int)) acc F):Sem ByteArray).run P w= .ok (acc++bs l) w
 |[],acc=>by
  have:acc++bs []=acc:=by apply ByteArray.ext;simp[bs]
  rw[this]
  rfl
 |n::l,acc=>by
  have ih:=zBt (P:=P) w hF l (acc.push (UInt8.ofNat n))
  simp only[yWz,List.forIn_cons,bind,hF,Sem.bind]
  rw[ih]
  congr 1
  apply ByteArray.ext
  simp[bs,Nat.toUInt8]
end Cv
namespace Sx
set_option linter.unusedSimpArgs false
set_option linter.unusedVariables false
open Go Go.RowKit Cv
theorem Rel.focus {k:Ko} {L:List HP} {E:Ev} {s:St} {w:World} (R:Rel k L E s w) {n:Nat} {o:AObj} (h:s.get n=some o):
 Hp k w (rHP E (n,o)::((jZ n s.rows).map (rHP E)++fz E.F::L)):=by
 refine R.hp.perm ?_
 have:=((vQ h).1.map (rHP E)).append_right (fz E.F::L)
 simpa using this
theorem Rel.unfocus {k:Ko} {L:List HP} {E:Ev} {s:St} {w w':World} (R:Rel k L E s w) {n:Nat} {o:AObj} (h:s.get n=some o) {o':AObj}
 (H:Hp k w' (rHP E (n,o')::((jZ n s.rows).map (rHP E)++fz E.F::L))):Rel k L E (s.set n o') w':=by
 refine⟨R.nx,H.perm ?_⟩
 have:=(((vQ h).2 o').map (rHP E)).append_right (fz E.F::L)
 simpa[St.set]using this.symm
theorem Rel.frozen {k:Ko} {L:List HP} {E:Ev} {s:St} {w:World} (R:Rel k L E s w):∀b o,E.F b=some o→w.heap[b]? =some o:=by
 have H:Hp k w (fz E.F::(s.rows.map (rHP E)++L)):=R.hp.perm yWy
 obtain⟨h,⟨rfl,_⟩,hs⟩:=H.sat
 exact hs
theorem Rel.row {k:Ko} {L:List HP} {E:Ev} {s:St} {w:World} (R:Rel k L E s w) {n:Nat} {o:AObj} (h:s.get n=some o) (hg:o≠.gone):
 ∃hd x,E.tab[n]? =some hd∧rowHP E.F o E.tab hd x∧Sub x w:=by
 obtain⟨x,hx,hs⟩:=(R.focus h).sat
 rcases hx with⟨e,_⟩|⟨hd,h1,h2⟩
 ·exact absurd e hg
 ·exact⟨hd,x,h1,h2,hs⟩
theorem Rel.cells {k:Ko} {L:List HP} {E:Ev} {s:St} {w:World} (R:Rel k L E s w) {n:Nat} {vs:List V} {t:TypeId} (h:s.get n=some (.cells vs t)):
 ∃b l sub,E.tab[n]? =some (.pointer (some ⟨b,0,none⟩),sub)∧VRL E vs l∧w.heap[b]? =some (.cells l.toArray t):=by
 obtain⟨⟨hv,sub⟩,x,h1,h2,h3⟩:=R.row h (by simp)
 simp only[rowHP]at h2
 obtain⟨b,l,rfl,h4,rfl⟩:=h2
 exact⟨b,l,sub,h1,h4,h3 b _ (by simp[one])⟩
theorem Rel.vec {k:Ko} {L:List HP} {E:Ev} {s:St} {w:World} (R:Rel k L E s w) {n:Nat} {ds:List D} {t:TypeId} (h:s.get n=some (.vec ds t)):
 ∃b l sub,E.tab[n]? =some (.pointer (some ⟨b,0,none⟩),sub)∧DRL E.F ds l∧w.heap[b]? =some (.cells l.toArray t):=by
 obtain⟨⟨hv,sub⟩,x,h1,h2,h3⟩:=R.row h (by simp)
 simp only[rowHP]at h2
 obtain⟨b,l,rfl,h4,rfl⟩:=h2
 exact⟨b,l,sub,h1,h4,h3 b _ (by simp[one])⟩
def nG (s:St):V→Option (Nat×List (List D))
 | .d (.ro sz els)=>some (sz,els)
 | .own n=>match s.get n with
   |some (.own _ sz els)=>some (sz,els)
   |some (.fro sz els)=>some (sz,els)
   |some (.mrk _ els)=>some (1,els)
   |_=>none
 |_=>none
theorem zEv {k:Ko} {L:List HP} {E:Ev} {s:St} {w:World} (R:Rel k L E s w) {sz:Nat} {els:List (List D)} {y:Value} (h:DR E.F (.ro sz els) y):
 ∃a c xs,y= .slice a els.length c∧els.length≤c∧DRL E.F els.flatten xs∧(∀el∈els,el.length=sz)∧Sat w (slR sz a els.length c xs):=by
 simp only[DR]at h
 obtain⟨a,c,rfl,h1,h2,h3⟩:=h
 rcases h3 with rfl|⟨b,o,l,T,fr,rfl,h4,h5⟩
 ·exact⟨a,c,[],rfl,h1,by simp[DRL],h2,pe,.inl ⟨rfl,rfl,rfl⟩,Sub.pe w⟩
 ·obtain⟨xs,r,e,hx⟩:=DRS_iff.1 h5
  have hl:xs.length=els.length*sz:=by rw[hx.length,jF h2]
  refine⟨_,c,xs,rfl,h1,hx,h2,one b (.cells l.toArray T fr),.inr ⟨b,o,l,T,fr,rfl,rfl,?_,hl,h1⟩,?_⟩
  ·rw[e,yXh (by omega),yWu (by omega)]
  ·intro b' o' e'
   simp only[one]at e'
   split at e'
   ·rename_i hb;subst hb;cases e';exact R.frozen _ _ h4
   ·cases e'
theorem cQ {k:Ko} {L:List HP} {E:Ev} {s:St} {w:World} (R:Rel k L E s w) {v:V} {y:Value} (hv:VR E v y) {sz:Nat} {els:List (List D)} (h:nG s v=some (sz,els)):
 ∃a c xs,y= .slice a els.length c∧els.length≤c∧DRL E.F els.flatten xs∧(∀el∈els,el.length=sz)∧Sat w (slR sz a els.length c xs):=by
 unfold nG at h
 split at h
 ·simp only[Option.some.injEq,Prod.mk.injEq]at h
  obtain⟨rfl,rfl⟩:=h
  simp only[VR]at hv
  exact zEv R hv
 ·rename_i n
  simp only[VR]at hv
  obtain⟨sub,h1,h2⟩:=hv
  split at h<;>first|(cases h;done)|skip
  ·rename_i t sz' els' hg
   simp only[Option.some.injEq,Prod.mk.injEq]at h
   obtain⟨rfl,rfl⟩:=h
   obtain⟨hd,x,q1,q2,q3⟩:=R.row hg (by simp)
   rw[h1]at q1;cases q1
   simp only[rowHP]at q2
   obtain⟨a,c,xs,rfl,q4,q5,q6⟩:=q2
   exact⟨a,c,xs,rfl,(zBh q6).2,q4,q5,x,bN q6,q3⟩
  ·rename_i sz' els' hg
   simp only[Option.some.injEq,Prod.mk.injEq]at h
   obtain⟨rfl,rfl⟩:=h
   obtain⟨hd,x,q1,q2,q3⟩:=R.row hg (by simp)
   rw[h1]at q1;cases q1
   simp only[rowHP]at q2
   exact zEv R q2.2
  ·rename_i t els' hg
   simp only[Option.some.injEq,Prod.mk.injEq]at h
   obtain⟨rfl,rfl⟩:=h
   obtain⟨hd,x,q1,q2,q3⟩:=R.row hg (by simp)
   rw[h1]at q1;cases q1
   simp only[rowHP]at q2
   obtain⟨b,c,xs,r,rfl,q4,q5,q6,q7⟩:=q2
   have hl:xs.length=els'.length*1:=by rw[q4.length,jF q5]
   exact⟨_,c,xs,rfl,q6,q4,q5,x,.inr ⟨b,0,xs++r,t,_,rfl,q7,by rw[yZu,yXh (by omega),yWu (by omega)],hl,q6⟩,q3⟩
 ·cases h
def zE (els:List (List D)) (i f n:Nat):Option (List D):=
 match els[i]? with
 |some el=>bif Nat.ble (f+n) el.length then some ((el.drop f).take n)else none
 |none=>none
def shC:Value→(D→Prop)→Prop
 | .int k _,K=>∃n:Int,K (.v (.int k n))
 | .bool _,K=>∃b:Bool,K (.v (.bool b))
 | .string _,K=>∃s:ByteArray,K (.v (.string s))
 | .slice _ _ _,K=>∃(sz:Nat) (els:List (List D)),K (.ro sz els)
 |_,K=>∃d:D,K d
def shL:List Value→(List D→Prop)→Prop
 |[],K=>K []
 |z::zs,K=>shC z fun d=>shL zs fun ds=>K (d::ds)
def zBs (P:Program):Nat→TypeId→List TypeId
 |0,t=>[t]
 |f+1,t=>match P.underlying t with
  |some (.struct fs)=>(fs.toList.map fun fd=>zBs P f fd.type).flatten
  |some (.array n e)=>(List.replicate n (zBs P f e)).flatten
  |_=>[t]
def zZd (P:Program):List TypeId→List Value→(List D→Prop)→Prop
 |t::ts,z::zs,K=>match uH P t with
  |some sz=>∃els:List (List D),zZd P ts zs fun ds=>K (.ro sz els::ds)
  |none=>shC z fun d=>zZd P ts zs fun ds=>K (d::ds)
 |_,zs,K=>shL zs K
def shT (P:Program) (t:TypeId) (K:List D→Prop):Prop:=
 match b7 P t with
 |some z=>zZd P (zBs P 6 t) z.cells.toList K
 |none=>False
theorem z1x {z:Value} {K:D→Prop} (h:shC z K):∃d,K d:=by
 cases z<;>simp only[shC]at h<;>first|(obtain⟨n,h⟩:=h;exact⟨_,h⟩)|(obtain⟨a,n,h⟩:=h;exact⟨_,h⟩)
theorem zRz:∀{zs:List Value} {K:List D→Prop},shL zs K→∃ds,K ds
 |[],_,h=>⟨_,h⟩
 |_::_,_,h=>let⟨_,h1⟩:=z1x h;let⟨_,h2⟩:=zRz h1;⟨_,h2⟩
theorem zLp {P:Program}:∀{ts:List TypeId} {zs:List Value} {K:List D→Prop},zZd P ts zs K→∃ds,K ds
 |t::ts,z::zs,K,h=>by
  unfold zZd at h
  split at h
  ·obtain⟨els,h⟩:=h
   obtain⟨ds,h⟩:=zLp h
   exact⟨_,h⟩
  ·obtain⟨d,h⟩:=z1x h
   obtain⟨ds,h⟩:=zLp h
   exact⟨_,h⟩
 |[],zs,K,h=>by unfold zZd at h;exact zRz h
 |t::ts,[],K,h=>by unfold zZd at h;exact zRz h
theorem dX {P:Program} {t:TypeId} {K:List D→Prop} (h:shT P t K):∃ds,K ds:=by
 unfold shT at h
 split at h
 ·exact zLp h
 ·exact h.elim
def mkD (P:Program) (t:TypeId) (ds:List D):Option V:=
 match zGt P t with
 |some n=>bif Nat.beq ds.length n then some (.agg (ds.map .d))else none
 |none=>bif lN P t then(match ds with
  |[d]=>some (.d d)
  |_=>none)else none
theorem zFv {P:Program} {E:Ev} {w:World} {t sz i f:Nat} {els:List (List D)} {b oo:Nat} {c:Nat} {xs:List Value} {ds:List D} {v:V} (hx:DRL E.F els.flatten xs) (hu:∀el∈els,el.length=sz)
 (hs:Sat w (slR sz (some ⟨b,oo,none⟩) els.length c xs)) (hp:zE els i f ds.length=some ds) (hm:mkD P t ds=some v):∃y,VR E v y∧aM P t ⟨b,oo+i*sz+f,none⟩ w y:=by
 unfold zE at hp
 split at hp<;>first|(cases hp;done)|skip
 rename_i el hel
 obtain⟨hb,hp⟩:=yQ hp
 have hb:=yYl hb
 have hmem:=yWt hel
 have hi:i<els.length:=(yWn.1 hel).1
 rw[hu el hmem]at hb
 obtain⟨b',o',l,T,fr,e1,e2,e3⟩:=zAa hs (by omega)
 cases e1
 have hpart:=(hx.drop (i*sz+f)).take ds.length
 have hfp:=zDz hu hel hb
 rw[hfp,Option.some.inj hp]at hpart
 have hlen:xs.length=els.length*sz:=by rw[hx.length,jF hu]
 have hin:i*sz+sz≤els.length*sz:=by
  have:=yXu sz (show i+1≤els.length by omega)
  rwa [yZf]at this
 have hmemory:(l.drop (oo+i*sz+f)).take ds.length=(xs.drop (i*sz+f)).take ds.length:=by
  rw[← e3,List.drop_take,List.take_take,yZv,y0g oo]
  congr 1
  rw[y0i]
  omega
 unfold mkD at hm
 split at hm
 ·rename_i n hn
  obtain⟨hq,hm⟩:=yQ hm
  have:=yWm hq
  cases hm
  refine⟨.agg ((xs.drop (i*sz+f)).take ds.length).toArray,by simp only[VR];exact⟨_,rfl,hpart.vrl⟩,?_⟩
  refine eV hn e2 (by rw[← this];exact hmemory) ?_
  rw[hpart.length,this]
 ·obtain⟨hq,hm⟩:=yQ hm
  split at hm<;>first|(cases hm;done)|skip
  rename_i d
  cases hm
  simp only[yWr,yXp,DRL]at hpart hmemory
  obtain⟨y,ys,e4,h4,h5⟩:=hpart
  subst h5
  refine⟨y,by simpa only[VR]using h4,vJ hq e2 ?_⟩
  have:((l.drop (oo+i*sz+f)).take 1)[0]? =some y:=by rw[hmemory,e4];rfl
  rw[y0j,yWl (by omega),yYt]at this
  simpa using this
def z1t (P:Program) (t:TypeId) (vs:List V) (off:Nat):Option V:=
 match zGt P t with
 |some sz=>bif Nat.ble (off+sz) vs.length then some (.agg ((vs.drop off).take sz))else none
 |none=>bif lN P t then vs[off]? else none
theorem zGk {P:Program} {E:Ev} {w:World} {t b off:Nat} {vs:List V} {l:List Value} {T:TypeId} {fr:Nat×Nat} {v:V} (hv:VRL E vs l) (hb:w.heap[b]? =some (.cells l.toArray T fr)) (h:z1t P t vs off=some v):
 ∃y,VR E v y∧aM P t ⟨b,off,none⟩ w y:=by
 unfold z1t at h
 split at h
 ·rename_i n hn
  obtain⟨hq,h⟩:=yQ h
  have hq:=yYl hq
  cases h
  have hp:=(hv.drop off).take n
  refine⟨.agg ((l.drop off).take n).toArray,by simp only[VR];exact⟨_,rfl,hp⟩,eV hn hb rfl ?_⟩
  rw[hp.length,yXd,yXg];omega
 ·obtain⟨hq,h⟩:=yQ h
  obtain⟨y,h1,h2⟩:=hv.get h
  exact⟨y,h2,vJ hq hb h1⟩
def wX (s:ByteArray):List (List D):=s.data.toList.map fun b=>[.v (.int .u8 b.toNat)]
def rD:Value→Value→Bool
 | .int k a,.int k' b=>keq k k' && decide (a=b)
 | .string a,.string b=>decide (a=b)
 |_,_=>false
def vT (x:Value):List (Value×List D)→Option (List D)
 |[]=>none
 |(y,ds)::l=>bif rD x y then some ds else vT x l
def LK (es:List (Value×List D)) (x:Value) (z ds:List D) (b:Bool):Prop:=(vT x es=some ds∧b=true)∨(vT x es=none∧ds=z∧b=false)
def yMi:Value→Bool
 | .int _ _=>true
 |_=>false
def yPj:Value→Bool
 | .string _=>true
 |_=>false
def z5e (P:Program) (t:TypeId) (x:Value):Bool:=
 match P.underlying t with
 |some (.int _)=>yMi x
 |some .string=>yPj x
 |_=>false
def like:Value→Value→Bool
 | .int k _,.int k' _=>keq k k'
 | .string _,.string _=>true
 |_,_=>false
def mT (x:Value) (es:List (Value×List D)):Prop:=∀p∈es,like x p.1=true
def gP (x:Value) (ds:List D):List (Value×List D)→List (Value×List D)
 |[]=>[(x,ds)]
 |(y,e)::l=>bif rD x y then(y,ds)::l else(y,e)::gP x ds l
def eZ (x:Value):List (Value×List D)→List (Value×List D)
 |[]=>[]
 |(y,e)::l=>bif rD x y then l else(y,e)::eZ x l
def mkM (P:Program) (t:TypeId) (ds:List D):Option V:=
 match zGt P t with
 |some n=>bif Nat.beq ds.length n && !(Nat.beq n 1)then some (.agg (ds.map .d))else none
 |none=>bif lN P t then(match ds with
  |[d]=>some (.d d)
  |_=>none)else none
def zMn (P:Program) (t:TypeId):Option (TypeId×TypeId):=
 match P.underlying t with
 |some (.map k e)=>some (k,e)
 |_=>none
theorem yCh {a b:IntKind} (h:keq a b=true):a=b:=by
 cases a<;>cases b<;>first|rfl|cases h
theorem yGc {x y:Value} (h:rD x y=true):x=y:=by
 unfold rD at h
 split at h
 ·simp only[yWw,yYe]at h
  rw[yCh h.1,h.2]
 ·rw[yYx h]
 ·cases h
theorem tX {P:Program} {t:TypeId} {x:Value} (h:z5e P t x=true):∃kd,P.underlying t=some kd∧zWl kd x:=by
 unfold z5e at h
 split at h
 ·rename_i ik hu
  refine⟨_,hu,.inl ?_⟩
  cases x<;>first|(cases h;done)|exact⟨_,_,_,rfl,rfl⟩
 ·rename_i hu
  refine⟨_,hu,.inr ?_⟩
  cases x<;>first|(cases h;done)|exact⟨_,rfl,rfl⟩
 ·cases h
theorem z1a (s s':ByteArray):(s==s')=decide (s=s'):=by
 by_cases h:s=s'
 ·subst h
  rw[yXc rfl]
  show(s.data==s.data)=true
  simp
 ·rw[yWx h]
  cases hb:s==s'
  ·rfl
  ·have:(s.data==s'.data)=true:=hb
   exact absurd (ByteArray.ext (eq_of_beq this)) h
theorem nY {kd:TypeDesc} {x y:Value} (hk:zWl kd x) (hl:like x y=true):Instr.sameNow kd x y=some (rD x y):=by
 rcases hk with⟨ik,k,n,rfl,rfl⟩|⟨s,rfl,rfl⟩
 ·cases y<;>simp only[like,yXb]at hl
  rename_i k' m
  have:=yCh hl
  subst this
  simp only[Instr.sameNow,if_true,rD,hl,yZe]
  rfl
 ·cases y<;>simp only[like,yXb]at hl
  rename_i s'
  simp only[Instr.sameNow,rD]
  congr 1
  exact z1a s s'
theorem zWx (k:IntKind):keq k k=true:=by cases k<;>rfl
theorem zNi {kd:TypeDesc} {x:Value} (hk:zWl kd x):like x x=true:=by
 rcases hk with⟨ik,k,n,rfl,rfl⟩|⟨s,rfl,rfl⟩
 ·exact zWx k
 ·rfl
theorem zOx {kd:TypeDesc} {x:Value} (hk:zWl kd x):rD x x=true:=by
 rcases hk with⟨ik,k,n,rfl,rfl⟩|⟨s,rfl,rfl⟩
 ·simp only[rD,zWx,yZe,decide_true]
 ·simp only[rD,decide_true]
theorem zPs {l:List MapEntry} {ck:Nat} (h:wW l ck) {e:MapEntry} (he:e.born=ck):wW (l++[e]) (ck+1):=by
 refine⟨?_,fun x hx=> ?_⟩
 ·rw[yWv,yYu]
  refine⟨h.1,by simp,fun a ha b hb=> ?_⟩
  obtain⟨x,hx,rfl⟩:=yYa.1 ha
  have:=h.2 x hx
  simp only[yWz,y0h,yYc]at hb
  omega
 ·rcases yXo.1 hx with hx|hx
  ·have:=h.2 x hx;omega
  ·rw[yYc.1 hx,he];omega
theorem zIh {l:List MapEntry} {ck q:Nat} (h:wW l ck) {m e:MapEntry} (hm:l[q]? =some m) (he:e.born=m.born):wW (l.set q e) ck:=by
 have hq:(l.set q e).map (·.born)=l.map (·.born):=by
  apply y0b
  intro i
  rw[yXr,yXr,yZt]
  split
  ·rename_i hi
   subst hi
   split
   ·rw[hm];simp[he]
   ·rename_i hlt
    rw[yXm (by omega)];first|rfl|done
  ·rfl
 refine⟨by rw[hq];exact h.1,fun x hx=> ?_⟩
 rcases List.mem_or_eq_of_mem_set hx with hx|rfl
 ·exact h.2 x hx
 ·rw[he];exact h.2 m (yWt hm)
theorem zXg {l:List MapEntry} {ck q:Nat} (h:wW l ck):wW (l.eraseIdx q) ck:=
 ⟨((List.eraseIdx_sublist l q).map _).nodup h.1,fun x hx=>h.2 x ((List.eraseIdx_sublist l q).mem hx)⟩
theorem z9a:wW [] 0:=⟨by simp,by simp⟩
theorem tL {F:PH} {kd:TypeDesc} {x:Value} (hk:zWl kd x):∀{es:List (Value×List D)} {ents:List MapEntry} (i:Nat),MR F es ents→mT x es→
 (Instr.findNow kd x ents i=some none∧vT x es=none∧(∀ds,gP x ds es=es++[(x,ds)])∧eZ x es=es∧∀e:MapEntry,e.key=x→Instr.findNow kd x (ents++[e]) i=some (some (i+ents.length,e.val)))∨
 (∃q m ds ys,Instr.findNow kd x ents i=some (some (i+q,m.val))∧ents[q]? =some m∧m.key=x∧vT x es=some ds∧DRL F ds ys∧m.val=mC ys∧
   (∀ds' ys' (e:MapEntry),DRL F ds' ys'→e.key=x→e.val=mC ys'→MR F (gP x ds' es) (ents.set q e))∧MR F (eZ x es) (ents.eraseIdx q)∧∀e:MapEntry,e.key=x→Instr.findNow kd x (ents.set q e) i=some (some (i+q,e.val)))
 |[],ents,i,h,_=>by
  simp only[MR]at h
  subst h
  exact .inl ⟨rfl,rfl,fun ds=>rfl,rfl,fun e he=>by
   have hx:like x x=true:=zNi hk
   simp only[yZa,Instr.findNow,he,nY hk hx,zOx hk];rfl⟩
 |(y,e)::es,ents,i,h,hl=>by
  simp only[MR]at h
  obtain⟨m,ms,rfl,h1,⟨ys,h2,h3⟩,h4⟩:=h
  have hy:like x y=true:=hl (y,e) yWp
  have hs:=nY hk hy
  cases hb:rD x y with
  |true=>
   have hxy:=yGc hb
   refine .inr ⟨0,m,e,ys,?_,rfl,by rw[h1,hxy],?_,h2,h3,?_,?_,?_⟩
   ·simp only[Instr.findNow,h1,hs,hb];rfl
   ·simp only[vT,hb,cond_true]
   ·intro ds' ys' e' q1 q2 q3
    simp only[gP,hb,cond_true,y2o,MR]
    exact⟨e',ms,rfl,by rw[q2,hxy],⟨ys',q1,q3⟩,h4⟩
   ·simp only[eZ,hb,cond_true,List.eraseIdx_cons_zero];exact h4
   ·intro e' he'
    simp only[y2o,Instr.findNow,he',nY hk (zNi hk),zOx hk];rfl
  |false=>
   have hl':mT x es:=fun p hp=>hl p (yWq _ hp)
   rcases tL hk (i+1) h4 hl' with⟨q1,q2,q3,q4,q5⟩|⟨q,m',ds,ys',q1,q2,q3,q4,q5,q6,q7,q8,q9⟩
   ·refine .inl ⟨?_,?_,fun ds=> ?_,?_,fun e' he'=> ?_⟩
    ·simp only[Instr.findNow,h1,hs,hb];exact q1
    ·simp only[vT,hb,cond_false];exact q2
    ·simp only[gP,hb,cond_false,q3 ds,yYd]
    ·simp only[eZ,hb,cond_false,q4]
    ·simp only[yYd,Instr.findNow,h1,hs,hb];rw[q5 e' he',yWr,show i+1+ms.length=i+(ms.length+1)by omega]
   ·refine .inr ⟨q+1,m',ds,ys',?_,by simpa using q2,q3,?_,q5,q6,?_,?_,fun e' he'=> ?_⟩
    ·simp only[Instr.findNow,h1,hs,hb];rw[q1,show i+1+q=i+(q+1)by omega]
    ·simp only[vT,hb,cond_false];exact q4
    ·intro ds' ys2 e' r1 r2 r3
     simp only[gP,hb,cond_false,y2p,MR]
     exact⟨m,_,rfl,h1,⟨ys,h2,h3⟩,q7 ds' ys2 e' r1 r2 r3⟩
    ·simp only[eZ,hb,cond_false,List.eraseIdx_cons_succ,MR]
     exact⟨m,_,rfl,h1,⟨ys,h2,h3⟩,q8⟩
    ·simp only[y2p,Instr.findNow,h1,hs,hb];rw[q9 e' he',show i+1+q=i+(q+1)by omega]
theorem jK {P:Program} {kt:TypeId} {kd:TypeDesc} (hu:P.underlying kt=some kd) {x:Value} (hk:zWl kd x) (b:Bool) (w:World):(Instr.checkKey b 10000 kt x).run P w= .ok () w:=by
 rcases hk with⟨ik,k,n,rfl,rfl⟩|⟨s,rfl,rfl⟩<;>
  (unfold Instr.checkKey;simp only[bind,run_bind,Cv.run_underlying hu];rfl)
theorem wF {P:Program} {kt:TypeId} {kd:TypeDesc} (hu:P.underlying kt=some kd) {x:Value} {ents:List MapEntry} {r:Option (Nat×Value)} (h:Instr.findNow kd x ents 0=some r) (w:World):(Instr.findKey kt x ents).run P w= .ok r w:=by
 simp only[Instr.findKey,bind,run_bind,Cv.run_underlying hu,h]
 rfl
theorem v7 {P:Program} {t:TypeId} {ke:TypeId×TypeId} (h:zMn P t=some ke):P.underlying t=some (.map ke.1 ke.2):=by
 unfold zMn at h
 split at h
 ·rename_i k e hu;cases h;exact hu
 ·cases h
theorem zSk {P:Program} {E:Ev} {t:TypeId} {ds:List D} {v:V} (h:mkM P t ds=some v) {ys:List Value} (hd:DRL E.F ds ys):VR E v (mC ys):=by
 unfold mkM at h
 split at h
 ·obtain⟨hb,h⟩:=yQ h
  cases h
  simp only[yWw,yZh]at hb
  have h1:=yWm hb.1
  have hl:ys.length=ds.length:=hd.length
  have:mC ys= .agg ys.toArray:=by
   unfold mC
   split
   ·rename_i y
    rw[h1]at hl
    simp only[yWr,yXp]at hl
    rw[← hl]at hb
    exact absurd hb.2 (by decide)
   ·rfl
  rw[this]
  simp only[VR]
  exact⟨ys,rfl,hd.vrl⟩
 ·obtain⟨hb,h⟩:=yQ h
  split at h<;>first|(cases h;done)|skip
  cases h
  simp only[DRL]at hd
  obtain⟨x,xs,rfl,h1,rfl⟩:=hd
  simpa only[VR,mC]using h1
def zPb (P:Program) (t:TypeId):Option (List D):=
 match b7 P t with
 |some (.agg cs)=>(match zGt P t with
  |some _=>bif okc (.agg cs)then some (cs.toList.map .v)else none
  |none=>none)
 |some z=>(match zGt P t with
  |some _=>none
  |none=>bif z.oneC then some [.v z]else none)
 |none=>none
theorem yDq {P:Program} {E:Ev} {t:TypeId} {ds:List D} {v:V} (h:zPb P t=some ds) (hm:mkM P t ds=some v):∃z,b7 P t=some z∧VR E v z:=by
 unfold zPb at h
 split at h
 ·rename_i cs hz
  split at h<;>first|(cases h;done)|skip
  rename_i n hn
  obtain⟨hb,h⟩:=yQ h
  cases h
  refine⟨_,hz,?_⟩
  simp only[mkM,hn]at hm
  obtain⟨_,hm⟩:=yQ hm
  cases hm
  simp only[VR]
  refine⟨cs.toList,by simp,?_⟩
  rw[yZc]
  exact z9h hb
 ·rename_i z hne hz
  split at h<;>first|(cases h;done)|skip
  rename_i hn
  obtain⟨hb,h⟩:=yQ h
  cases h
  refine⟨_,hz,?_⟩
  simp only[mkM,hn]at hm
  obtain⟨_,hm⟩:=yQ hm
  cases hm
  simp only[VR,DR]
  exact⟨trivial,hb⟩
 ·cases h
def zAl (s:St) (n:Nat):Option Nat:=
 match s.get n with
 |some (.objs _ _ _ _ l _)=>some l.length
 |_=>none
theorem zFh {k:Ko} {L:List HP} {E:Ev} {s:St} {w:World} (R:Rel k L E s w) {n len:Nat} (h:zAl s n=some len):
 ∃a c sub,E.tab[n]? =some (.slice a len c,sub)∧sub.length=len∧(∀p∈sub,∃b oo,p= .pointer (some ⟨b,oo,none⟩))∧Sat w (slR 1 a len c sub):=by
 unfold zAl at h
 split at h<;>first|(cases h;done)|skip
 rename_i t T m unf l hole hg
 cases h
 obtain⟨⟨v,sub⟩,x,h1,h2,h3⟩:=R.row hg (by simp)
 simp only[rowHP]at h2
 obtain⟨a,c,e1,e2,e3,e4⟩:=h2
 obtain⟨g,g',q1,q2,q3,rfl⟩:=e4
 subst e1
 exact⟨a,c,sub,h1,e2,e3,g,bN q1,fun b o e=>h3 b o (by simp[un,e])⟩
structure HolI where
 q:Bool
 T:Nat
 sz:Nat
 els:List (List D)
 i:Nat
 f:Nat
 b:Bool
 m:Option Nat
def bH (s:St) (n:Nat):Option HolI:=
 match s.get n with
 |some (.hol q t sz els i f b m)=>some ⟨q,t,sz,els,i,f,b,m⟩
 |_=>none
theorem mX {s:St} {n:Nat} {x:HolI} (h:bH s n=some x):s.get n=some (.hol x.q x.T x.sz x.els x.i x.f x.b x.m):=by
 unfold bH at h
 split at h<;>first|(cases h;done)|skip
 rename_i hg
 cases h
 exact hg
def HolI.clear (x:HolI) (i f k:Nat):Prop:=x.f<x.sz∧(x.b=true→i=x.i→f+k≤x.f∨x.f<f)
theorem Rel.hol {k:Ko} {L:List HP} {E:Ev} {s:St} {w:World} (R:Rel k L E s w) {n:Nat} {x:HolI} (h:bH s n=some x):
 ∃a c sub ys xs,E.tab[n]? =some (.slice a x.els.length c,sub)∧DRL E.F x.els.flatten ys∧(∀el∈x.els,el.length=x.sz)∧HolX E.tab (x.i*x.sz+x.f) x.b ys xs x.m∧Sat w (slR x.sz a x.els.length c xs):=by
 obtain⟨⟨hv,sub⟩,z,h1,h2,h3⟩:=R.row (mX h) (by simp)
 simp only[rowHP]at h2
 obtain⟨a,c,ys,xs,rfl,q2,q3,q4,q5⟩:=h2
 exact⟨a,c,sub,ys,xs,h1,q2,q3,q4,z,bN q5,h3⟩
theorem zJz {tab:List Hd} {p:Nat} {b:Bool} {ys xs:List Value}:∀{m:Option Nat},HolX tab p b ys xs m→xs.length=ys.length
 |some m,⟨y,l,h1,h2,h3⟩=>by cases b<;>simp[h3]
 |none,⟨y,h1,h3⟩=>by cases b<;>simp[h3]
theorem yCi {tab:List Hd} {p:Nat} {b:Bool} {ys xs:List Value}:∀{m:Option Nat},HolX tab p b ys xs m→∀o n,(b=true→o+n≤p∨p<o)→(xs.drop o).take n=(ys.drop o).take n:=by
 have key:∀{y:Value},xs=(bif b then ys.set p y else ys)→∀o n,(b=true→o+n≤p∨p<o)→(xs.drop o).take n=(ys.drop o).take n:=by
  intro y h o n hc
  cases b with
  |false=>rw[h];rfl
  |true=>
   rw[h,cond_true]
   apply y0b
   intro j
   rw[y0j,y0j]
   split
   ·rw[yYt,yYt,yZt,yWj (by have:=hc rfl;omega)]
   ·rfl
 intro m
 cases m with
 |none=>rintro⟨y,_,h⟩;exact key h
 |some m=>rintro⟨y,l,_,_,h⟩;exact key h
theorem z1u {sz i f i0 f0 k:Nat} (h1:f+k≤sz) (h2:f0<sz) (hne:i=i0→f+k≤f0∨f0<f):i*sz+f+k≤i0*sz+f0∨i0*sz+f0<i*sz+f:=by
 rcases Nat.lt_trichotomy i i0 with h|h|h
 ·have:=yXu sz (show i+1≤i0 by omega)
  rw[yZf]at this
  left;omega
 ·subst h
  rcases hne rfl with h|h
  ·left;omega
  ·right;omega
 ·have:=yXu sz (show i0+1≤i by omega)
  rw[yZf]at this
  right;omega
theorem zMm {P:Program} {E:Ev} {w:World} {t sz i f:Nat} {els:List (List D)} {b oo:Nat} {c:Nat} {xs:List Value} {ds:List D} {v:V} (hlen:xs.length=els.length*sz) (hu:∀el∈els,el.length=sz)
 (hs:Sat w (slR sz (some ⟨b,oo,none⟩) els.length c xs)) (hp:zE els i f ds.length=some ds) (hpart:DRL E.F ds ((xs.drop (i*sz+f)).take ds.length)) (hm:mkD P t ds=some v):∃y,VR E v y∧aM P t ⟨b,oo+i*sz+f,none⟩ w y:=by
 unfold zE at hp
 split at hp<;>first|(cases hp;done)|skip
 rename_i el hel
 obtain⟨hb,hp⟩:=yQ hp
 have hb:=yYl hb
 have hmem:=yWt hel
 have hi:i<els.length:=(yWn.1 hel).1
 rw[hu el hmem]at hb
 obtain⟨b',o',l,T,fr,e1,e2,e3⟩:=zAa hs (by omega)
 cases e1
 have hin:i*sz+sz≤els.length*sz:=by
  have:=yXu sz (show i+1≤els.length by omega)
  rwa [yZf]at this
 have hmemory:(l.drop (oo+i*sz+f)).take ds.length=(xs.drop (i*sz+f)).take ds.length:=by
  rw[← e3,List.drop_take,List.take_take,yZv,y0g oo]
  congr 1
  rw[y0i]
  omega
 unfold mkD at hm
 split at hm
 ·rename_i n hn
  obtain⟨hq,hm⟩:=yQ hm
  have:=yWm hq
  cases hm
  refine⟨.agg ((xs.drop (i*sz+f)).take ds.length).toArray,by simp only[VR];exact⟨_,rfl,hpart.vrl⟩,?_⟩
  refine eV hn e2 (by rw[← this];exact hmemory) ?_
  rw[hpart.length,this]
 ·obtain⟨hq,hm⟩:=yQ hm
  split at hm<;>first|(cases hm;done)|skip
  rename_i d
  cases hm
  simp only[yWr,yXp,DRL]at hpart hmemory
  obtain⟨y,ys,e4,h4,h5⟩:=hpart
  subst h5
  refine⟨y,by simpa only[VR]using h4,vJ hq e2 ?_⟩
  have:((l.drop (oo+i*sz+f)).take 1)[0]? =some y:=by rw[hmemory,e4];rfl
  rw[y0j,yWl (by omega),yYt]at this
  simpa using this
def zRy (P:Program) (t:TypeId) (x:HolI) (sz i f:Nat) (K:V→Prop):Prop:=
 bif Nat.beq sz x.sz then(match x.q,x.m,uH P t with
  |true,some c,some _=>bif lN P t then(i=x.i∧f=x.f∧x.b=true∧i<x.els.length∧f<sz)∧K (.own c)else False
  |_,_,_=>shT P t fun ds=>zE x.els i f ds.length=some ds∧x.clear i f ds.length∧optK (mkD P t ds) K)else False
theorem zXu {P:Program} {k:Ko} {L:List HP} {E:Ev} {s:St} {w:World} (R:Rel k L E s w) {t n sz i f:Nat} {x:HolI} {K:V→Prop} (hx:bH s n=some x) (h:zRy P t x sz i f K)
 {b oo m c:Nat} {l:List Value} (e1:E.tab[n]? =some (.slice (some ⟨b,oo,none⟩) m c,l)):∃v y,K v∧VR E v y∧aM P t ⟨b,oo+i*sz+f,none⟩ w y:=by
 unfold zRy at h
 obtain⟨hb,h⟩:=zK h
 have e:=yWm hb
 subst e
 obtain⟨a,c',sub,ys,xs,q1,q2,q3,q4,q5⟩:=R.hol hx
 rw[e1]at q1;cases q1
 have hyl:ys.length=x.els.length*x.sz:=by rw[q2.length,jF q3]
 have hxl:xs.length=x.els.length*x.sz:=by rw[zJz q4,hyl]
 split at h
 ·rename_i cc tt hq hm hs
  obtain⟨hsc,⟨rfl,rfl,hbt,hi,hf⟩,hk⟩:=zK h
  rw[hm]at q4
  obtain⟨y,ly,r1,⟨ya,yn,yc,r2⟩,r3⟩:=q4
  rw[hbt,cond_true]at r3
  have hin:x.i*x.sz+x.sz≤x.els.length*x.sz:=by
   have:=yXu x.sz (show x.i+1≤x.els.length by omega)
   rwa [yZf]at this
  obtain⟨b',o',l',T,fr,e2,e3,e4⟩:=zAa q5 (by omega)
  cases e2
  refine⟨_,y,hk,by simp only[VR];exact⟨ly,r1,ya,yn,yc,r2⟩,vJ hsc e3 ?_⟩
  have:xs[x.i*x.sz+x.f]? =some y:=by rw[r3,yZt,yWl rfl,yWl (by omega)]
  rw[← e4,y0j,yWl (by omega),yYt]at this
  rw[show oo+x.i*x.sz+x.f=oo+(x.i*x.sz+x.f)by omega]
  exact this
 ·obtain⟨ds,hp,⟨hfs,hcl⟩,h⟩:=dX h
  obtain⟨v,hm,hk⟩:=zL h
  have hpp:=hp
  unfold zE at hpp
  split at hpp<;>first|(cases hpp;done)|skip
  rename_i el hel
  obtain⟨hbb,hpp⟩:=yQ hpp
  have hbb:=yYl hbb
  rw[q3 el (yWt hel)]at hbb
  have hpart:=(q2.drop (i*x.sz+f)).take ds.length
  rw[zDz q3 hel hbb,Option.some.inj hpp]at hpart
  rw[← yCi q4 (i*x.sz+f) ds.length (fun hb=>z1u hbb hfs (hcl hb))]at hpart
  obtain⟨y,hy,hh⟩:=zMm hxl q3 q5 hp hpart hm
  exact⟨v,y,hk,hy,hh⟩
def sr (P:Program) (o:Oper) (ρ:yO) (s:St) (K:V→Prop):Prop:=
 match o.op with
 | .load t x=>match sev ρ x with
   | .nm n off=>match s.get n with
     |some (.cells vs _)=>optK (z1t P t vs off) K
     |_=>False
   | .el n sz i f=>match zAl s n with
     |some len=>bif Nat.beq sz 1 && Nat.beq f 0 && lN P t then i<len∧K (.sub n i)else False
     |none=>match bH s n with
     |some x=>zRy P t x sz i f K
     |none=>optK (nG s (.own n)) fun se=>bif Nat.beq sz se.1 then shT P t fun ds=>zE se.2 i f ds.length=some ds∧optK (mkD P t ds) K else False
   | .re sz els i f=>shT P t fun ds=>zE els i f ds.length=some ds∧optK (mkD P t ds) K
   | .na n off i=>match s.get n with
     |some (.cells vs _)=>bif lN P t then shT P t fun ds=>match ds with
      |[d]=>(vs.drop off)[i]?=some (.d d)∧K (.d d)
      |_=>False else False
     |some (.vec es _)=>bif lN P t then shT P t fun ds=>match ds with
      |[d]=>(es.drop off)[i]?=some d∧K (.d d)
      |_=>False else False
     |_=>False
   |_=>False
 | .indexAddr t x i=>match sev ρ x with
   | .own n=>match sev ρ i with
     | .d (.v (.int _ i))=>optK (uH P t) fun sz=>match zAl s n with
       |some len=>bif Nat.beq sz 1 then(0≤i∧i<len)∧K (.el n 1 i.toNat 0)else False
       |none=>match bH s n with
       |some x=>bif Nat.beq sz x.sz then(0≤i∧i<x.els.length)∧K (.el n sz i.toNat 0)else False
       |none=>optK (nG s (.own n)) fun se=>bif Nat.beq sz se.1 then(0≤i∧i<se.2.length)∧K (.el n sz i.toNat 0)else False
     |_=>False
   |_=>False
 | .binOp op t x y _=>match sev ρ x with
   | .own n=>bif zQf y && zCp P t then optK (nG s (.own n)) fun se=>zXn op se.2 K else False
   |_=>False
 | .convert st d x=>bif yBi P st && lS P d then optK (nG s (sev ρ x)) fun se=>∃b:ByteArray,se.1=1∧se.2=wX b∧K (.d (.v (.string b)))else False
 | .call c=>match c.callee with
   | .builtin .len=>match evs ρ c.args.toList with
     |[.own n]=>optK c.argTypes[0]? fun t=>bif zCp P t then(match zAl s n with
      |some len=>K (.d (.v (.int .i64 len)))
      |none=>optK (nG s (.own n)) fun se=>K (.d (.v (.int .i64 se.2.length))))else False
     |[.mp n]=>optK c.argTypes[0]? fun t=>bif zZq P t then(match s.get n with
      |some (.map es)=>K (.d (.v (.int .i64 es.length)))
      |_=>False)else False
     |_=>False
   |_=>False
 | .lookup t x i ok=>match sev ρ x with
   | .mp n=>match s.get n with
     |some (.map es)=>optK (zMn P t) fun ke=>optK (zMq (sev ρ i)) fun kv=>bif z5e P ke.1 kv then optK (zPb P ke.2) fun z=>mT kv es∧∃b,shT P ke.2 fun ds=>LK es kv z ds b∧optK (mkM P ke.2 ds) fun v=>K (bif ok then .tup [v,.d (.v (.bool b))]else v)else False
     |_=>False
   |_=>False
 |_=>False
def yUe (P:Program) (E:Ev) (o:Oper) (ρ:Env) (w:World) (K:V→Prop):Prop:=∃v y,K v∧VR E v y∧(execOp (ev ρ) o).run P w=.ok (.value y) w
theorem zZp {P:Program} {F:PH} {b:ByteArray} {xs:List Value} (h:DRL F (wX b).flatten xs):xs=(b.data.toList.map UInt8.toNat).map fun(n:Nat)=>Value.int .u8 (n:Int):=by
 unfold wX at h
 revert h
 generalize b.data.toList=l
 induction l generalizing xs with
 |nil=>intro h;simpa[DRL]using h
 |cons a l ih=>
  intro h
  simp only[yWz,yYs,yYd,yZa,DRL,DR]at h
  obtain⟨x,ys,rfl,⟨rfl,_⟩,h⟩:=h
  simp only[yWz]
  rw[ih h]
theorem zKp {P:Program} {k:Ko} {L:List HP} {E:Ev} {s:St} {w:World} (R:Rel k L E s w) {ρS:yO} {ρ:Env} (he:EnvR E ρS ρ) {o:Oper} {K:V→Prop} (h:sr P o ρS s K):yUe P E o ρ w K:=by
 cases ho:o.op
 case load t x=>
  simp only[sr,ho]at h
  have hv:=he.ev x
  split at h<;>first|exact h.elim|skip
  ·rename_i n off hx
   rw[hx]at hv;simp only[VR]at hv
   obtain⟨b,oo,l,e1,e2⟩:=hv
   split at h<;>first|exact h.elim|skip
   rename_i vs T hg
   obtain⟨v,hp,hk⟩:=zL h
   obtain⟨b',l',sub,q1,q2,q3⟩:=R.cells hg
   rw[e1]at q1;cases q1
   obtain⟨y,hy,hh⟩:=zGk q2 q3 hp
   refine⟨v,y,hk,hy,?_⟩
   simp only[execOp,ho,e2,yXk]
   exact yC hh
  ·rename_i n sz i f hx
   rw[hx]at hv;simp only[VR]at hv
   obtain⟨b,oo,m,c,l,e1,e2⟩:=hv
   split at h
   ·rename_i len hob
    obtain⟨hb,hi,hk⟩:=zK h
    simp only[yWw]at hb
    have b1:=yWm hb.1.1
    have b2:=yWm hb.1.2
    subst b1 b2
    obtain⟨a,c',sub,q1,q2,q3,q4⟩:=zFh R hob
    rw[e1]at q1;cases q1
    obtain⟨bb,o',ll,T,fr,r1,r2,r3⟩:=zAa q4 (by omega)
    cases r1
    obtain⟨p,hp⟩:∃p,l[i]? =some p:=⟨_,yXj (by omega)⟩
    obtain⟨pb,po,rfl⟩:=q3 p (yWt hp)
    refine⟨.sub n i,.pointer (some ⟨pb,po,none⟩),hk,by simp only[VR];exact⟨_,l,pb,po,e1,hp,rfl⟩,?_⟩
    simp only[execOp,ho,e2]
    refine yC (vJ hb.2 r2 ?_)
    rw[← r3,y0j,yWl (by omega),yYt]at hp
    rw[show oo+i*1+0=oo+i by omega]
    exact hp
   split at h
   ·rename_i x hx
    obtain⟨v,y,hk,hy,hh⟩:=zXu R hx h e1
    refine⟨v,y,hk,hy,?_⟩
    simp only[execOp,ho,e2]
    exact yC hh
   obtain⟨⟨sz',els⟩,hd,h⟩:=zL h
   obtain⟨hb,h⟩:=zK h
   have:=yWm hb
   simp only at this
   subst this
   obtain⟨ds,hp,h⟩:=dX h
   obtain⟨v,hm,hk⟩:=zL h
   obtain⟨a,c',xs,q1,q2,q3,q4,q5⟩:=cQ R (v:= .own n) (y:= .slice (some ⟨b,oo,none⟩) m c) (by simp only[VR];exact⟨l,e1,_,_,_,rfl⟩) hd
   cases q1
   obtain⟨y,hy,hh⟩:=zFv q3 q4 q5 hp hm
   refine⟨v,y,hk,hy,?_⟩
   simp only[execOp,ho,e2]
   exact yC hh
  ·rename_i sz els i f hx
   rw[hx]at hv;simp only[VR]at hv
   obtain⟨e0,e1,b,oo,l,T,fr,e2,e3,e4⟩:=hv
   obtain⟨ds,hp,h⟩:=dX h
   obtain⟨v,hm,hk⟩:=zL h
   obtain⟨a,c',xs,q1,q2,q3,q4,q5⟩:=zEv R (sz:=sz) (els:=els) (y:= .slice (some ⟨b,oo,none⟩) els.length els.length) (by
    simp only[DR];exact⟨_,_,rfl,yXl _,e1,.inr ⟨b,oo,l,T,fr,rfl,e3,e4⟩⟩)
   cases q1
   obtain⟨y,hy,hh⟩:=zFv q3 q4 q5 hp hm
   refine⟨v,y,hk,hy,?_⟩
   simp only[execOp,ho,e2]
   exact yC hh
  ·rename_i n off i hx
   rw[hx]at hv;simp only[VR]at hv
   obtain⟨b,oo,l,e1,e2⟩:=hv
   split at h<;>first|exact h.elim|skip
   rename_i vs T hg
   obtain⟨hsc,h⟩:=zK h
   obtain⟨ds,h⟩:=dX h
   split at h<;>first|exact h.elim|skip
   rename_i d
   obtain⟨hd,hk⟩:=h
   obtain⟨b',l',sub,q1,q2,q3⟩:=R.cells hg
   rw[e1]at q1;cases q1
   obtain⟨y,hy,hh⟩:=(q2.drop off).get hd
   rw[yYt]at hy
   refine⟨.d d,y,hk,hh,?_⟩
   simp only[execOp,ho,e2,yXk]
   exact yC (vJ hsc q3 hy)
   rename_i vs T hg
   obtain⟨hsc,h⟩:=zK h
   obtain⟨ds,h⟩:=dX h
   split at h<;>first|exact h.elim|skip
   rename_i d
   obtain⟨hd,hk⟩:=h
   obtain⟨b',l',sub,q1,q2,q3⟩:=R.vec hg
   rw[e1]at q1;cases q1
   obtain⟨y,hy,hh⟩:=(q2.drop off).get hd
   rw[yYt]at hy
   refine⟨.d d,y,hk,by simpa only[VR]using hh,?_⟩
   simp only[execOp,ho,e2,yXk]
   exact yC (vJ hsc q3 hy)
 case indexAddr t x i=>
  simp only[sr,ho]at h
  have hv:=he.ev x
  split at h<;>first|exact h.elim|skip
  rename_i n hx
  split at h<;>first|exact h.elim|skip
  rename_i kk i' hi
  have hiv:=he.ev i
  rw[hi]at hiv
  have hiv:=hiv.intv
  obtain⟨sz,hs,h⟩:=zL h
  split at h
  ·rename_i len hob
   obtain⟨hb,⟨h0,h1⟩,hk⟩:=zK h
   have b1:=yWm hb
   subst b1
   obtain⟨a,c',sub,q1,q2,q3,q4⟩:=zFh R hob
   rw[hx]at hv
   simp only[VR]at hv
   obtain⟨l,e1,_⟩:=hv
   rw[q1]at e1
   obtain⟨b,oo,ll,T,fr,rfl,r2,r3⟩:=zAa q4 (by omega)
   have e1:=Option.some.inj e1
   have e2:ev ρ x= .slice (some ⟨b,oo,none⟩) len c':=(congrArg Prod.fst e1).symm
   refine⟨_,.pointer (some ⟨b,oo+i'.toNat*1+0,none⟩),hk,by simp only[VR];exact⟨_,_,_,_,_,q1,rfl⟩,?_⟩
   simp only[execOp,ho,e2,hiv]
   refine yC ?_
   rw[jJ hs ⟨h0,by omega⟩,vM]
   rfl
  split at h
  ·rename_i xh hxh
   obtain⟨hb,⟨h0,h1⟩,hk⟩:=zK h
   have b1:=yWm hb
   subst b1
   obtain⟨a,c',sub,ys,xs,q1,q2,q3,q4,q5⟩:=R.hol hxh
   rw[hx]at hv
   simp only[VR]at hv
   obtain⟨l,e1,_⟩:=hv
   rw[q1]at e1
   obtain⟨b,oo,ll,T,fr,rfl,r2,r3⟩:=zAa q5 (by omega)
   have e1:=Option.some.inj e1
   have e2:ev ρ x= .slice (some ⟨b,oo,none⟩) xh.els.length c':=(congrArg Prod.fst e1).symm
   refine⟨_,.pointer (some ⟨b,oo+i'.toNat*xh.sz+0,none⟩),hk,by simp only[VR];exact⟨_,_,_,_,_,q1,rfl⟩,?_⟩
   simp only[execOp,ho,e2,hiv]
   refine yC ?_
   rw[jJ hs ⟨h0,by omega⟩,vM]
   rfl
  obtain⟨⟨sz',els⟩,hd,h⟩:=zL h
  obtain⟨hb,⟨h0,h1⟩,hk⟩:=zK h
  have:=yWm hb
  simp only at this
  subst this
  simp only at h1
  rw[hx]at hv
  have hv':=hv
  simp only[VR]at hv'
  obtain⟨sub,e1,_⟩:=hv'
  obtain⟨a,c',xs,q1,q2,q3,q4,q5⟩:=cQ R hv hd
  obtain⟨b,oo,l,T,fr,rfl,e2,e3⟩:=zAa q5 (by omega)
  rw[q1]at e1
  refine⟨_,.pointer (some ⟨b,oo+i'.toNat*sz+0,none⟩),hk,by simp only[VR];exact⟨_,_,_,_,_,e1,rfl⟩,?_⟩
  simp only[execOp,ho,q1,hiv]
  refine yC ?_
  rw[jJ hs ⟨h0,by omega⟩,vM]
  rfl
 case binOp op t x y u=>
  simp only[sr,ho]at h
  split at h<;>first|exact h.elim|skip
  rename_i n hx
  obtain⟨hb,h⟩:=zK h
  simp only[yWw]at hb
  obtain⟨⟨sz',els⟩,hd,hk⟩:=zL h
  have hv:=he.ev x
  rw[hx]at hv
  obtain⟨a,c',xs,q1,q2,q3,q4,q5⟩:=cQ R hv hd
  obtain⟨v,y',h1,h2,h3⟩:=zMh (E:=E) ho hb.1 hb.2 q1 (fun ha=>by
   obtain⟨z,hz,_⟩:=q5
   rcases hz with⟨h1,_⟩|⟨_,_,_,_,_,h1,_⟩
   ·exact yXn h1
   ·rw[ha]at h1;cases h1) hk
  exact⟨v,y',h1,h2,h3 w⟩
 case convert st d x=>
  simp only[sr,ho]at h
  obtain⟨hb,h⟩:=zK h
  simp only[yWw]at hb
  obtain⟨⟨sz',els⟩,hd,h⟩:=zL h
  obtain⟨b,rfl,rfl,hk⟩:=h
  obtain⟨a,c',xs,q1,q2,q3,q4,q5⟩:=cQ R (he.ev x) hd
  refine⟨_,.string b,hk,jI rfl,?_⟩
  obtain⟨e,hes,hu⟩:=z4j hb.1
  simp only[execOp,ho,q1]
  refine yC ?_
  have hxs:=zZp (P:=P) q3
  obtain⟨r1,hfc,r3⟩:=zCk (P:=P) (.inl ⟨a,c',rfl,q5⟩)
  rcases a with _|ad
  ·obtain⟨x,hx,hs⟩:=q5
   have hz:(wX b).length=0:=by
    rcases hx with⟨h1,_⟩|⟨_,_,_,_,_,h1,_⟩
    ·exact h1
    ·cases h1
   have hb0:b= .empty:=by
    unfold wX at hz
    simp at hz
    simpa using hz
   subst hb0
   simp only[convert,bind,run_bind,Cv.run_underlying hes,Cv.run_underlying (b6 hb.2),Cv.run_underlying hu]
   rfl
  ·simp only[Builtin.firstCells,Nat.mul_one]at hfc
   rw[hxs]at hfc
   simp only[convert,bind,run_bind,Cv.run_underlying hes,Cv.run_underlying (b6 hb.2),Cv.run_underlying hu,Conv.bytesToString,hfc]
   rw[← Array.forIn_toList]
   simp only[bind,pure]
   rw[zBt (P:=P) w (fun _ _=>rfl) _ .empty]
   simp only[Sem.run]
   congr 2
   rw[Cv.bs_toNat]
   apply ByteArray.ext
   simp
 case call c=>
  simp only[sr,ho]at h
  split at h<;>first|exact h.elim|skip
  rename_i hc
  obtain⟨ys,e1,e2⟩:=dY he c.args
  split at h<;>first|exact h.elim|skip
  ·rename_i n hargs
   obtain⟨t,ht,h⟩:=zL h
   obtain⟨hs,h⟩:=zK h
   split at h
   ·rename_i len hob
    rw[hargs]at e2
    simp only[VRL,VR]at e2
    obtain⟨y,_,rfl,⟨l,hv,_⟩,rfl⟩:=e2
    obtain⟨a,c',sub,q1,q2,q3,q4⟩:=zFh R hob
    rw[hv]at q1
    have e3:y= .slice a len c':=congrArg Prod.fst (Option.some.inj q1)
    subst e3
    refine⟨_,.int .i64 len,h,jI rfl,?_⟩
    rw[jC ho hc,e1]
    obtain⟨e,hse⟩:=nS hs
    refine yC ?_
    simp only[Builtin.len_,ht,yYj,yYp,bind,run_bind,Cv.run_underlying hse]
    rfl
   obtain⟨⟨sz',els⟩,hd,hk⟩:=zL h
   rw[hargs]at e2
   simp only[VRL]at e2
   obtain⟨y,_,rfl,hv,rfl⟩:=e2
   obtain⟨a,c',xs,rfl,q2,q3,q4,q5⟩:=cQ R hv hd
   refine⟨_,.int .i64 els.length,hk,jI rfl,?_⟩
   rw[jC ho hc,e1]
   obtain⟨e,hse⟩:=nS hs
   refine yC ?_
   simp only[Builtin.len_,ht,yYj,yYp,bind,run_bind,Cv.run_underlying hse]
   rfl
  ·rename_i n hargs
   obtain⟨t,ht,h⟩:=zL h
   obtain⟨hs,h⟩:=zK h
   split at h<;>first|exact h.elim|skip
   rename_i es hg
   rw[hargs]at e2
   simp only[VRL,VR]at e2
   obtain⟨y,_,rfl,⟨bm,sub,e3,rfl⟩,rfl⟩:=e2
   obtain⟨hd,x,q1,q2,q3⟩:=R.row hg (by simp)
   rw[e3]at q1;cases q1
   simp only[rowHP]at q2
   obtain⟨b,ents,ck,e4,e5,e6,rfl⟩:=q2
   cases e4
   have hm:=q3 bm _ (by simp[one];rfl)
   have hl:ents.length=es.length:=by
    clear q3 hm hg h e6
    induction es generalizing ents with
    |nil=>simp only[MR]at e5;rw[e5];rfl
    |cons p es ih=>obtain⟨m,ms,rfl,_,_,e5⟩:=e5;simp[ih _ e5]
   refine⟨_,.int .i64 es.length,h,jI rfl,?_⟩
   rw[jC ho hc,e1]
   obtain⟨kt,e,hse⟩:=zUv hs
   refine yC ?_
   simp only[Builtin.len_,ht,yYj,yYp,bind,run_bind,Cv.run_underlying hse,qA hm trivial]
   simp[pure,Sem.run,goInt,hl]
 case lookup t x i ok=>
  simp only[sr,ho]at h
  split at h<;>first|exact h.elim|skip
  rename_i n hx
  split at h<;>first|exact h.elim|skip
  rename_i es hg
  obtain⟨ke,hke,h⟩:=zL h
  obtain⟨kv,hkv,h⟩:=zL h
  obtain⟨hks,h⟩:=zK h
  obtain⟨z,hz,hal,b,h⟩:=zL h
  obtain⟨ds,hlk,h⟩:=dX h
  obtain⟨v,hm,hk⟩:=zL h
  have hv:=he.ev x
  rw[hx]at hv
  simp only[VR]at hv
  obtain⟨bm,sub,e1,e2⟩:=hv
  obtain⟨hd,x',q1,q2,q3⟩:=R.row hg (by simp)
  rw[e1]at q1;cases q1
  simp only[rowHP]at q2
  obtain⟨b',ents,ck,e4,e5,e6,rfl⟩:=q2
  rw[e2]at e4;cases e4
  have hmm:=q3 bm _ (by simp[one];rfl)
  have hi:ev ρ i=kv:=pC hkv (he.ev i)
  obtain⟨kd,hu,hkt⟩:=tX hks
  have hzr:∀v,mkM P ke.2 z=some v→∃zv,b7 P ke.2=some zv∧VR E v zv:=fun v hv=>yDq hz hv
  refine⟨bif ok then .tup [v,.d (.v (.bool b))]else v,?_⟩
  have run:∃y,VR E v y∧(Instr.lookup t (.map (some bm)) kv ok).run P w= .ok (if ok then .tuple #[y,.bool b]else y) w:=by
   rcases tL hkt 0 e5 hal with⟨r1,r2,r3,r4,_⟩|⟨q,m,ds',ys,r1,r2,r3,r4,r5,r6,r7,r8,_⟩
   ·rcases hlk with⟨l1,l2⟩|⟨l1,l2,l3⟩
    ·rw[r2]at l1;cases l1
    ·subst l2 l3
     obtain⟨zv,z1,z2⟩:=hzr v hm
     refine⟨zv,z2,?_⟩
     simp only[Instr.lookup,bind,run_bind,Cv.run_underlying (v7 hke),qA hmm trivial,pure,Sem.run,jK hu hkt,wF hu r1,zero_run (g9 z1)]
   ·rcases hlk with⟨l1,l2⟩|⟨l1,l2,l3⟩
    ·rw[r4]at l1;cases l1
     subst l2
     refine⟨mC ys,zSk hm r5,?_⟩
     simp only[Instr.lookup,bind,run_bind,Cv.run_underlying (v7 hke),qA hmm trivial,pure,Sem.run,jK hu hkt,wF hu r1,r6]
    ·rw[r4]at l1;cases l1
  obtain⟨y,hy,hrun⟩:=run
  refine⟨if ok then .tuple #[y,.bool b]else y,hk,?_,?_⟩
  ·cases ok
   ·exact hy
   ·simp only[cond_true,if_true,VR,VRL,DR]
    exact⟨[y,.bool b],rfl,y,_,rfl,hy,_,_,rfl,⟨rfl,rfl⟩,rfl⟩
  ·simp only[execOp,ho,e2,hi]
   exact yC hrun
 all_goals(simp only[sr,ho]at h)
open Go Go.RowKit Cv
variable {P:Program} {k:Ko} {L:List HP} {E:Ev} {s:St} {w:World}
theorem z9t {α:Type _} {w:World} {f g:α→HP} (h:∀a x,f a x→g a x):∀{l:List α} {M:List HP} {hs:List PH},Hs w (l.map f++M) hs→Hs w (l.map g++M) hs
 |[],M,hs,H=>H
 |a::l,M,hs,H=>by
  simp only[yWz,yYd]at H ⊢
  cases H with
  |cons ha hsub hd hr=>exact .cons (h _ _ ha) hsub hd (z9t h hr)
theorem jV {α:Type _} {f g:α→HP} (h:∀a x,f a x→g a x) {l:List α} {M:List HP} (H:Hp k w (l.map f++M)):Hp k w (l.map g++M):=
 ⟨H.1,let⟨hs,hh⟩:=H.2;⟨hs,z9t h hh⟩⟩
theorem zHd {A:HP} {F:PH} {M:List HP} (H:Hp k w (A::fz F::M)):∃x,A x∧Dj x F∧Sub x w∧Hp k w (fz (un x F)::M):=by
 obtain⟨hk,hs,hh⟩:=H
 cases hh with
 |cons ha hsub hd hr=>
  cases hr with
  |cons hf hfs hfd hr=>
   simp only[fz]at hf
   obtain⟨rfl,hgt⟩:=hf
   refine⟨_,ha,hd _ yWp,hsub,hk,_,.cons ⟨rfl,hgt.mono (fun b o e=>by
    rcases hd _ yWp b with h|h
    ·simp[un,h,e]
    ·rw[e]at h;cases h)⟩ (yDl hsub hfs) (fun g hg=>z1v (hd g (yWq _ hg)) (hfd g hg)) hr⟩
theorem zLv {x F:PH} (d:Dj x F):FLe F (un x F):=fun b o e=>by
 rcases d b with h|h
 ·simp[un,h,e]
 ·rw[e]at h;cases h
theorem Rel.new (R:Rel k L E s w) {o:AObj} {O:Obj} {hd:Hd} (h:rowHP E.F o (E.tab++[hd]) hd (one w.heap.size O)):E.le ⟨E.F,E.tab++[hd]⟩∧Rel k L ⟨E.F,E.tab++[hd]⟩ (s.new o) (w.alloc O)∧(E.tab++[hd])[s.nx]? =some hd:=by
 have hle:E.le ⟨E.F,E.tab++[hd]⟩:=⟨FLe.refl _,y0k _ _⟩
 have hget:(E.tab++[hd])[s.nx]? =some hd:=by rw[← R.nx];simp
 refine⟨hle,⟨by simp[St.new,R.nx],?_⟩,hget⟩
 have H:=R.hp.new O
 have H1:Hp k (w.alloc O) (s.rows.map (rHP E)++(pt w.heap.size O::fz E.F::L)):=H.perm (yWy (l₁:=s.rows.map (rHP E))).symm
 have H2:=jV (fun r x=>rHP.mono hle r) H1
 have H3:Hp k (w.alloc O) (pt w.heap.size O::(s.rows.map (rHP ⟨E.F,E.tab++[hd]⟩)++fz E.F::L)):=H2.perm yWy
 exact H3.imp fun x hx=> .inr ⟨hd,hget,by rw[show x=one w.heap.size O from hx];exact h⟩
theorem Rel.freeze (R:Rel k L E s w) {n t sz:Nat} {els:List (List D)} (h:s.get n=some (.own t sz els)):∃E',E.le E'∧E'.tab=E.tab∧Rel k L E' (s.set n (.fro sz els)) w:=by
 have H:Hp k w (rHP E (n,.own t sz els)::fz E.F::((jZ n s.rows).map (rHP E)++L)):=(R.focus h).cons yWy
 obtain⟨x,hx,hd,hsub,H⟩:=zHd H
 rcases hx with⟨e,_⟩|⟨hv,h1,h2⟩
 ·cases e
 simp only[rowHP]at h2
 obtain⟨a,c,xs,h3,h4,h5,h6⟩:=h2
 have hle:E.le ⟨un x E.F,E.tab⟩:=⟨zLv hd,yZy _⟩
 refine⟨⟨un x E.F,E.tab⟩,hle,rfl,?_⟩
 have H1:Hp k w ((jZ n s.rows).map (rHP E)++fz (un x E.F)::L):=H.perm yWy.symm
 have H2:=jV (fun r x=>rHP.mono hle r) H1
 have H3:Hp k w (rHP ⟨un x E.F,E.tab⟩ (n,.fro sz els)::((jZ n s.rows).map (rHP ⟨un x E.F,E.tab⟩)++fz (un x E.F)::L)):=by
  have:=(@vC k w True _).2 ⟨trivial,H2⟩
  refine this.imp fun y hy=> .inr ⟨hv,h1,?_⟩
  simp only[rowHP]
  refine⟨hy.2,?_⟩
  simp only[DR]
  refine⟨a,c,h3,(zBh h6).2,h5,?_⟩
  rcases h6 with⟨rfl,q2,rfl,rfl,rfl⟩|⟨b,r,rfl,rfl,q3,q4,q5⟩
  ·exact .inl (yXn q2)
  ·refine .inr ⟨b,0,xs++r,t,(0,0),rfl,?_,DRS_iff.2 ⟨xs,r,rfl,h4.mono hle.1⟩⟩
   simp[un,one]
 refine⟨by simpa[St.set]using R.nx,H3.perm ?_⟩
 have:=(((vQ h).2 (.fro sz els)).map (rHP ⟨un x E.F,E.tab⟩)).append_right (fz (un x E.F)::L)
 simpa[St.set]using this.symm
def zYr (s:St):V→Option (D×St)
 | .d d=>some (d,s)
 | .own n=>match s.get n with
   |some (.own _ sz els)=>some (.ro sz els,s.set n (.fro sz els))
   |some (.fro sz els)=>some (.ro sz els,s)
   |_=>none
 |_=>none
def z9m (s:St):List V→Option (List D×St)
 |[]=>some ([],s)
 |v::l=>match zYr s v with
  |some (d,s')=>match z9m s' l with
   |some (ds,s2)=>some (d::ds,s2)
   |none=>none
  |none=>none
theorem zCd (R:Rel k L E s w) {v:V} {d:D} {s':St} (h:zYr s v=some (d,s')) {y:Value} (hv:VR E v y):∃E',E.le E'∧E'.tab=E.tab∧Rel k L E' s' w∧s'.nx=s.nx∧DR E'.F d y:=by
 unfold zYr at h
 split at h<;>first|(cases h;done)|skip
 ·cases h
  exact⟨E,Ev.le.refl _,rfl,R,rfl,by simpa only[VR]using hv⟩
 ·rename_i n
  simp only[VR]at hv
  obtain⟨sub,h1,_⟩:=hv
  split at h<;>first|(cases h;done)|skip
  ·rename_i t sz els hg
   cases h
   obtain⟨E',q1,q2,q3⟩:=R.freeze hg
   refine⟨E',q1,q2,q3,rfl,?_⟩
   have hg':(s.set n (.fro sz els)).get n=some (.fro sz els):=by
    simp only[St.get,St.set]
    have:∀l:List (Nat×AObj),rA n l≠none→rA n (nA n (.fro sz els) l)=some (.fro sz els):=by
     intro l
     induction l with
     |nil=>intro h;exact absurd rfl h
     |cons p l ih=>
      obtain⟨m,o⟩:=p
      intro h
      simp only[rA,nA]at h ⊢
      cases hb:Nat.beq m n
      ·rw[hb]at h;simp only[rA,hb,cond_false]at h ⊢;exact ih h
      ·simp only[rA,hb,cond_true]
    exact this _ (by simp only[St.get]at hg;rw[hg];simp)
   obtain⟨hd,x,e1,e2,e3⟩:=q3.row hg' (by simp)
   rw[q2,h1]at e1;cases e1
   simp only[rowHP]at e2
   exact e2.2
  ·rename_i sz els hg
   cases h
   obtain⟨hd,x,e1,e2,e3⟩:=R.row hg (by simp)
   rw[h1]at e1;cases e1
   simp only[rowHP]at e2
   exact⟨E,Ev.le.refl _,rfl,R,rfl,e2.2⟩
theorem z0y:∀{vs:List V} {s:St} {E:Ev} (R:Rel k L E s w) {ds:List D} {s':St} (h:z9m s vs=some (ds,s')) {ys:List Value} (hv:VRL E vs ys),
 ∃E',E.le E'∧E'.tab=E.tab∧Rel k L E' s' w∧s'.nx=s.nx∧DRL E'.F ds ys
 |[],s,E,R,ds,s',h,ys,hv=>by
  simp only[z9m,Option.some.injEq,Prod.mk.injEq]at h
  obtain⟨rfl,rfl⟩:=h
  simp only[VRL]at hv
  exact⟨E,Ev.le.refl _,rfl,R,rfl,by simpa only[DRL]using hv⟩
 |v::vs,s,E,R,ds,s',h,ys,hv=>by
  simp only[z9m]at h
  simp only[VRL]at hv
  obtain⟨y,ys,rfl,h1,h2⟩:=hv
  split at h<;>first|(cases h;done)|skip
  rename_i d s1 hd
  split at h<;>first|(cases h;done)|skip
  rename_i ds s2 hds
  cases h
  obtain⟨E1,q1,q2,q3,q4,q5⟩:=zCd R hd h1
  obtain⟨E2,r1,r2,r3,r4,r5⟩:=z0y q3 hds (h2.mono q1)
  exact⟨E2,q1.trans r1,r2.trans q2,r3,r4.trans q4,by simp only[DRL];exact⟨_,_,rfl,q5.mono r1.1,r5⟩⟩
def zZo:D→Bool
 | .v (.slice none 0 0)=>true
 |_=>false
def sP (P:Program):List TypeId→List D→List D
 |t::ts,d::ds=>(match uH P t with
  |some sz=>bif zZo d then .ro sz []else d
  |none=>d)::sP P ts ds
 |_,ds=>ds
theorem zLz {F:PH}:∀{ts:List TypeId} {ds:List D} {ys:List Value},DRL F ds ys→DRL F (sP P ts ds) ys
 |[],ds,ys,h=>by unfold sP;exact h
 |t::ts,[],ys,h=>by unfold sP;exact h
 |t::ts,d::ds,ys,h=>by
  unfold sP
  simp only[DRL]at h ⊢
  obtain⟨x,xs,rfl,h1,h2⟩:=h
  refine⟨x,xs,rfl,?_,zLz h2⟩
  split
  ·cases hb:zZo d
   ·exact h1
   ·unfold zZo at hb
    split at hb
    ·simp only[DR]at h1
     obtain⟨rfl,_⟩:=h1
     simp only[cond_true,DR]
     exact⟨none,0,rfl,yXl _,by simp,.inl trivial⟩
    ·cases hb
  ·exact h1
theorem zOf:∀(ts:List TypeId) (ds:List D),(sP P ts ds).length=ds.length
 |[],ds=>by unfold sP;rfl
 |t::ts,[]=>by unfold sP;rfl
 |t::ts,d::ds=>by unfold sP;simp[zOf ts ds]
def elD (P:Program) (s:St) (t:TypeId) (v:V):Option (List D×St):=
 bif sL v then(match z9m s v.cl with
  |some (ds,s')=>some (sP P (zBs P 6 t) ds,s')
  |none=>none)else none
theorem cV {α:Type _} {b:Bool} {x:Option α} {v:α} (h:(bif b then x else none)=some v):b=true∧x=some v:=by
 cases b
 ·cases h
 ·exact⟨rfl,h⟩
theorem zFp (R:Rel k L E s w) {t:TypeId} {v:V} {ds:List D} {s':St} (h:elD P s t v=some (ds,s')) {y:Value} (hv:VR E v y):
 ∃E' ys,E.le E'∧E'.tab=E.tab∧Rel k L E' s' w∧s'.nx=s.nx∧y.cells=ys.toArray∧DRL E'.F ds ys:=by
 unfold elD at h
 obtain⟨hb,h⟩:=cV h
 split at h<;>first|(cases h;done)|skip
 rename_i ds0 s0 hf
 cases h
 obtain⟨l,hl,hvl⟩:=VR.cells hb hv
 obtain⟨E',q1,q2,q3,q4,q5⟩:=z0y R hf hvl
 exact⟨E',l,q1,q2,q3,q4,hl,zLz q5⟩
open Go Go.RowKit Cv
variable {P:Program} {k:Ko} {L:List HP} {E:Ev} {s:St} {w:World}
def zIf (F:PH) (T:Type) (m:Nat) (unf:T→Nat→AObj) (x:T) (p:Value) (l0:List Value):HP:=fun h=>
 ∃tab1:List Hd,tab1[0]? =some (p,l0)∧tab1.length=m∧hS ((List.range m).map fun j=>fun h=>∃hd',tab1[j]? =some hd'∧rowHP F (unf x j) tab1 hd' h) h
def xM (F:PH) (T:Type) (m:Nat) (unf:T→Nat→AObj) (l:List T) (sub:List Value) (hole:Option Nat) (i:Nat):HP:=fun h=>
 if hole=some i then h=pe else ∃x p l0,l[i]? =some x∧sub[i]? =some p∧zIf F T m unf x p l0 h
def yIp (sub:List Value):Prop:=∀p∈sub,∃b oo,p=.pointer (some ⟨b,oo,none⟩)
theorem rowHP_objs {F:PH} {t:Nat} {T:Type} {m:Nat} {unf:T→Nat→AObj} {l:List T} {hole:Option Nat} {tab:List Hd} {hd:Hd} {h:PH}:
 rowHP F (.objs t T m unf l hole) tab hd h↔∃a c,hd.1= .slice a l.length c∧hd.2.length=l.length∧yIp hd.2∧hS2 (slO t 1 a l.length c hd.2) (hS ((List.range l.length).map (xM F T m unf l hd.2 hole))) h:=by
 simp only[rowHP]
 constructor
 ·rintro⟨a,c,h1,h2,h3,g,g',h4,h5,h6,h7⟩
  refine⟨a,c,h1,h2,h3,g,g',h4,zAd (fun i x hx=> ?_) h5,h6,h7⟩
  unfold xM
  split
  ·rename_i hi;rwa [yWl hi]at hx
  ·rename_i hi
   rw[yWj hi]at hx
   obtain⟨x,p,l0,tab1,r1,r2,r3,r4,r5⟩:=hx
   exact⟨x,p,l0,r1,r2,tab1,r3,r4,r5⟩
 ·rintro⟨a,c,h1,h2,h3,g,g',h4,h5,h6,h7⟩
  refine⟨a,c,h1,h2,h3,g,g',h4,zAd (fun i x hx=> ?_) h5,h6,h7⟩
  unfold xM at hx
  split
  ·rename_i hi;rwa [yWl hi]at hx
  ·rename_i hi
   rw[yWj hi]at hx
   obtain⟨x,p,l0,r1,r2,tab1,r3,r4,r5⟩:=hx
   exact⟨x,p,l0,tab1,r1,r2,r3,r4,r5⟩
theorem zCi (R:Rel k L E s w) {n t:Nat} {T:Type} {m:Nat} {unf:T→Nat→AObj} {l:List T} {hole:Option Nat} (h:s.get n=some (.objs t T m unf l hole)):
 ∃a c sub,E.tab[n]? =some (.slice a l.length c,sub)∧sub.length=l.length∧yIp sub∧
  Hp k w (slO t 1 a l.length c sub::((List.range l.length).map (xM E.F T m unf l sub hole)++((jZ n s.rows).map (rHP E)++fz E.F::L))):=by
 obtain⟨hk,hs,hh⟩:=R.focus h
 cases hh with
 |cons ha hsub hd hr=>
  rcases ha with⟨e,_⟩|⟨⟨hv,sub⟩,h1,h2⟩
  ·cases e
  ·obtain⟨a,c,rfl,q2,q3,q4⟩:=rowHP_objs.1 h2
   refine⟨a,c,sub,h1,q2,q3,?_⟩
   have H:Hp k w (hS2 (slO t 1 a l.length c sub) (hS ((List.range l.length).map (xM E.F T m unf l sub hole)))::((jZ n s.rows).map (rHP E)++fz E.F::L)):=⟨hk,_,.cons q4 hsub hd hr⟩
   have H1:=hp_star2.1 H
   have H2:=hp_star.1 H1.swap
   exact H2.perm yWy
theorem zIz {n t:Nat} {T:Type} {m:Nat} {unf:T→Nat→AObj} {l:List T} {hole:Option Nat} {a:Option Addr} {c:Nat} {sub:List Value} {M:List HP}
 (ht:E.tab[n]? =some (.slice a l.length c,sub)) (hl:sub.length=l.length) (hp:yIp sub)
 (H:Hp k w (slO t 1 a l.length c sub::((List.range l.length).map (xM E.F T m unf l sub hole)++M))):Hp k w (rHP E (n,.objs t T m unf l hole)::M):=by
 have H1:Hp k w ((List.range l.length).map (xM E.F T m unf l sub hole)++slO t 1 a l.length c sub::M):=H.perm yWy.symm
 have H2:=(hp_star.2 H1).swap
 exact(hp_star2.2 H2).imp fun x hx=> .inr ⟨_,ht,rowHP_objs.2 ⟨a,c,rfl,hl,hp,hx⟩⟩
theorem zGl {n i:Nat} (h:i<n):∃B,List.range n=List.range i++i::B∧∀j∈B,j≠i:=by
 refine⟨(List.range (n-i-1)).map (fun j=>i+1+j),?_,fun j hj=> ?_⟩
 ·have:n=i+(1+(n-i-1)):=by omega
  conv=>lhs;rw[this]
  rw[List.range_add,List.range_add,yWv]
  simp[Function.comp_def,y0g]
 ·obtain⟨q,_,rfl⟩:=yYa.1 hj
  omega
theorem z8g (H:Hp k w L):Hp k w ((fun h=>h=pe)::L):=((@vC k w True L).2 ⟨trivial,H⟩).imp fun x hx=>hx.2
theorem yMv (H:Hp k w ((fun h=>h=pe)::L)):Hp k w L:=((@vC k w True L).1 (H.imp fun x hx=>⟨trivial,hx⟩)).2
theorem yCv {F:PH} {T:Type} {m:Nat} {unf:T→Nat→AObj} {l:List T} {sub:List Value} {M:List HP} {i:Nat} {x:T} {p:Value} (hx:l[i]? =some x) (hp:sub[i]? =some p)
 (H:Hp k w ((List.range l.length).map (xM F T m unf l sub none)++M)):∃l0,Hp k w (zIf F T m unf x p l0::((List.range l.length).map (xM F T m unf l sub (some i))++M)):=by
 have hi:i<l.length:=(yWn.1 hx).1
 obtain⟨B,hB,hne⟩:=zGl hi
 have e1:∀j,j≠i→xM F T m unf l sub none j=xM F T m unf l sub (some i) j:=fun j hj=>by
  funext h
  unfold xM
  rw[yWj (by simp),yWj (by simp only[Option.some.injEq];omega)]
 have e2:xM F T m unf l sub (some i) i=fun h=>h=pe:=by funext h;unfold xM;rw[yWl rfl]
 have ea:(List.range i).map (xM F T m unf l sub (some i))=(List.range i).map (xM F T m unf l sub none):=yXs fun j hj=>(e1 j (by have:=yZl.1 hj;omega)).symm
 have eb:B.map (xM F T m unf l sub (some i))=B.map (xM F T m unf l sub none):=yXs fun j hj=>(e1 j (hne j hj)).symm
 rw[hB,yWv,yWz]at H ⊢
 rw[ea,eb,e2]
 have H1:Hp k w (xM F T m unf l sub none i::((List.range i).map (xM F T m unf l sub none)++(B.map (xM F T m unf l sub none)++M))):=by
  rw[yWo]at H
  exact H.perm yWy
 obtain⟨l0,H2⟩:∃l0,Hp k w (zIf F T m unf x p l0::((List.range i).map (xM F T m unf l sub none)++(B.map (xM F T m unf l sub none)++M))):=by
  obtain⟨hk,hs,hh⟩:=H1
  cases hh with
  |cons ha hsub hd hr=>
   unfold xM at ha
   rw[yWj (by simp)]at ha
   obtain⟨x',p',l0,r1,r2,r3⟩:=ha
   rw[hx]at r1;rw[hp]at r2
   cases r1;cases r2
   exact⟨l0,hk,_,.cons r3 hsub hd hr⟩
 have H3:=z8g H2
 rw[yWo]
 refine⟨l0,H3.swap.cons ?_⟩
 exact yWy.symm
theorem yIx {F:PH} {T:Type} {m:Nat} {unf:T→Nat→AObj} {l:List T} {sub:List Value} {M:List HP} {i:Nat} {x:T} {p:Value} {l0:List Value} (hi:i<l.length) (hp:sub[i]? =some p)
 (H:Hp k w (zIf F T m unf x p l0::((List.range l.length).map (xM F T m unf l sub (some i))++M))):Hp k w ((List.range l.length).map (xM F T m unf (l.set i x) sub none)++M):=by
 obtain⟨B,hB,hne⟩:=zGl hi
 have e1:∀j,j≠i→xM F T m unf (l.set i x) sub none j=xM F T m unf l sub (some i) j:=fun j hj=>by
  funext h
  unfold xM
  rw[yWj (by simp),yWj (by simp only[Option.some.injEq];omega),List.getElem?_set_ne (by omega)]
 have e2:xM F T m unf l sub (some i) i=fun h=>h=pe:=by funext h;unfold xM;rw[yWl rfl]
 have ea:(List.range i).map (xM F T m unf (l.set i x) sub none)=(List.range i).map (xM F T m unf l sub (some i)):=yXs fun j hj=>e1 j (by have:=yZl.1 hj;omega)
 have eb:B.map (xM F T m unf (l.set i x) sub none)=B.map (xM F T m unf l sub (some i)):=yXs fun j hj=>e1 j (hne j hj)
 rw[hB,yWv,yWz,yWo]at H ⊢
 rw[e2]at H
 rw[ea,eb]
 have H1:Hp k w ((fun h=>h=pe)::zIf F T m unf x p l0::((List.range i).map (xM F T m unf l sub (some i))++(B.map (xM F T m unf l sub (some i))++M))):=
  H.perm ((List.Perm.cons _ yWy).trans (.swap _ _ _))
 have H2:=yMv H1
 have H3:Hp k w (xM F T m unf (l.set i x) sub none i::((List.range i).map (xM F T m unf l sub (some i))++(B.map (xM F T m unf l sub (some i))++M))):=H2.imp fun h hh=>by
  unfold xM
  rw[yWj (by simp)]
  exact⟨x,p,l0,by rw[y2q hi],hp,hh⟩
 exact H3.perm yWy.symm
theorem yDt {F:PH} {T:Type} {m:Nat} {unf:T→Nat→AObj} {l l2:List T} {sub sub2:List Value} (hl:sub.length=l.length) {M:List HP}
 (H:Hp k w ((List.range l.length).map (xM F T m unf l sub none)++((List.range l2.length).map (xM F T m unf l2 sub2 none)++M))):
 Hp k w ((List.range (l++l2).length).map (xM F T m unf (l++l2) (sub++sub2) none)++M):=by
 rw[yWi,List.range_add,yWv,yZc,yWo]
 have ea:(List.range l.length).map (xM F T m unf (l++l2) (sub++sub2) none)=(List.range l.length).map (xM F T m unf l sub none):=yXs fun j hj=>by
  have hj:=yZl.1 hj
  funext h
  unfold xM
  rw[yWj (by simp),yWj (by simp),yYv hj,yYv (by omega)]
 have eb:(List.range l2.length).map ((xM F T m unf (l++l2) (sub++sub2) none)∘(l.length+·))=(List.range l2.length).map (xM F T m unf l2 sub2 none):=yXs fun j hj=>by
  funext h
  simp only[Function.comp]
  unfold xM
  rw[yWj (by simp),yWj (by simp),yYg (by omega),yYg (by omega)]
  rw[show l.length+j-l.length=j by omega,show l.length+j-sub.length=j by omega]
 rw[ea,eb]
 exact H
theorem zFu {n:Nat} {T:Type} {m:Nat} {unf:T→Nat→AObj} {x:T} {p:Value} {l0:List Value} (ht:E.tab[n]? =some (p,l0)) {h:PH} (H:rHP E (n,.adt T m unf x) h):zIf E.F T m unf x p l0 h:=by
 rcases H with⟨e,_⟩|⟨hd,h1,h2⟩
 ·cases e
 ·rw[ht]at h1;cases h1
  simp only[rowHP]at h2
  exact h2
theorem zUq {n:Nat} {T:Type} {m:Nat} {unf:T→Nat→AObj} {x:T} {p:Value} {l0:List Value} (ht:E.tab[n]? =some (p,l0)) {h:PH} (H:zIf E.F T m unf x p l0 h):rHP E (n,.adt T m unf x) h:=
 .inr ⟨_,ht,by simp only[rowHP];exact H⟩
theorem Rel.out {A:HP} {E:Ev} {s:St} (R:Rel k (A::L) E s w):Hp k w (A::(s.rows.map (rHP E)++fz E.F::L)):=by
 refine R.hp.perm ?_
 have:(fz E.F::A::L).Perm (A::fz E.F::L):= .swap _ _ _
 exact(this.append_left _).trans yWy
theorem Rel.inn {A:HP} {E:Ev} {s:St} (hn:E.tab.length=s.nx) (H:Hp k w (A::(s.rows.map (rHP E)++fz E.F::L))):Rel k (A::L) E s w:=by
 refine⟨hn,H.perm ?_⟩
 have:(fz E.F::A::L).Perm (A::fz E.F::L):= .swap _ _ _
 exact((this.append_left _).trans yWy).symm
theorem Rel.impL {A B:HP} {E:Ev} {s:St} (R:Rel k (A::L) E s w) (h:∀x,A x→B x):Rel k (B::L) E s w:=Rel.inn R.nx (R.out.imp h)
theorem Rel.take {E:Ev} {s:St} (R:Rel k L E s w) {n:Nat} {o:AObj} (h:s.get n=some o):Rel k (rHP E (n,o)::L) E (s.del n) w:=Rel.inn R.nx (R.focus h)
theorem Rel.takeF {E:Ev} {s:St} (R:Rel k L E s w) {n:Nat} {o:AObj} (h:s.get n=some o):Rel k (rHP E (n,o)::L) E (s.delF n o) w:=by
 cases o with
 |fro sz els=>
  obtain⟨hd,x,h1,h2,h3⟩:=R.row h (by simp)
  refine⟨R.nx,?_⟩
  have H:Hp k w ((fun h=>h=pe)::(s.rows.map (rHP E)++fz E.F::L)):=z8g R.hp
  simp only[rowHP]at h2
  have H1:Hp k w (rHP E (n,.fro sz els)::(s.rows.map (rHP E)++fz E.F::L)):=H.imp fun y hy=> .inr ⟨hd,h1,by simp only[rowHP];exact⟨hy,h2.2⟩⟩
  refine H1.perm ?_
  have:(rHP E (n,.fro sz els)::fz E.F::L).Perm (fz E.F::rHP E (n,.fro sz els)::L):= .swap _ _ _
  exact yWy.symm.trans (this.append_left _)
 |_=>exact R.take h
theorem Rel.takeOut (R:Rel k L E s w) {n t i:Nat} {T:Type} {m:Nat} {unf:T→Nat→AObj} {l:List T} (h:s.get n=some (.objs t T m unf l none)) {x:T} (hx:l[i]? =some x) {y:Value} (hv:VR E (.sub n i) y):
 ∃E1,E.le E1∧Rel k L E1 ((s.set n (.objs t T m unf l (some i))).new (.adt T m unf x)) w∧VR E1 (.nm s.nx 0) y∧∃l0,E1.tab[s.nx]? =some (y,l0):=by
 obtain⟨a,c,sub,h1,h2,h3,H⟩:=zCi R h
 simp only[VR]at hv
 obtain⟨hd,l',b,oo,e1,e2,e3⟩:=hv
 rw[h1]at e1;cases e1
 obtain⟨l0,H1⟩:=yCv hx e2 (H.perm yWy.symm)
 have H2:Hp k w (slO t 1 a l.length c sub::((List.range l.length).map (xM E.F T m unf l sub (some i))++(zIf E.F T m unf x y l0::((jZ n s.rows).map (rHP E)++fz E.F::L)))):=
  H1.perm ((yWy.symm.trans (List.Perm.append_left _ (.swap _ _ _))).trans yWy)
 have H3:=(zIz h1 h2 h3 H2).swap
 have H4:Hp k w (zIf E.F T m unf x y l0::((nA n (.objs t T m unf l (some i)) s.rows).map (rHP E)++fz E.F::L)):=by
  refine H3.cons ?_
  have:=(((vQ h).2 (.objs t T m unf l (some i))).map (rHP E)).append_right (fz E.F::L)
  simpa using this.symm
 have H5:Hp k w ((nA n (.objs t T m unf l (some i)) s.rows).map (rHP E)++(zIf E.F T m unf x y l0::fz E.F::L)):=H4.perm yWy.symm
 have hle:E.le ⟨E.F,E.tab++[(y,l0)]⟩:=⟨FLe.refl _,y0k _ _⟩
 have hget:(E.tab++[((y,l0):Hd)])[s.nx]? =some (y,l0):=by rw[← R.nx];simp
 have H6:=jV (fun r x=>rHP.mono hle r) H5
 have H7:Hp k w (zIf E.F T m unf x y l0::((nA n (.objs t T m unf l (some i)) s.rows).map (rHP ⟨E.F,E.tab++[(y,l0)]⟩)++fz E.F::L)):=H6.perm yWy
 refine⟨⟨E.F,E.tab++[(y,l0)]⟩,hle,⟨by simp[St.new,St.set,R.nx],?_⟩,by simp only[VR];exact⟨b,oo,l0,by rw[hget,e3],e3⟩,l0,hget⟩
 exact H7.imp fun z hz=>zUq (E:=⟨E.F,E.tab++[(y,l0)]⟩) hget hz
theorem Rel.putBack (R:Rel k L E s w) {n t i z:Nat} {T:Type} {m:Nat} {unf:T→Nat→AObj} {l:List T} {x:T} (ha:s.get z=some (.adt T m unf x)) (h:(s.del z).get n=some (.objs t T m unf l (some i))) (hi:i<l.length)
 {y:Value} {l0:List Value} (hz:E.tab[z]? =some (y,l0)) (hs:∀v sub,E.tab[n]? =some (v,sub)→sub[i]? =some y):Rel k L E ((s.del z).set n (.objs t T m unf (l.set i x) none)) w:=by
 have R1:=R.take ha
 obtain⟨a,c,sub,h1,h2,h3,H⟩:=zCi R1 h
 have hp:=hs _ _ h1
 have H1:Hp k w (rHP E (z,.adt T m unf x)::((List.range l.length).map (xM E.F T m unf l sub (some i))++(slO t 1 a l.length c sub::((jZ n (s.del z).rows).map (rHP E)++fz E.F::L)))):=by
  refine H.perm ?_
  have p1:((jZ n (s.del z).rows).map (rHP E)++fz E.F::rHP E (z,.adt T m unf x)::L).Perm (rHP E (z,.adt T m unf x)::((jZ n (s.del z).rows).map (rHP E)++fz E.F::L)):=
   (List.Perm.append_left _ (.swap _ _ _)).trans yWy
  refine(List.Perm.cons _ ((List.Perm.append_left _ p1).trans yWy)).trans ((List.Perm.swap _ _ _).trans (List.Perm.cons _ yWy.symm))
 have H2:=yIx hi hp (H1.imp fun q hq=>zFu hz hq)
 have H3:Hp k w (rHP E (n,.objs t T m unf (l.set i x) none)::((jZ n (s.del z).rows).map (rHP E)++fz E.F::L)):=by
  refine zIz (a:=a) (c:=c) (sub:=sub) (by rw[yXf];exact h1) (by rw[yXf];exact h2) h3 ?_
  rw[yXf]
  exact H2.perm yWy
 refine⟨by simpa[St.set,St.del]using R1.nx,H3.perm ?_⟩
 have:=(((vQ h).2 (.objs t T m unf (l.set i x) none)).map (rHP E)).append_right (fz E.F::L)
 simpa[St.set]using this.symm
theorem zDr {rows:List (Nat×AObj)} {nx t:Nat} {T:Type} {m:Nat} {unf:T→Nat→AObj} {l:List T} {a:Option Addr} {c:Nat} {sub:List Value} (hn:E.tab.length=nx) (hl:sub.length=l.length) (hp:yIp sub)
 (H:Hp k w (slO t 1 a l.length c sub::((List.range l.length).map (xM E.F T m unf l sub none)++(rows.map (rHP E)++fz E.F::L)))):
 ∃E',E.le E'∧Rel k L E' ⟨(nx,.objs t T m unf l none)::rows,nx+1⟩ w∧VR E' (.own nx) (.slice a l.length c):=by
 have hle:E.le ⟨E.F,E.tab++[(.slice a l.length c,sub)]⟩:=⟨FLe.refl _,y0k _ _⟩
 have hget:(E.tab++[((.slice a l.length c,sub):Hd)])[nx]? =some (.slice a l.length c,sub):=by rw[← hn];simp
 refine⟨⟨E.F,E.tab++[(.slice a l.length c,sub)]⟩,hle,⟨by simp[hn],?_⟩,by simp only[VR];exact⟨sub,hget,_,_,_,rfl⟩⟩
 have H0:Hp k w (rows.map (rHP E)++(slO t 1 a l.length c sub::((List.range l.length).map (xM E.F T m unf l sub none)++fz E.F::L))):=by
  refine H.perm ?_
  refine(List.Perm.cons _ ?_).trans yWy.symm
  rw[← yWo,← yWo]
  exact List.Perm.append_right _ yYm
 have H1:=jV (fun r x=>rHP.mono hle r) H0
 have H2:Hp k w (slO t 1 a l.length c sub::((List.range l.length).map (xM E.F T m unf l sub none)++(rows.map (rHP ⟨E.F,E.tab++[(.slice a l.length c,sub)]⟩)++fz E.F::L))):=by
  refine H1.perm (yWy.trans (List.Perm.cons _ ?_))
  rw[← yWo,← yWo]
  exact List.Perm.append_right _ yYm
 exact zIz (E:=⟨E.F,E.tab++[(.slice a l.length c,sub)]⟩) hget hl hp H2
open Go Go.RowKit Cv
def Outc (k:Ko) (L:List HP) (E:Ev) (K:V→St→Prop) (y:Value) (w':World):Prop:=∃E' v s',E.le E'∧Rel k L E' s' w'∧VR E' v y∧K v s'
@[reducible] def Hnd:=FuncId→List V→St→(V→St→Prop)→Prop
def HOk (P:Program) (H:Hnd):Prop:=∀f args s K,H f args s K→∀(k:Ko) (L:List HP) (E:Ev) (w:World) (ys:List Value),Rel k L E s w→VRL E args ys→Does P (callFunc f ys.toArray) w (Outc k L E K)
structure SlI where
 e:TypeId
 sz:Nat
 by_:Nat
 z:List D
def bX (P:Program) (t:TypeId):Option SlI:=
 match uF P t with
 |some (e,sz,by_,z)=>bif Nat.beq z.size sz && z.toList.all (·.oneC)then some ⟨e,sz,by_,sP P (zBs P 6 e) (z.toList.map .v)⟩else none
 |none=>none
theorem yBh {F:PH}:∀{l:List Value},(l.all (·.oneC))=true→DRL F (l.map .v) l
 |[],_=>by simp[DRL]
 |y::l,h=>by
  simp only[List.all_cons,yWw]at h
  simp only[yWz,DRL,DR]
  exact⟨y,l,rfl,⟨rfl,h.1⟩,yBh h.2⟩
theorem gV {P:Program} {t:TypeId} {i:SlI} (h:bX P t=some i):∃z,uF P t=some (i.e,i.sz,i.by_,z)∧z.size=i.sz∧i.z.length=i.sz∧∀F,DRL F i.z z.toList:=by
 unfold bX at h
 split at h<;>first|(cases h;done)|skip
 rename_i e sz by_ z hz
 obtain⟨hb,h⟩:=cV h
 cases h
 simp only[yWw]at hb
 have h1:=yWm hb.1
 exact⟨z,hz,h1,by rw[zOf,yWk,y1n,h1],fun F=>zLz (yBh hb.2)⟩
def z4k {α:Type} (l:List α) (o:Nat) (vs:List α):List α:=l.take o++(vs++l.drop (o+vs.length))
theorem zTr {α:Type} {sz:Nat}:∀{els:List (List α)} (i:Nat) (ds:List α),(∀el∈els,el.length=sz)→i<els.length→ds.length=sz→
 (els.set i ds).flatten=z4k els.flatten (i*sz) ds
 |[],i,ds,_,h,_=>by simp at h
 |el::els,0,ds,hu,h,hd=>by
  simp only[y2o,yYs,z4k,Nat.zero_mul,y1r,yZa,yXk]
  rw[hd,← hu el yWp,List.drop_left]
 |el::els,i+1,ds,hu,h,hd=>by
  have ih:=zTr (els:=els) i ds (fun e he=>hu e (yWq _ he)) (by simpa using h) hd
  simp only[y2p,yYs,z4k]at ih ⊢
  rw[ih]
  have e1:=hu el yWp
  rw[yZf,y2g (i*sz) sz,List.take_append,y1q,e1]
  rw[yWu (show el.length≤sz+i*sz by omega),show sz+i*sz-sz=i*sz by omega,yZz (show el.length≤sz+i*sz+ds.length by omega),show sz+i*sz+ds.length-sz=i*sz+ds.length by omega]
  simp
theorem zBl {F:PH} {ds es:List D} {l m:List Value} (h1:DRL F ds l) (h2:DRL F es m) (o:Nat):DRL F (ds.take o++(es++ds.drop (o+es.length))) (spl l o m):=by
 unfold spl
 rw[yWo]
 have:=h2.length
 rw[this]
 exact(h1.take o).append (h2.append (h1.drop _))
def zUd (P:Program) (e sz:Nat):St→List (Nat×V)→List (List D)→Option (List (List D)×St)
 |s,[],els=>some (els,s)
 |s,(i,v)::ps,els=>match elD P s e v with
  |some (ds,s')=>bif Nat.beq ds.length sz && Nat.blt i els.length then zUd P e sz s' ps (els.set i ds)else none
  |none=>none
theorem yIq {α:Type} {sz:Nat} {els:List (List α)} {i:Nat} {ds:List α} (hu:∀el∈els,el.length=sz) (hd:ds.length=sz):∀el∈els.set i ds,el.length=sz:=by
 intro el hel
 rcases List.mem_or_eq_of_mem_set hel with h|rfl
 ·exact hu el h
 ·exact hd
theorem zTf {P:Program} {k:Ko} {L:List HP} {w:World} {e sz:Nat}:∀{ps:List (Nat×V)} {E:Ev} {s:St} (R:Rel k L E s w) {els els':List (List D)} {s':St} {qs:List (Nat×Value)} {cs:List Value},
 zUd P e sz s ps els=some (els',s')→PRL E ps qs→(∀el∈els,el.length=sz)→DRL E.F els.flatten cs→
 ∃E' cs',E.le E'∧E'.tab=E.tab∧Rel k L E' s' w∧s'.nx=s.nx∧(∀el∈els',el.length=sz)∧els'.length=els.length∧DRL E'.F els'.flatten cs'∧Instr.fill (fun i=>some (i*sz,sz)) cs.toArray qs=some cs'.toArray
 |[],E,s,R,els,els',s',qs,cs,h,hp,hu,hc=>by
  simp only[zUd,Option.some.injEq,Prod.mk.injEq]at h
  obtain⟨rfl,rfl⟩:=h
  simp only[PRL]at hp
  subst hp
  exact⟨E,cs,Ev.le.refl _,rfl,R,rfl,hu,rfl,hc,rfl⟩
 |(i,v)::ps,E,s,R,els,els',s',qs,cs,h,hp,hu,hc=>by
  simp only[zUd]at h
  simp only[PRL]at hp
  obtain⟨y,qs,rfl,hv,hp⟩:=hp
  split at h<;>first|(cases h;done)|skip
  rename_i ds s1 hd
  obtain⟨hb,h⟩:=cV h
  simp only[yWw]at hb
  have hlen:=yWm hb.1
  have hi:i<els.length:=by simpa[yZj]using hb.2
  obtain⟨E1,ys,q1,q2,q3,q4,q5,q6⟩:=zFp R hd hv
  have hp1:PRL E1 ps qs:=by
   have:∀{ps:List (Nat×V)} {qs:List (Nat×Value)},PRL E ps qs→PRL E1 ps qs:=by
    intro ps
    induction ps with
    |nil=>intro qs h;exact h
    |cons p ps ih=>obtain⟨i,v⟩:=p;intro qs h;obtain⟨y,ys,h1,h2,h3⟩:=h;exact⟨y,ys,h1,h2.mono q1,ih h3⟩
   exact this hp
  have hc1:DRL E1.F (els.set i ds).flatten (spl cs (i*sz) ys):=by
   rw[zTr i ds hu hi hlen]
   exact zBl (hc.mono q1.1) q6 (i*sz)
  obtain⟨E2,cs',r1,r2,r3,r4,r5,r6,r7,r8⟩:=zTf q3 h hp1 (yIq hu hlen) hc1
  refine⟨E2,cs',q1.trans r1,r2.trans q2,r3,r4.trans q4,r5,by rw[r6,yXf],r7,?_⟩
  have hyl:ys.length=sz:=by rw[q6.length,hlen]
  have hcl:cs.length=els.length*sz:=by rw[hc.length,jF hu]
  have hin:i*sz+sz≤els.length*sz:=by
   have:=yXu sz (show i+1≤els.length by omega)
   rwa [yZf]at this
  have hysz:y.cells.size=sz:=by rw[q5,y0q,hyl]
  have hbb:(decide (y.cells.size≠sz)||decide (i*sz+y.cells.size>cs.toArray.size))=false:=by
   rw[hysz,y0q]
   simp;omega
  have hfold:y.cells.zipIdx.foldl (fun(cs:Array Value) (p:Value×Nat)=>cs.setIfInBounds (i*sz+p.2) p.1) cs.toArray=(spl cs (i*sz) ys).toArray:=by
   have hz:ys.toArray.zipIdx=(ys.zipIdx).toArray:=by
    apply Array.ext'
    simp
   rw[q5,hz,List.foldl_toArray]
   rw[zKd (off:=i*sz) ys 0 cs (by omega)]
   rfl
  simp only[Instr.fill]
  rw[yWj (by rw[hbb];simp),hfold]
  exact r8
theorem m8 {z:List Value}:∀n,(lD z.toArray (n*z.length)).toList=(List.replicate n z).flatten
 |0=>by simp[lD]
 |n+1=>by
  have ih:=m8 (z:=z) n
  simp only[lD,y0q]at ih ⊢
  rw[y0s,yYs,← ih,yZf,y2g,List.range_add,yWv]
  congr 1
  ·apply y0b
   intro i
   rw[yXr]
   by_cases hi:i<z.length
   ·rw[y0t hi]
    simp only[yYk,y0l hi]
    rw[yWs]
    rw[yXj hi]
    rfl
   ·rw[yXm (by simpa using Nat.not_lt.1 hi),yXm (Nat.not_lt.1 hi)]
    rfl
  ·rw[yZc]
   refine yXs fun j _=> ?_
   simp only[Function.comp,Nat.add_mod_left]
theorem zRk {F:PH} {ds:List D} {l:List Value} (h:DRL F ds l):∀n,DRL F (List.replicate n ds).flatten (List.replicate n l).flatten
 |0=>by simp[DRL]
 |n+1=>by simp only[y0s,yYs];exact h.append (zRk h n)
theorem zBp {α:Type} {ds:List α} {n sz:Nat} (h:ds.length=sz):∀el∈List.replicate n ds,el.length=sz:=by
 intro el hel
 rw[(List.mem_replicate.1 hel).2];exact h
def zT (els:List (List D)) (i f:Nat) (ds:List D):List (List D):=els.modify i fun el=>el.take f++(ds++el.drop (f+ds.length))
def yHj:V→Bool
 | .top=>false
 | .agg _=>false
 | .tup _=>false
 |_=>true
def zTi:List V→Bool
 |[]=>true
 |v::l=>bif yHj v then zTi l else false
theorem zUz {E:Ev}:∀{vs:List V} {l:List Value},zTi vs=true→VRL E vs l→∀y∈l,y.oneC=true
 |[],l,_,h=>by simp only[VRL]at h;subst h;simp
 |v::vs,l,hb,h=>by
  simp only[VRL]at h
  obtain⟨x,xs,rfl,h1,h2⟩:=h
  simp only[zTi]at hb
  obtain⟨hb1,hb2⟩:yHj v=true∧zTi vs=true:=by
   revert hb
   generalize yHj v=b
   cases b<;>simp
  intro y hy
  rcases yXe.1 hy with rfl|hy
  ·cases v<;>simp only[yHj,yXb]at hb1<;>simp only[VR]at h1
   ·rename_i d;exact DRL.one (F:=E.F) (vs:=[d]) (l:=[y]) (by simp only[DRL];exact⟨_,_,rfl,h1,rfl⟩) y (by simp)
   ·obtain⟨_,_,_,_,rfl⟩:=h1;rfl
   ·obtain⟨_,_,_,_,_,_,rfl⟩:=h1;rfl
   ·obtain⟨_,_,_,_,_,_,_,rfl,_⟩:=h1;rfl
   ·obtain⟨_,_,_,_,rfl⟩:=h1;rfl
   ·obtain⟨_,_,_,_,_,rfl⟩:=h1;rfl
   ·obtain⟨_,_,_,rfl⟩:=h1;rfl
   ·obtain⟨_,_,_,_,_,_,rfl⟩:=h1;rfl
   ·obtain⟨_,_,rfl,_⟩:=h1;rfl
   ·obtain⟨_,rfl,_⟩:=h1;rfl
  ·exact zUz hb2 h2 y hy
def zSj (s:St) (sz:Nat):V→Option (List (List D))
 | .d (.v (.slice none 0 0))=>some []
 | .d (.v (.string b))=>bif Nat.beq sz 1 then some (wX b)else none
 |v=>match nG s v with
  |some (sz',els)=>bif Nat.beq sz sz' then some els else none
  |none=>none
def zSb (P:Program) (t1 t2:TypeId) (s:St) (x y:V) (K:V→St→Prop):Prop:=
 optK (bX P t1) fun i=>bif zYn P t2 && Nat.blt 0 i.by_ then optK (zSj s i.sz y) fun ys=>
  match x with
  | .d (.v (.slice none 0 0))=>ys.length*i.by_≤140737488355328∧K (.own s.nx) (s.new (.own i.e i.sz ys))
  | .own n=>match s.get n with
    |some (.own T sz els)=>bif Nat.beq T i.e && Nat.beq sz i.sz then(els.length+ys.length)*i.by_≤140737488355328∧K (.own s.nx) ((s.del n).new (.own i.e i.sz (els++ys)))else False
    |_=>False
  |_=>False else False
def yIw:V→Bool
 | .agg l=> !(Nat.beq l.length 1)
 | .d _=>true
 |_=>false
def zNu:List V→St→(List V→St→Prop)→Prop
 |[],s,K=>K [] s
 |v::l,s,K=>match v with
  | .d (.ro sz els)=>zNu l (s.new (.fro sz els)) fun l' s'=>K (.own s.nx::l') s'
  |v=>zNu l s fun l' s'=>K (v::l') s'
def zJk (P:Program) (t1 t2:TypeId) (s:St) (x y:V) (K:V→St→Prop):Prop:=
 match y with
 | .own n2=>(match s.get n2 with
   |some (.objs _ T2 m2 unf2 l2 none)=>optK (bX P t1) fun i=>bif zYn P t2 && Nat.blt 0 i.by_ && Nat.beq i.sz 1 then(match x with
    | .d (.v (.slice none 0 0))=>l2.length*i.by_≤140737488355328∧K (.own s.nx) ((s.del n2).new (.objs i.e T2 m2 unf2 l2 none))
    | .own n=>(match(s.del n2).get n with
      |some (.objs t1' T1 m1 unf1 l1 none)=>∃l1':List T2,AObj.objs t1' T1 m1 unf1 l1 none=AObj.objs i.e T2 m2 unf2 l1' none∧(l1'.length+l2.length)*i.by_≤140737488355328∧K (.own s.nx) (((s.del n2).del n).new (.objs i.e T2 m2 unf2 (l1'++l2) none))
      |_=>False)
    |_=>False)else False
   |_=>False)
 |_=>False
def yDy (s:St):V→Bool
 | .own n=>match zAl s n with
   |some _=>true
   |none=>false
 |_=>false
def yJy (n i a:Nat) (v:V) (s:St) (K:V→St→Prop):Prop:=
 match s.get a with
 |some o=>(match(s.del a).get n with
  |some (.objs t T m unf l (some j))=>∃x:T,o=.adt T m unf x∧j=i∧i<l.length∧K v ((s.del a).set n (.objs t T m unf (l.set i x) none))
  |_=>False)
 |none=>False
def z7x (H:Hnd) (f:FuncId) (args:List V) (s:St) (K:V→St→Prop):Prop:=
 match args with
 | .sub n i::rest=>(match s.get n with
   |some (.objs t T m unf l none)=>∃x:T,l[i]?=some x∧H f (.nm s.nx 0::rest) ((s.set n (.objs t T m unf l (some i))).new (.adt T m unf x)) fun v s'=>yJy n i s.nx v s' K
   |_=>False)
 |args=>H f args s K
def yHg (P:Program) (t:TypeId):Option TypeId:=
 match P.underlying t with
 |some (.slice e)=>(match P.underlying e with
  |some (.int .u8)=>some e
  |_=>none)
 |_=>none
theorem zNy {P:Program} {t e:TypeId} (h:yHg P t=some e):P.underlying t=some (.slice e)∧P.underlying e=some (.int .u8):=by
 unfold yHg at h
 split at h<;>first|(cases h;done)|skip
 rename_i e' he
 split at h<;>first|(cases h;done)|skip
 rename_i hu
 cases h
 exact⟨he,hu⟩
def zPz:List (Nat×V)→Option Nat
 |[(0,.nm m 0)]=>some m
 |_=>none
def zJy (P:Program) (t:TypeId) (x:HolI) (n sz i f:Nat) (v:V) (s:St) (K:V→St→Prop):Prop:=
 bif Nat.beq sz x.sz then(match v,uH P t with
  | .own c,some _=>(match s.get c with
    |some (.own _ _ _)=>optK (bY P t) fun m=>bif Nat.beq m 1 && !(Nat.beq n c)then(i<x.els.length∧f<sz)∧(match x.q with
     |true=>(i=x.i∧f=x.f)∧K (.tup []) (s.set n (.hol true x.T sz x.els x.i x.f true (some c)))
     |false=>(i=x.i→f=x.f→K (.tup []) (s.set n (.hol false x.T sz x.els x.i x.f true (some c))))∧(x.f<sz∧(¬(i=x.i∧f=x.f)→match elD P s t (.own c)with
      |some (ds,s')=>(match bH s' n with
       |some y=>bif Nat.beq ds.length 1 then y=x∧K (.tup []) (s'.set n (.hol x.q x.T sz (zT x.els i f ds) x.i x.f x.b x.m))else False
       |none=>False)
      |none=>False)))else False
    |_=>False)
  |v,_=>(match elD P s t v with
   |some (ds,s')=>(match bH s' n with
    |some y=>optK (bY P t) fun m=>bif Nat.beq ds.length m then(y=x∧i<x.els.length∧f+m≤sz∧x.clear i f m)∧K (.tup []) (s'.set n (.hol x.q x.T sz (zT x.els i f ds) x.i x.f x.b x.m))else False
    |none=>False)
   |none=>False))else False
def se (P:Program) (H:Hnd) (o:Oper) (ρ:yO) (s:St) (K:V→St→Prop):Prop:=
 match o.op with
 | .alloc e=>optK (b7 P e) fun z=>bif sL (toV z)then K (.nm s.nx 0) (s.new (.cells (toV z).cl e))else False
 | .box e x=>bif sL (sev ρ x)then zNu (sev ρ x).cl s fun vs s=>K (.nm s.nx 0) (s.new (.cells vs e))else False
 | .buildSlice t len ps=>match zPz (zAq ρ ps.toList)with
   |some m=>(match s.get m with
    |some (.adt T mm unf x)=>optK (bX P t) fun i=>bif Nat.beq i.sz 1 && Nat.beq len 1 then K (.own s.nx) ((s.del m).new (.objs i.e T mm unf [x] none))else False
    |_=>False)
   |none=>optK (bX P t) fun i=>bif Nat.ble (len*i.sz) 16777216 then match zUd P i.e i.sz s (zAq ρ ps.toList) (List.replicate len i.z)with
   |some (els,s')=>K (.own s'.nx) (s'.new (.own i.e i.sz els))
   |none=>False else False
 | .makeMap _ none=>K (.mp s.nx) (s.new (.map []))
 | .makeSlice t l c=>match sev ρ l,sev ρ c with
   | .d (.v (.int _ l)),.d (.v (.int _ c))=>optK (bX P t) fun i=>(0≤l∧l≤c∧c≤9223372036854775807∧(i.by_:Int)*c≤2 ^ 48)∧K (.own s.nx) (s.new (.own i.e i.sz (List.replicate l.toNat i.z)))
   |_,_=>False
 | .store t x v=>match sev ρ x with
   | .nm n off=>bif sL (sev ρ v)then zNu (sev ρ v).cl s fun us s=>match s.get n with
     |some (.cells vs T)=>optK (bY P t) fun m=>bif Nat.beq us.length m && Nat.ble (off+m) vs.length && zTi us then
       K (.tup []) (s.set n (.cells (vs.take off++(us++vs.drop (off+m))) T))else False
     |_=>False
     else False
   | .el n sz i f=>match bH s n with
     |some x=>zJy P t x n sz i f (sev ρ v) s K
     |none=>match elD P s t (sev ρ v)with
     |some (ds,s')=>match s'.get n with
      |some (.own T sz' els)=>optK (bY P t) fun m=>bif Nat.beq sz sz' && Nat.beq ds.length m && Nat.ble (f+m) sz then i<els.length∧K (.tup []) (s'.set n (.own T sz (zT els i f ds)))else False
      |some (.mrk T els)=>optK (bY P t) fun m=>bif Nat.beq sz 1 && Nat.beq ds.length 1 && Nat.beq m 1 && Nat.beq f 0 then i<els.length∧K (.tup []) (s'.set n (.mrk T (zT els i 0 ds)))else False
      |_=>False
     |none=>False
   | .na n off i=>match sev ρ v with
     | .d (.v u)=>(match s.get n with
       |some (.cells vs T)=>optK (bY P t) fun m=>bif Nat.beq m 1 then i<(vs.drop off).length∧K (.tup []) (s.set n (.cells (vs.take off++(vs.drop off).set i (.d (.v u))) T))else False
       |some (.vec ds T)=>optK (bY P t) fun m=>bif Nat.beq m 1 then i<(ds.drop off).length∧K (.tup []) (s.set n (.vec (ds.take off++(ds.drop off).set i (.v u)) T))else False
       |_=>False)
     |_=>False
   |_=>False
 | .slice t x lo hi none=>match sev ρ x with
   | .own n=>match s.get n with
     |some (.own T sz els)=>optK (uH P t) fun sz'=>bif Nat.beq sz sz' then zGv (zMl ρ lo) (zMl ρ hi) fun l h=>match l,h with
      |none,none=>K (.own n) s
      |none,some h=>(0≤h∧h≤els.length)∧K (.own s.nx) ((s.del n).new (.own T sz (els.take h.toNat)))
      |some l,h=>z5t sz els (some l) h fun v=>K v (s.set n (.fro sz els))else False
     |some (.fro sz els)=>optK (uH P t) fun sz'=>bif Nat.beq sz sz' then zGv (zMl ρ lo) (zMl ρ hi) fun l h=>z5t sz els l h fun v=>K v s else False
     |_=>False
   |_=>False
 | .mapUpdate t x i v=>match sev ρ x with
   | .mp n=>optK (zMn P t) fun ke=>optK (zMq (sev ρ i)) fun kv=>bif z5e P ke.1 kv && yIw (sev ρ v)then(match elD P s ke.2 (sev ρ v)with
     |some (ds,s')=>(match s'.get n with
      |some (.map es)=>mT kv es∧K (.tup []) (s'.set n (.map (gP kv ds es)))
      |_=>False)
     |none=>False)else False
   |_=>False
 | .mapEntry t x i=>match sev ρ x with
   | .mp n=>optK (zMn P t) fun ke=>optK (zMq (sev ρ i)) fun kv=>bif z5e P ke.1 kv then optK (zPb P ke.2) fun z=>(match s.get n with
     |some (.map es)=>mT kv es∧∃b,shT P ke.2 fun ds=>LK es kv z ds b∧optK (mkM P ke.2 ds) fun v=>∀x:Int,K (.tup [v,.d (.v (.int .i64 x))]) (s.set n (.mapS (gP kv ds es) kv x))
     |_=>False)else False
   |_=>False
 | .entryStore t x st v=>match sev ρ x with
   | .mp n=>(match sev ρ st with
     | .d (.v (.int _ b))=>optK (zMn P t) fun ke=>bif yIw (sev ρ v)then(match elD P s ke.2 (sev ρ v)with
       |some (ds,s')=>(match s'.get n with
        |some (.mapS es kv b')=>b=b'∧mT kv es∧K (.tup []) (s'.set n (.map (gP kv ds es)))
        |_=>False)
       |none=>False)else False
     |_=>False)
   |_=>False
 | .convert st d x=>match sev ρ x with
   | .d (.v (.string b))=>bif lS P st then optK (yHg P d) fun e=>K (.own s.nx) (s.new (.mrk e (wX b)))else False
   | .own n=>match s.get n with
     |some (.own T sz els)=>bif Nat.beq st d && Nat.beq sz 1 then optK (yHg P d) fun e=>bif Nat.beq T e then 1≤els.length∧K (.own n) (s.set n (.fro sz els))else False else False
     |_=>False
   |_=>False
 | .range t x=>match sev ρ x with
   | .d (.v (.string b))=>bif lS P t then K (.nm s.nx 0) (s.new (.iter b 0))else False
   |_=>False
 | .next x true=>match sev ρ x with
   | .nm n 0=>match s.get n with
     |some (.iter b pos)=>cnd (Nat.blt pos b.size)
       (K (.tup [.d (.v (.bool true)),.d (.v (.int .i64 (pos:Nat))),.d (.v (.int .i32 (Utf8.decode b pos).1))]) (s.set n (.iter b (pos+(Utf8.decode b pos).2))))
       (K (.tup [.d (.v (.bool false))]) s)
     |_=>False
   |_=>False
 | .call c=>match c.callee with
   | .value x=>match sev ρ x with
     | .fn f a b=>z7x H f (a++(evs ρ c.args.toList++b)) s K
     |_=>False
   | .builtin .append=>match c.argTypes.toList with
     |[t1,t2]=>match evs ρ c.args.toList with
      |[x,y]=>bif yDy s y then zJk P t1 t2 s x y K else zSb P t1 t2 s x y K
      |_=>False
     |_=>False
   | .builtin .delete=>match evs ρ c.args.toList with
     |[.mp n,y]=>optK c.argTypes[0]? fun t=>optK (zMn P t) fun ke=>optK (zMq y) fun kv=>bif z5e P ke.1 kv then(match s.get n with
      |some (.map es)=>mT kv es∧K (.tup []) (s.set n (.map (eZ kv es)))
      |_=>False)else False
     |_=>False
   |_=>False
 |_=>False
theorem vN {P:Program} {w:World} {r:Nat} {O O':Obj} (h:w.heap[r]? =some O') (hO:match O' with| .cells _ _ _=>False|_=>True):(setObj r O).run P w= .ok () (World.setB w r O):=by
 simp only[setObj,Sem.run,h]
 cases O'<;>first|exact hO.elim|rfl
theorem bL {sz:Nat}:∀{els:List (List D)} (i f:Nat) (ds:List D),(∀el∈els,el.length=sz)→i<els.length→f+ds.length≤sz→
 (zT els i f ds).flatten=z4k els.flatten (i*sz+f) ds∧∀el∈zT els i f ds,el.length=sz
 |[],i,f,ds,_,h,_=>by simp at h
 |el::els,0,f,ds,hu,h,hd=>by
  have e1:=hu el yWp
  constructor
  ·simp only[zT,List.modify_zero_cons,yYs,z4k,Nat.zero_mul,yXk]
   rw[yXh (by omega),yYr (by omega)]
   simp
  ·intro e he
   simp only[zT,List.modify_zero_cons,yXe]at he
   rcases he with rfl|he
   ·simp only[yWi,yXd,yXg];omega
   ·exact hu e (yWq _ he)
 |el::els,i+1,f,ds,hu,h,hd=>by
  have e1:=hu el yWp
  obtain⟨ih1,ih2⟩:=bL (els:=els) i f ds (fun e he=>hu e (yWq _ he)) (by simpa using h) hd
  constructor
  ·simp only[zT,y1y,yYs,z4k]at ih1 ⊢
   rw[ih1,yZf,List.take_append,y1q,e1]
   rw[yWu (show el.length≤i*sz+sz+f by omega),show i*sz+sz+f-sz=i*sz+f by omega,yZz (show el.length≤i*sz+sz+f+ds.length by omega),show i*sz+sz+f+ds.length-sz=i*sz+f+ds.length by omega]
   simp
  ·intro e he
   simp only[zT,y1y,yXe]at he ih2
   rcases he with rfl|he
   ·exact e1
   ·exact ih2 e he
theorem zMx {P:Program} {w:World} {t b o:Nat} {v y:Value} {l:List Value} {T:TypeId} (hz:bY P t=some 1) (hc:v.cells= #[y]) (ho:o<l.length) (h1:y.oneC=true)
 (hb:w.heap[b]? =some (.cells l.toArray T (l.length,l.length+1))):lF P (storeVar t ⟨b,o,none⟩ v) w (World.setB w b (.cells (l.set o y).toArray T (l.length,l.length+1))):=by
 have hcell:w.cell? ⟨b,o,none⟩=some l[o]:=by rw[tT hb];exact yXj ho
 have hf:w.frozen? ⟨b,o,none⟩=false:=by
  simp only[World.frozen?,hb]
  simp;omega
 have hset:w.setCell ⟨b,o,none⟩ y=World.setB w b (.cells (l.set o y).toArray T (l.length,l.length+1)):=by
  unfold World.setCell World.setB
  congr 1
  apply y2n
  intro i
  rw[Array.getElem?_modify,y0o]
  have hlt:b<w.heap.size:=by
   rcases yYy b w.heap.size with h|h
   ·exact h
   ·rw[yZi h]at hb;cases hb
  by_cases hi:b=i
  ·subst hi
   have hb2:w.heap[b]= .cells l.toArray T (l.length,l.length+1):=by rw[y1b hlt]at hb;exact Option.some.inj hb
   simp[hlt,hb2]
  ·simp[hi]
 have h0:(store ⟨b,o,none⟩ y).run P w= .ok () (World.setB w b (.cells (l.set o y).toArray T (l.length,l.length+1))):=by
  unfold store
  cases y<;>first|(cases h1;done)|(simp only[Sem.run,hcell,hf,yXb,if_false,hset])
 unfold bY at hz
 split at hz<;>first|(cases hz;done)|skip
 rename_i i hi
 have hz:i.size=1:=Option.some.inj hz
 unfold lF storeVar
 simp only[bind,run_bind,run_sizeOf hi,hc,hz]
 simp only[y0q,yWr,yXp]
 have e:(storeCells ⟨b,o,none⟩ [y] 0).run P w= .ok () (World.setB w b (.cells (l.set o y).toArray T (l.length,l.length+1))):=by
  unfold storeCells
  simp only[bind,run_bind,vM,y0u,h0]
  unfold storeCells
  rfl
 simpa using e
theorem uA {P:Program} {w:World} {t b o n:Nat} {v:Value} {l vs:List Value} {T:TypeId} (hz:bY P t=some n) (hc:v.cells=vs.toArray) (hn:vs.length=n) (ho:o+n≤l.length) (h1:∀y∈vs,y.oneC=true)
 (hb:w.heap[b]? =some (.cells l.toArray T)):lF P (storeVar t ⟨b,o,none⟩ v) w (World.setB w b (.cells (spl l o vs).toArray T)):=by
 unfold bY at hz
 split at hz<;>first|(cases hz;done)|skip
 rename_i i hi
 cases hz
 unfold lF storeVar
 have:=jU (P:=P) vs 0 o l w hb (by omega) h1
 simp only[y0u]at this
 simp only[bind,run_bind,run_sizeOf hi,hc,y0q,hn]
 simpa using this
end Sx
