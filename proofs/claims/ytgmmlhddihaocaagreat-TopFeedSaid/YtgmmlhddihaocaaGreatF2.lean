/- Texts of ours. No condition. -/
import Derived.Laws.Cover1
import Derived.Laws.StructEq
import Derived.MapKept
import Derived.Test.YtgmmlhddihaocaaGreatF1
set_option linter.all false
open Go renaming Value->ab,Program->ac,TypeId->ae,execOp->af,World->ag,Operand->aj,MapEntry->ak,Oper->am,Addr->ao,IntKind->ap
open Option renaming some->aq,none->ar
open Bool renaming true->au,false->av
open List renaming range->aw,replicate->ax,take_take->ay,drop_take->az,drop_left->ba
open Option.some renaming injEq->bc,inj->be
open Nat renaming beq->bg,ble->bo,zero_mul->bu,blt->bv
open Go.Instr renaming findNow->bz,typeAssert->cd,lookup->ce
open Go.Sem renaming run->cf,bind->cg,pure->cm
open Go.Op renaming operands->cn,equalIn->co
open List.Perm renaming cons->cp,append_left->cq,append_right->cr,swap->cu
open Prod.mk renaming injEq->cw
open Go.Builtin renaming len_->cx,firstCells->cy
open Array renaming ext'->cz
namespace Sx
open Go Go.RowKit Cv
def gw.length {E:Ev}:∀{vs:List V} {l:List ab},gw E vs l->l.length=vs.length
 |[],l,h=>by simp only[gw]at h;subst h;rfl
 |v::vs,l,h=>by simp only[gw]at h;obtain⟨x,xs,rfl,h1,h2⟩:=h;simp[h2.length]
def gw.get {E:Ev}:∀{vs:List V} {l:List ab},gw E vs l->∀{i:Nat} {v:V},vs[i]? =aq v->∃y,l[i]? =aq y/\VR E v y
 |[],l,h,i,v,e=>by simp at e
 |v::vs,l,h,i,u,e=>by
  simp only[gw]at h;obtain⟨x,xs,rfl,h1,h2⟩:=h;cases i with
  |zero=>simp at e;subst e;exact⟨x,rfl,h1⟩
  |succ i=>simp at e ⊢;exact h2.get e
def gw.take {E:Ev}:∀{vs:List V} {l:List ab},gw E vs l->∀(n:Nat),gw E (vs.take n) (l.take n)
 |[],l,h,n=>by simp only[gw]at h;subst h;simp[gw]
 |v::vs,l,h,n=>by
  simp only[gw]at h;obtain⟨x,xs,rfl,h1,h2⟩:=h;cases n with
  |zero=>simp[gw]
  |succ n=>simp only[ux,gw];exact⟨_,_,rfl,h1,h2.take n⟩
def gw.drop {E:Ev}:∀{vs:List V} {l:List ab},gw E vs l->∀(n:Nat),gw E (vs.drop n) (l.drop n)
 |[],l,h,n=>by simp only[gw]at h;subst h;simp[gw]
 |v::vs,l,h,n=>by
  have h0:=h;simp only[gw]at h;obtain⟨x,xs,rfl,h1,h2⟩:=h;cases n with
  |zero=>exact h0
  |succ n=>simp only[List.drop_succ_cons];exact h2.drop n
def gw.append {E:Ev}:∀{vs:List V} {l:List ab},gw E vs l->∀{us:List V} {m:List ab},gw E us m->gw E (vs++us) (l++m)
 |[],l,h,us,m,h'=>by simp only[gw]at h;subst h;exact h'
 |v::vs,l,h,us,m,h'=>by
  simp only[gw]at h;obtain⟨x,xs,rfl,h1,h2⟩:=h;simp only[ui,gw];exact⟨_,_,rfl,h1,h2.append h'⟩
def gw.one {E:Ev} {v:V} {y:ab} (h:VR E v y):gw E [v] [y]:=by simp only[gw];exact⟨_,_,rfl,h,rfl⟩
def gw.nil {E:Ev}:gw E [] []:=by simp only[gw]
def iy.length {F:PH}:∀{vs:List D} {l:List ab},iy F vs l->l.length=vs.length
 |[],l,h=>by simp only[iy]at h;subst h;rfl
 |v::vs,l,h=>by simp only[iy]at h;obtain⟨x,xs,rfl,h1,h2⟩:=h;simp[h2.length]
def iy.append {F:PH}:∀{vs:List D} {l:List ab},iy F vs l->∀{us:List D} {m:List ab},iy F us m->iy F (vs++us) (l++m)
 |[],l,h,us,m,h'=>by simp only[iy]at h;subst h;exact h'
 |v::vs,l,h,us,m,h'=>by
  simp only[iy]at h;obtain⟨x,xs,rfl,h1,h2⟩:=h;simp only[ui,iy];exact⟨_,_,rfl,h1,h2.append h'⟩
def iy.split {F:PH}:∀{vs us:List D} {l:List ab},iy F (vs++us) l->∃l1 l2,l=l1++l2/\iy F vs l1/\iy F us l2
 |[],us,l,h=>⟨[],l,rfl,by simp only[iy],h⟩
 |v::vs,us,l,h=>by
  simp only[ui,iy]at h;obtain⟨x,xs,rfl,h1,h2⟩:=h;obtain⟨l1,l2,rfl,h3,h4⟩:=h2.split;exact⟨x::l1,l2,rfl,by simp only[iy];exact⟨_,_,rfl,h1,h3⟩,h4⟩
def iy.take {F:PH}:∀{vs:List D} {l:List ab},iy F vs l->∀(n:Nat),iy F (vs.take n) (l.take n)
 |[],l,h,n=>by simp only[iy]at h;subst h;simp[iy]
 |v::vs,l,h,n=>by
  simp only[iy]at h;obtain⟨x,xs,rfl,h1,h2⟩:=h;cases n with
  |zero=>simp[iy]
  |succ n=>simp only[ux,iy];exact⟨_,_,rfl,h1,h2.take n⟩
def iy.drop {F:PH}:∀{vs:List D} {l:List ab},iy F vs l->∀(n:Nat),iy F (vs.drop n) (l.drop n)
 |[],l,h,n=>by simp only[iy]at h;subst h;simp[iy]
 |v::vs,l,h,n=>by
  have h0:=h;simp only[iy]at h;obtain⟨x,xs,rfl,h1,h2⟩:=h;cases n with
  |zero=>exact h0
  |succ n=>simp only[List.drop_succ_cons];exact h2.drop n
def iy.one {F:PH}:∀{vs:List D} {l:List ab},iy F vs l->∀v∈l,v.oh=au
 |[],l,h=>by simp only[iy]at h;subst h;simp
 |v::vs,l,h=>by
  simp only[iy]at h;obtain⟨x,xs,rfl,h1,h2⟩:=h;intro u hu;rcases jq.1 hu with rfl|hu
  ·cases v with
   |v y=>simp only[DR]at h1;rw[h1.1];exact h1.2
   |ro sz ez=>simp only[DR]at h1;obtain⟨a,c,rfl,_⟩:=h1;rfl
  ·exact h2.one u hu
def iy.get {F:PH}:∀{vs:List D} {l:List ab},iy F vs l->∀{i:Nat} {v:D},vs[i]? =aq v->∃y,l[i]? =aq y/\DR F v y
 |[],l,h,i,v,e=>by simp at e
 |v::vs,l,h,i,u,e=>by
  simp only[iy]at h;obtain⟨x,xs,rfl,h1,h2⟩:=h;cases i with
  |zero=>simp at e;subst e;exact⟨x,rfl,h1⟩
  |succ i=>simp at e ⊢;exact h2.get e
def iy.Ob {E:Ev}:∀{vs:List D} {l:List ab},iy E.F vs l->gw E (vs.map .d) l
 |[],l,h=>by simp only[iy]at h;subst h;simp[gw]
 |v::vs,l,h=>by
  simp only[iy]at h;obtain⟨x,xs,rfl,h1,h2⟩:=h;simp only[jj,gw,VR];exact⟨_,_,rfl,h1,h2.Ob⟩
def oS {F:PH}:∀{ez:List (List D)} {l:List ab},BG F ez l↔∃xs r,l=xs++r/\iy F ez.flatten xs
 |[],l=>by simp only[BG,List.flatten_nil,true_iff,iy];exact⟨[],l,rfl,rfl⟩
 |el::ez,l=>by
  simp only[BG,A9];constructor
  ·rintro⟨l1,l2,rfl,h1,h2⟩;obtain⟨xs,r,rfl,h3⟩:=oS.1 h2;exact⟨l1++xs,r,by simp,h1.append h3⟩
  ·rintro⟨xs,r,rfl,h⟩;obtain⟨l1,l2,rfl,h1,h2⟩:=h.split;exact⟨l1,l2++r,by simp,h1,oS.2 ⟨l2,r,rfl,h2⟩⟩
def wJ {α:Type} {sz:Nat}:∀{ez:List (List α)},(∀el∈ez,el.length=sz)->ez.flatten.length=ez.length*sz
 |[],_=>by simp
 |el::ez,h=>by
  rw[A9,iv,h el iS,wJ (λe he=>h e (jc _ he)),iC,zq];omega
def rX {α:Type} {sz:Nat}:∀{ez:List (List α)} (i:Nat),(∀el∈ez,el.length=sz)->ez.flatten.drop (i*sz)=(ez.drop i).flatten
 |[],i,_=>by simp
 |el::ez,0,h=>by simp
 |el::ez,i+1,h=>by
  rw[A9,List.drop_succ_cons,<- rX i (λe he=>h e (jc _ he)),zq,Ih,<- Db];rw[show(el++ez.flatten).drop sz=ez.flatten by rw[<- h el iS,ba]]
def sM {α:Type} {sz:Nat}:∀{ez:List (List α)} (i:Nat),(∀el∈ez,el.length=sz)->ez.flatten.take (i*sz)=(ez.take i).flatten
 |[],i,_=>by simp
 |el::ez,0,h=>by simp
 |el::ez,i+1,h=>by
  rw[A9,ux,A9,<- sM i (λe he=>h e (jc _ he)),zq,Ih,List.take_append,h el iS];simp[h el iS];rw[mo (by rw[h el iS];omega)]
def zMd {α:Type} {sz:Nat} {ez:List (List α)} {i f n:Nat} {el:List α} (h:∀el∈ez,el.length=sz) (hi:ez[i]? =aq el) (hf:f+n<=sz):(ez.flatten.drop (i*sz+f)).take n=(el.drop f).take n:=by
 have hm:=ku hi;have gn:i<ez.length:=(jf.1 hi).1;rw[<- Db,rX i h];have:ez.drop i=el::ez.drop (i+1):=by
  rw[CD gn];congr 1;exact(jf.1 hi).2
 rw[this,A9,Hw (by rw[h el hm];omega),yw (by rw[o8,h el hm];omega)]
def okc:ab->Bool
 | .agg cs=>cs.toList.all (·.oh)
 | .tuple cs=>cs.toList.all (·.oh)
 |_=>au
def Dh (x:ab):V:=
 bif okc x then(match x with
 | .agg cs=> .agg (cs.toList.map λy=> .d (.v y))
 | .tuple cs=> .iZ (cs.toList.map λy=> .d (.v y))
 |x=> .d (.v x))else .top
def yOr {E:Ev}:∀{l:List ab},(l.all (·.oh))=au->gw E (l.map λy=> .d (.v y)) l
 |[],_=>by simp[gw]
 |y::l,h=>by
  simp only[List.all_cons,lj]at h;simp only[jj,gw,VR,DR];exact⟨y,l,rfl,⟨rfl,h.1⟩,yOr h.2⟩
def O4 (E:Ev) (x:ab):VR E (Dh x) x:=by
 unfold Dh;cases h:okc x
 ·simp[VR]
 ·cases x<;>simp only[cond_true,VR,DR]<;>first|exact⟨rfl,rfl⟩|exact⟨trivial,rfl⟩|(rename_i cs;exact⟨cs.toList,by simp,yOr h⟩)
@[reducible] def xD:=Nat->V
def ln (ρ:xD):aj->V
 | .tmp t=>ρ t
 | .const x=>Dh x
 | .func f=> .fn f [] []
 | .global _=> .top
def Bq (ρ:xD):Option Nat->V->xD
 |none,_=>ρ
 |some d,v=>λi=>bif bg i d then v else ρ i
def kx (E:Ev) (ρS:xD) (ρ:Env):Prop:=∀t,VR E (ρS t) (ρ t)
def kx.ev {E:Ev} {ρS:xD} {ρ:Env} (h:kx E ρS ρ) (x:aj):VR E (ln ρS x) (ev ρ x):=by
 cases x with
 |tmp t=>exact h t
 |const v=>exact O4 E v
 |func f=>simp only[ln,Cv.ev,VR];exact⟨[],[],rfl,gw.nil,gw.nil⟩
 |global g=>simp only[ln,VR]
def kx.put {E:Ev} {ρS:xD} {ρ:Env} (h:kx E ρS ρ) (d:Option Nat) {v:V} {y:ab} (hv:VR E v y):kx E (Bq ρS d v) (Cv.put ρ d y):=by
 cases d with
 |none=>exact h
 |some d=>
  intro t;simp only[Bq,Cv.put];cases bg t d
  ·exact h t
  ·exact hv
def kx.mono {E E':Ev} (h:E.le E') {ρS:xD} {ρ:Env} (e:kx E ρS ρ):kx E' ρS ρ:=λt=>(e t).mono h
def Dv (ρ:xD):List aj->List V
 |[]=>[]
 |x::l=>ln ρ x::Dv ρ l
def yLf {E:Ev} {ρS:xD} {ρ:Env} (h:kx E ρS ρ):∀(l:List aj),gw E (Dv ρS l) (l.map (ev ρ))
 |[]=>by simp[Dv,gw]
 |x::l=>by simp only[Dv,jj,gw];exact⟨_,_,rfl,h.ev x,yLf h l⟩
def aV {E:Ev} {ρS:xD} {ρ:Env} (h:kx E ρS ρ) (l:Array aj):∃ys:List ab,l.map (ev ρ)=ys.toArray/\gw E (Dv ρS l.toList) ys:=
 ⟨l.toList.map (ev ρ),by apply cz;simp,yLf h _⟩
def PT:List V->Option (List ab)
 |[]=>aq []
 | .d (.v x)::l=>match PT l with
   |some r=>aq (x::r)
   |none=>ar
 |_::_=>ar
def Hg:V->Option ab
 | .d (.v x)=>aq x
 | .agg l=>match PT l with
   |some r=>aq (.agg r.toArray)
   |none=>ar
 | .fn f [] []=>aq (.func (.func f) #[] #[])
 |_=>ar
def z4g {E:Ev}:∀{l:List V} {r ys:List ab},PT l=aq r->gw E l ys->ys=r
 |[],r,ys,h,e=>by simp only[PT,bc]at h;subst h;simpa only[gw]using e
 |v::l,r,ys,h,e=>by
  simp only[gw]at e;obtain⟨x,xs,rfl,h1,h2⟩:=e;unfold PT at h;split at h
  ·rename_i heq;cases heq
  ·rename_i x' l' heq;cases heq;simp only[VR,DR]at h1;split at h<;>first|(cases h;done)|skip
   rename_i r' hr;cases h;rw[h1.1,z4g hr h2]
  ·cases h
def tX {E:Ev} {v:V} {x y:ab} (h:Hg v=aq x) (e:VR E v y):y=x:=by
 unfold Hg at h;split at h
 ·cases h;simp only[VR,DR]at e;exact e.1
 ·rename_i l;split at h<;>first|(cases h;done)|skip
  rename_i r hr;cases h;simp only[VR]at e;obtain⟨ys,rfl,h2⟩:=e;rw[z4g hr h2]
 ·cases h;simp only[VR]at e;obtain⟨as,bs,rfl,h2,h3⟩:=e;simp only[gw]at h2 h3;subst h2 h3;rfl
 ·cases h
def Xz (ρ:xD):aj->Bool
 | .tmp t=>match Hg (ρ t)with
   |some _=>au
   |none=>av
 |_=>au
def WY (ρ:xD):List aj->Bool
 |[]=>au
 |x::l=>bif Xz ρ x then WY ρ l else av
def WM (ρ:xD):Env:=λt=>match Hg (ρ t)with
 |some x=>x
 |none=>undef
def y8l {E:Ev} {ρS:xD} {ρ:Env} (h:kx E ρS ρ) {x:aj} (hl:Xz ρS x=au):ev (WM ρS) x=ev ρ x:=by
 cases x with
 |tmp t=>
  simp only[Xz]at hl;split at hl<;>first|(cases hl;done)|skip
  rename_i y hy;simp only[Cv.ev,WM,hy];exact(tX hy (h t)).symm
 |_=>rfl
def yFm {E:Ev} {ρS:xD} {ρ:Env} (h:kx E ρS ρ):∀{l:List aj},WY ρS l=au->∀x∈l,ev (WM ρS) x=ev ρ x
 |[],_,x,hx=>by cases hx
 |y::l,hl,x,hx=>by
  simp only[WY]at hl;cases hy:Xz ρS y with
  |false=>rw[hy]at hl;cases hl
  |true=>
   rw[hy]at hl;rcases jq.1 hx with rfl|hx
   ·exact y8l h hy
   ·exact yFm h hl x hx
def Pa:Op->Bool
 | .binOp _ _ _ _ _=>au
 | .unOp _ _ _=>au
 | .convert _ _ _=>au
 | .index _ _ _=>au
 | .nilCheck _=>au
 | .slice _ _ _ _ ar=>au
 | .call {callee:= .builtin _,..}=>au
 |_=>av
def yIe {ρ ρ':Env} {o:am} (hp:Pa o.op=au) (h:∀x∈o.op.operands.toList,ev ρ x=ev ρ' x):af (ev ρ) o=af (ev ρ') o:=by
 obtain⟨dst,op,ty,pos,after,gd⟩:=o;cases op<;>simp only[Pa,oL]at hp
 case binOp a b x y c=>simp only[cn,jq,Fz,or_false,forall_eq_or_imp,forall_eq]at h;simp only[af,h]
 case unOp a b x=>simp only[cn,jq,Fz,or_false,forall_eq]at h;simp only[af,h]
 case convert a b x=>simp only[cn,jq,Fz,or_false,forall_eq]at h;simp only[af,h]
 case index a x y=>simp only[cn,jq,Fz,or_false,forall_eq_or_imp,forall_eq]at h;simp only[af,h]
 case nilCheck x=>simp only[cn,jq,Fz,or_false,forall_eq]at h;simp only[af,h]
 case slice a x lo hi mx=>
  cases mx with
  |some m=>simp[Pa]at hp
  |none=>
   have hl:lo.map (ev ρ)=lo.map (ev ρ'):=by
    cases lo with
    |none=>rfl
    |some z=>simp only[we];rw[h z (by simp[cn])]
   have hh:hi.map (ev ρ)=hi.map (ev ρ'):=by
    cases hi with
    |none=>rfl
    |some z=>simp only[we];rw[h z (by simp[cn])]
   simp only[af,hl,hh,h x (by simp[cn])];rfl
 case call c=>
  obtain⟨callee,args,ats⟩:=c;cases callee<;>simp only[Pa,oL]at hp
  have ha:args.map (ev ρ)=args.map (ev ρ'):=by
   apply Array.map_congr_left;intro x hx;exact h x (by simp[cn,Call.operands,hx])
  simp only[af,resolve,ha]
def Lk (P:ac) (t:ae) (x y:ab):Option Bool:=
 match P.underlying t with
 |some (.int _)=>match x with
  | .int k a=>match y with
    | .int k' b=>bif xa k k' then aq (a==b)else ar
    |_=>ar
  |_=>ar
 |some .string=>match x with
  | .string a=>match y with
    | .string b=>aq (a==b)
    |_=>ar
  |_=>ar
 |some .bool=>match x with
  | .bool a=>match y with
    | .bool b=>aq (a==b)
    |_=>ar
  |_=>ar
 |_=>ar
def Lp (P:ac) (xs ys:List ab):List Field->Option Bool
 |[]=>aq au
 | f :: fs => bif f.name == "_" then none else match xs[f.offset]?, ys[f.offset]? with
   |some x,aq y=>match Lk P f.type x y with
    |some a=>match Lp P xs ys fs with
     |some b=>aq (a && b)
     |none=>ar
    |none=>ar
   |_,_=>ar
def WK (P:ac) (f:Field) (xs ys:List ab):Option Bool:=
 match P.underlying f.type with
 |some (.struct gs)=>match EK P f.type with
  |some n=>bif P.stoodInHeld f.type then ar else Lp P ((xs.drop f.offset).take n) ((ys.drop f.offset).take n) gs.toList
  |none=>ar
 |_=>match xs[f.offset]?,ys[f.offset]? with
  |some x,aq y=>Lk P f.type x y
  |_,_=>ar
def Ni (P:ac) (xs ys:List ab):List Field->Option Bool
 |[]=>aq au
 | f :: fs => bif f.name == "_" then none else match WK P f xs ys with
   |some a=>match Ni P xs ys fs with
    |some b=>aq (a && b)
    |none=>ar
   |none=>ar
def yPg (P:ac) (t:ae) (xs ys:List ab):Option Bool:=
 match P.underlying t with
 |some (.struct fs)=>bif P.stoodInHeld t then ar else Ni P xs ys fs.toList
 |_=>ar
def Wc {P:ac} {t:ae} {x y:ab} {b:Bool} (h:Lk P t x y=aq b):Cw P t=au:=by
 unfold Lk at h;unfold Cw;split at h<;>first|(cases h;done)|skip
 all_goals(rename_i he;rw[he])
def z2y {P:ac} {t:ae} {x y:ab} {b:Bool} {d:Nat} (h:Lk P t x y=aq b) (w:ag):(co (d+1) t x y).run P w= .ok b w:=by
 unfold Lk at h;split at h<;>first|(cases h;done)|skip
 all_goals
  rename_i he;split at h<;>first|(cases h;done)|skip
  split at h<;>first|(cases h;done)|skip
  unfold co;simp only[bind,pure,run_bind,Cv.run_underlying he]
 ·obtain⟨hk,hb⟩:=y4 h;clear h;have:=zYh hk;subst this;cases hb;simp only[if_true,cf]
 ·cases h;rfl
 ·cases h;rfl
def U9 {P:ac} {t off:Nat} {cs:List ab} {v:ab} (hs:Cw P t=au) (h:cs[off]? =aq v) (w:ag):(part t cs.toArray off).run P w= .ok v w:=by
 unfold part;have:cs.toArray[off]? =aq v:=by simp[h]
 simp only[bind,run_bind,nZ hs w,oL,if_false,this];rfl
def zXl {P:ac} (w:ag) {xs ys:List ab} {σ:Type} {s0:σ} {fin:σ} {F:Field->σ->Sem (ForInStep σ)}
 (hF : ∀ f x y b, (f.name == "_") = false -> xs[f.offset]? = some x -> ys[f.offset]? = some y -> Lk P f.type x y = some b -> (F f s0).run P w = .ok (if b then .yield s0 else .done fin) w) :
 ∀{fs:List Field} {b:Bool},Lp P xs ys fs=aq b->((forIn fs s0 F):Sem σ).run P w= .ok (if b then s0 else fin) w
 |[],b,h=>by
  simp only[Lp,bc]at h;subst h;rfl
 |f::fs,b,h=>by
  simp only[Lp]at h;have hn : (f.name == "_") = false := by
   cases hb : (f.name == "_")
   ·rfl
   ·rw[hb]at h;cases h
  rw[hn]at h;simp only[cond_false]at h;split at h<;>first|(cases h;done)|skip
  rename_i x y hx hy;split at h<;>first|(cases h;done)|skip
  rename_i a ha;split at h<;>first|(cases h;done)|skip
  rename_i b' hb;cases h;have h1:=hF f x y a hn hx hy ha;have ih:=zXl (P:=P) w hF hb;simp only[List.forIn_cons,bind,run_bind,h1];cases a
  ·rfl
  ·simpa using ih
def zZl {P:ac} {t:ae} {fs:Array Field} {xs ys:List ab} {b:Bool} {d:Nat} (xw:P.underlying t=aq (.struct fs)) (kr:P.stoodInHeld t=av) (h:Lp P xs ys fs.toList=aq b) (w:ag):
 (co (d+2) t (.agg xs.toArray) (.agg ys.toArray)).run P w= .ok b w:=by
 unfold co;simp only[bind,pure,run_bind,Cv.run_underlying xw,program,cf,cg,kr,oL,if_false];rw[<- Array.forIn_toList];have := zXl (P := P) (xs := xs) (ys := ys) w (σ := Option Bool × Unit) (s0 := (none, ())) (fin := (some false, ())) (F := λf __s => if f.name ≠ "_" then
  (part f.type xs.toArray f.offset).bind λx=>(part f.type ys.toArray f.offset).bind λy=>(co (d+1) f.type x y).bind λc=>
    if(!c)=au then cm (ForInStep.done (aq av,()))else cm (ForInStep.yield (ar,()))
  else cm (ForInStep.yield (ar,()))) (by
  intro f x y c hn hx hy hc;have jr : f.name ≠ "_" := by simpa using hn
  simp only[jr,ne_eq,not_false_eq_true,if_true,run_bind,U9 (Wc hc) hx,U9 (Wc hc) hy,z2y (d:=d) hc];cases c<;>rfl) h
 rw[this];cases b<;>rfl
def zJk {P:ac} {t off n:Nat} {cs:List ab} (hs:EK P t=aq n) (w:ag):(part t cs.toArray off).run P w= .ok (.agg ((cs.drop off).take n).toArray) w:=by
 obtain⟨h1,h2⟩:=bV hs w;unfold part;have e:cs.toArray.extract off (off+n)=((cs.drop off).take n).toArray:=by
  rw[List.extract_toArray,List.extract_eq_take_drop];simp
 simp only[bind,pure,run_bind,h1,if_true,h2,cf,e]
def zTq {P:ac} (w:ag) {xs ys:List ab} {σ:Type} {s0:σ} {fin:σ} {F:Field->σ->Sem (ForInStep σ)}
 (hF : ∀ f b, (f.name == "_") = false -> WK P f xs ys = some b -> (F f s0).run P w = .ok (if b then .yield s0 else .done fin) w) :
 ∀{fs:List Field} {b:Bool},Ni P xs ys fs=aq b->((forIn fs s0 F):Sem σ).run P w= .ok (if b then s0 else fin) w
 |[],b,h=>by
  simp only[Ni,bc]at h;subst h;rfl
 |f::fs,b,h=>by
  simp only[Ni]at h;have hn : (f.name == "_") = false := by
   cases hb : (f.name == "_")
   ·rfl
   ·rw[hb]at h;cases h
  rw[hn]at h;simp only[cond_false]at h;split at h<;>first|(cases h;done)|skip
  rename_i a ha;split at h<;>first|(cases h;done)|skip
  rename_i b' hb;cases h;have h1:=hF f a hn ha;have ih:=zTq (P:=P) w hF hb;simp only[List.forIn_cons,bind,run_bind,h1];cases a
  ·rfl
  ·simpa using ih
def ySa {P:ac} {f:Field} {xs ys:List ab} {b:Bool} (h:WK P f xs ys=aq b) (w:ag):
 ∃x y,(part f.type xs.toArray f.offset).run P w= .ok x w/\(part f.type ys.toArray f.offset).run P w= .ok y w/\(co 9999 f.type x y).run P w= .ok b w:=by
 unfold WK at h;split at h
 ·rename_i gs hgs;split at h<;>first|(cases h;done)|skip
  rename_i n hn;have kr:P.stoodInHeld f.type=av/\Lp P ((xs.drop f.offset).take n) ((ys.drop f.offset).take n) gs.toList=aq b:=by
   revert h;cases P.stoodInHeld f.type<;>intro h
   ·exact⟨rfl,h⟩
   ·cases h
  exact⟨_,_,zJk hn w,zJk hn w,zZl (d:=9997) hgs kr.1 kr.2 w⟩
 ·split at h<;>first|(cases h;done)|skip
  rename_i x y hx hy;exact⟨x,y,U9 (Wc h) hx w,U9 (Wc h) hy w,z2y (d:=9998) h w⟩
def yKq {P:ac} {t:ae} {xs ys:List ab} {b:Bool} (h:yPg P t xs ys=aq b) (w:ag):(Op.equal t (.agg xs.toArray) (.agg ys.toArray)).run P w= .ok b w:=by
 unfold yPg at h;split at h<;>first|(cases h;done)|skip
 rename_i fs xw;have kr:P.stoodInHeld t=av/\Ni P xs ys fs.toList=aq b:=by
  revert h;cases P.stoodInHeld t<;>intro h
  ·exact⟨rfl,h⟩
  ·cases h
 rw[mU];unfold co;simp only[bind,pure,run_bind,Cv.run_underlying xw,program,cf,cg,kr.1,oL,if_false];rw[<- Array.forIn_toList];have := zTq (P := P) (xs := xs) (ys := ys) w (σ := Option Bool × Unit) (s0 := (none, ())) (fin := (some false, ())) (F := λf __s => if f.name ≠ "_" then
  (part f.type xs.toArray f.offset).bind λx=>(part f.type ys.toArray f.offset).bind λy=>(co 9999 f.type x y).bind λc=>
    if(!c)=au then cm (ForInStep.done (aq av,()))else cm (ForInStep.yield (ar,()))
  else cm (ForInStep.yield (ar,()))) (by
  intro f c hn hc;have jr : f.name ≠ "_" := by simpa using hn
  obtain⟨x,y,r1,r2,r3⟩:=ySa hc w;simp only[jr,ne_eq,not_false_eq_true,if_true,run_bind,r1,r2,r3];cases c<;>rfl) kr.2
 rw[this];cases b<;>rfl
def V.cl:V->List V
 | .agg l=>l
 |v=>[v]
def W3 (P:ac) (t:ae) (cs:List V) (off:Nat):Option V:=
 match EK P t with
 |some sz=>aq (.agg ((cs.drop off).take sz))
 |none=>bif Cw P t then cs[off]? else ar
def iF {α:Type} (x:Option α) (K:α->Prop):Prop:=
 match x with
 |some v=>K v
 |none=>False
def zN {α:Type} {x:Option α} {K:α->Prop} (h:iF x K):∃v,x=aq v/\K v:=by
 cases x with
 |none=>exact h.elim
 |some v=>exact⟨v,rfl,h⟩
def zNt {P:ac} {E:Ev} {t:ae} {cs:List V} {ys:List ab} {off:Nat} {v:V} (hr:gw E cs ys) (h:W3 P t cs off=aq v):∃y,VR E v y/\∀w,(part t ys.toArray off).run P w= .ok y w:=by
 unfold W3 at h;split at h
 ·rename_i sz hs;simp only[bc]at h;subst h;refine⟨.agg ((ys.drop off).take sz).toArray,?_,λw=> ?_⟩
  ·simp only[VR];exact⟨_,rfl,(hr.drop off).take sz⟩
  obtain⟨h1,h2⟩:=bV hs w;unfold part;simp only[bind,run_bind,h1,h2,if_true,pure,cf];congr 3;simp[List.extract_eq_take_drop]
 ·rename_i hs;obtain⟨hb,h⟩:=y4 h;obtain⟨y,h1,h2⟩:=hr.get h;refine⟨y,h2,λw=> ?_⟩;unfold part;have:ys.toArray[off]? =aq y:=by simp[h1]
  simp only[bind,run_bind,nZ hb w,oL,if_false,this];rfl
def Nj (place:Nat->Option (Nat×Nat)):List (Nat×V)->List V->Option (List V)
 |[],cs=>aq cs
 |(i,v)::rest,cs=>
  match place i with
  |none=>ar
  |some (off,size)=>bif bg v.cl.length size && bo (off+size) cs.length then Nj place rest (cs.take off++(v.cl++cs.drop (off+size)))else ar
def Cm (E:Ev):List (Nat×V)->List (Nat×ab)->Prop
 |[],l=>l=[]
 |(i,v)::ps,l=>∃y ys,l=(i,y)::ys/\VR E v y/\Cm E ps ys
def Jq:V->Bool
 | .top=>av
 |_=>au
def VR.cells {E:Ev} {v:V} {y:ab} (ht:Jq v=au) (h:VR E v y):∃l,y.cells=l.toArray/\gw E v.cl l:=by
 cases v
 case agg l=>simp only[VR]at h;obtain⟨ys,rfl,h⟩:=h;exact⟨ys,rfl,h⟩
 case top=>cases ht
 case d x=>
  have h0:=h;simp only[VR]at h;refine⟨[y],?_,gw.one h0⟩;cases x with
  |v x=>simp only[DR]at h;obtain⟨rfl,h⟩:=h;cases y<;>first|rfl|cases h
  |ro sz ez=>simp only[DR]at h;obtain⟨a,c,rfl,_⟩:=h;rfl
 case nm n o=>have h0:=h;simp only[VR]at h;obtain⟨b,oo,l,h1,rfl⟩:=h;exact⟨[_],rfl,gw.one h0⟩
 case el n sz i f=>have h0:=h;simp only[VR]at h;obtain⟨b,oo,m,c,l,h1,rfl⟩:=h;exact⟨[_],rfl,gw.one h0⟩
 case re sz ez i f=>have h0:=h;simp only[VR]at h;obtain⟨_,_,b,o,l,T,fr,rfl,_⟩:=h;exact⟨[_],rfl,gw.one h0⟩
 case na n o i=>have h0:=h;simp only[VR]at h;obtain⟨b,oo,l,h1,rfl⟩:=h;exact⟨[_],rfl,gw.one h0⟩
 case own n=>have h0:=h;simp only[VR]at h;obtain⟨l,h1,a,m,c,rfl⟩:=h;exact⟨[_],rfl,gw.one h0⟩
 case mp n=>have h0:=h;simp only[VR]at h;obtain⟨b,l,h1,rfl⟩:=h;exact⟨[_],rfl,gw.one h0⟩
 case sub n i=>have h0:=h;simp only[VR]at h;obtain⟨hd,l,b,oo,h1,h2,rfl⟩:=h;exact⟨[_],rfl,gw.one h0⟩
 case iZ l=>have h0:=h;simp only[VR]at h;obtain⟨ys,rfl,h⟩:=h;exact⟨[_],rfl,gw.one h0⟩
 case fn f a b=>have h0:=h;simp only[VR]at h;obtain⟨as,bs,rfl,h⟩:=h;exact⟨[_],rfl,gw.one h0⟩
 case zy t x=>have h0:=h;simp only[VR]at h;obtain⟨z,rfl,h⟩:=h;exact⟨[_],rfl,gw.one h0⟩
def Xk:List (Nat×V)->Bool
 |[]=>au
 |p::l=>bif Jq p.2 then Xk l else av
def zCa {E:Ev} {place:Nat->Option (Nat×Nat)}:∀{ps:List (Nat×V)} {cs r:List V} {qs:List (Nat×ab)} {ys:List ab},Xk ps=au->Nj place ps cs=aq r->Cm E ps qs->gw E cs ys->
 ∃zs,Instr.fill place ys.toArray qs=aq zs.toArray/\gw E r zs
 |[],cs,r,qs,ys,_,h,hp,hc=>by
  simp only[Nj,bc]at h;simp only[Cm]at hp;subst h hp;exact⟨ys,rfl,hc⟩
 |(i,v)::ps,cs,r,qs,ys,ht,h,hp,hc=>by
  simp only[Nj]at h;simp only[Cm]at hp;obtain⟨y,qs,rfl,hv,hp⟩:=hp;simp only[Xk]at ht;cases XR:Jq v<;>rw[XR]at ht<;>simp only[cond_false,cond_true,oL]at ht
  obtain⟨l,hl,Oq⟩:=VR.cells XR hv;split at h<;>first|(cases h;done)|skip
  rename_i off size yz;obtain⟨hb,h⟩:=y4 h;simp only[lj]at hb;have h1:=ja hb.1;have h2:=Cc hb.2;have e1:=Oq.length;have e2:=hc.length;have pf:y.cells.size=size:=by rw[hl,JL,e1,h1]
  have Iz:(decide (y.cells.size≠size)||decide (off+y.cells.size>ys.toArray.size))=av:=by
   rw[pf,JL];simp;omega
  have hc':gw E (cs.take off++(v.cl++cs.drop (off+size))) (ys.take off++(l++ys.drop (off+size))):=(hc.take off).append (Oq.append (hc.drop _));obtain⟨zs,q1,q2⟩:=zCa ht h hp hc';refine⟨zs,?_,q2⟩;simp only[Instr.fill,yz];have Gb:y.cells.zipIdx.foldl (λ(cs:Array ab) (p:ab×Nat)=>cs.setIfInBounds (off+p.2) p.1) ys.toArray=(ys.take off++(l++ys.drop (off+size))).toArray:=by
   have hz:l.toArray.zipIdx=(l.zipIdx).toArray:=by
    apply cz;simp
   rw[hl,hz,List.foldl_toArray];rw[ZD (off:=off) l 0 ys (by omega)];simp only[kj,Fw,e1,h1,iY]
  rw[eg (by rw[Iz];simp),Gb];exact q1
def rB (P:ac) (t:ae):Option ab:=
 match P.info? t with
 |some i=>i.zero
 |none=>ar
def yBy (P:ac) (t:ae) (ps:List (Nat×V)):Option V:=
 match rB P t with
 |some z=>bif Jq (Dh z) && Xk ps then(match yMw P t with
  |some pl=>match P6 pl with
   |some _=>match Nj (z1i pl) ps (Dh z).cl with
    |some cs=>aq (.agg cs)
    |none=>ar
   |none=>ar
  |none=>match UW P t with
   |some (_,_,sz)=>match Nj (λi=>aq (i*sz,sz)) ps (Dh z).cl with
    |some cs=>aq (.agg cs)
    |none=>ar
   |none=>ar)else ar
 |none=>ar
def cW {P:ac} {t:ae} {z:ab} (h:rB P t=aq z):zero? P t=aq z:=by
 unfold rB at h;unfold zero?;split at h
 ·rename_i i hi;rw[hi];exact h
 ·cases h
def zYy {P:ac} {E:Ev} {t:ae} {ps:List (Nat×V)} {qs:List (Nat×ab)} {v:V} (hp:Cm E ps qs) (h:yBy P t ps=aq v):
 ∃y,VR E v y/\∀w,(Instr.build t qs.toArray).run P w= .ok y w:=by
 unfold yBy at h;split at h<;>first|(cases h;done)|skip
 rename_i z hz;have ET:=λw=>lz (cW hz) w
 obtain⟨hb,h⟩:=y4 h;simp only[lj]at hb;obtain⟨zl,Dm,XE⟩:=VR.cells (E:=E) hb.1 (O4 E z);split at h
 ·rename_i pl yz;split at h<;>first|(cases h;done)|skip
  rename_i L hL;split at h<;>first|(cases h;done)|skip
  rename_i cs HL;simp only[bc]at h;subst h;have aaE:=zWe hL;subst aaE;unfold yMw at yz;split at yz<;>first|(cases yz;done)|skip
  rename_i fs xw;simp only[bc]at yz;have XO:(λi=>L.toArray[i]?)=z1i (L.map aq):=by
   funext i;unfold z1i;simp only[Bc,rf];cases L[i]? <;>rfl
  obtain⟨zs,hf,Oo⟩:=zCa hb.2 HL hp XE;refine⟨.agg zs.toArray,by simp only[VR];exact⟨zs,rfl,Oo⟩,λw=> ?_⟩;have hm:=zRd w yz;have hmA:((fs.mapM λf=>(do pure (f.offset,<- Go.sizeOf f.type):Sem (Nat×Nat))):Sem (Array (Nat×Nat))).run P w= .ok L.toArray w:=by
   rw[Array.mapM_eq_mapM_toList,map_eq_pure_bind];simp only[bind,pure,run_bind]at hm ⊢;rw[hm];rfl
  unfold Instr.build;simp only[bind]at hmA;simp only[bind,run_bind,ET,Cv.run_underlying xw,hmA,Dm,XO,hf];rfl
 ·split at h<;>first|(cases h;done)|skip
  rename_i n e sz J4;split at h<;>first|(cases h;done)|skip
  rename_i cs HL;simp only[bc]at h;subst h;obtain⟨i,h1,h2,rfl⟩:=zIw J4;obtain⟨zs,hf,Oo⟩:=zCa hb.2 HL hp XE;refine⟨.agg zs.toArray,by simp only[VR];exact⟨zs,rfl,Oo⟩,λw=> ?_⟩;unfold Instr.build;simp only[bind,run_bind,ET,Cv.run_underlying h1,run_sizeOf h2,Dm,hf];rfl
def K6 (ρ:xD):List (Nat×aj)->List (Nat×V)
 |[]=>[]
 |(i,x)::l=>(i,ln ρ x)::K6 ρ l
def VV {E:Ev} {ρS:xD} {ρ:Env} (h:kx E ρS ρ):∀(l:List (Nat×aj)),Cm E (K6 ρS l) (l.map λp=>(p.1,ev ρ p.2))
 |[]=>by simp[K6,Cm]
 |(i,x)::l=>by simp only[K6,jj,Cm];exact⟨_,_,rfl,h.ev x,VV h l⟩
def aO (P:ac) (t:ae):Bool:=
 match P.underlying t with
 |some (.interface _)=>au
 |none=>au
 |_=>av
def WZ:V->Bool
 | .nm _ _=>au
 | .el _ _ _ _=>au
 | .re _ _ _ _=>au
 | .sub _ _=>au
 |_=>av
def yFd {E:Ev} {v:V} {y:ab} (hp:WZ v=au) (h:VR E v y):∃a,y= .pointer (aq a):=by
 cases v<;>simp only[WZ,oL]at hp<;>simp only[VR]at h
 ·obtain⟨b,oo,l,h1,rfl⟩:=h;exact⟨_,rfl⟩
 ·obtain⟨b,oo,m,c,l,h1,rfl⟩:=h;exact⟨_,rfl⟩
 ·obtain⟨_,_,b,o,l,T,fr,rfl,_⟩:=h;exact⟨_,rfl⟩
 ·obtain⟨hd,l,b,oo,h1,h2,rfl⟩:=h;exact⟨_,rfl⟩
def Hf (ρ:xD):Option aj->Option (Option Int)
 |none=>aq ar
 |some x=>match ln ρ x with
  | .d (.v (.int _ n))=>aq (aq n)
  |_=>ar
def NL (sz:Nat) (ez:List (List D)) (lo hi:Option Int) (K:V->Prop):Prop:=
 match lo,hi with
 |none,ar=>K (.d (.ro sz ez))
 |some l,ar=>(0<=l/\l<=ez.length)/\K (.d (.ro sz (ez.drop l.toNat)))
 |none,aq h=>(0<=h/\h<=ez.length)/\K (.d (.ro sz (ez.take h.toNat)))
 |some l,aq h=>(0<=l/\l<=h/\h<=ez.length)/\K (.d (.ro sz ((ez.take h.toNat).drop l.toNat)))
def Ws:aj->Bool
 | .const (.slice ar 0 0)=>au
 |_=>av
def yBs (op:BinOp) (ez:List (List D)) (K:V->Prop):Prop:=
 ∀b:Bool,(b=au->ez=[])->match op with
  | .eql=>K (.d (.v (.bool b)))
  | .neq=>K (.d (.v (.bool !b)))
  |_=>False
def yAd:V->V->Bool
 | .nm n o,.nm m p=>bg n m && bg o p
 |_,_=>av
def W8 (P:ac) (t:ae):Bool:=
 match P.underlying t with
 |some (.pointer e)=>(pY P e).isSome
 |_=>av
def z7w {P:ac} {t:ae} (h:W8 P t=au):∃e i,P.underlying t=aq (.pointer e)/\P.info? e=aq i:=by
 unfold W8 at h;split at h<;>first|(cases h;done)|skip
 rename_i e he;unfold pY at h;split at h<;>first|(cases h;done)|skip
 rename_i i hi;exact⟨e,i,he,hi⟩
def yKn {E:Ev} {u v:V} {x y:ab} (h:yAd u v=au) (hx:VR E u x) (hy:VR E v y):∃a,x= .pointer (aq a)/\y= .pointer (aq a):=by
 unfold yAd at h;split at h<;>first|(cases h;done)|skip
 simp only[lj]at h;have h1:=ja h.1;have h2:=ja h.2;subst h1 h2;simp only[VR]at hx hy;obtain⟨b,oo,l,e1,rfl⟩:=hx;obtain⟨b',oo',l',e2,rfl⟩:=hy;rw[e1]at e2;cases e2;exact⟨_,rfl,rfl⟩
def zOo {P:ac} {t:ae} (h:W8 P t=au) (a:ao) (w:ag):(Op.equal t (.pointer (aq a)) (.pointer (aq a))).run P w= .ok au w:=by
 obtain⟨e,i,h1,h2⟩:=z7w h;rw[mU];generalize 9999=d;unfold co;simp only[bind,pure,Cv.run_bind,Cv.run_underlying h1,Cv.run_sizeOf h2];split
 ·simp only[sameAddr,bind,pure,beq_self_eq_true,if_true];rfl
 ·simp only[beq_self_eq_true,if_true];rfl
def mpV (P:ac) (t:ae) (v:V) (y:aj):Bool:=
 match v,y with
 | .mp _,.const (.map ar)=>(match P.underlying t with
   |some (.map _ _)=>au
   |_=>av)
 |_,_=>av
def yLg {P:ac} {t:ae} {v:V} {y:aj} (h:mpV P t v y=au):(∃n,v= .mp n)/\y= .const (.map ar)/\∃a b,P.underlying t=aq (.map a b):=by
 unfold mpV at h;split at h<;>first|(cases h;done)|skip
 rename_i n;split at h<;>first|(cases h;done)|skip
 rename_i a b hu;exact⟨⟨n,rfl⟩,rfl,a,b,hu⟩
def EP (P:ac) (o:am) (ρ:xD) (K:V->Prop):Prop:=
 bif Pa o.op then(bif WY ρ o.op.operands.toList then bM P o (WM ρ) (λx=>K (Dh x))else False)else False
def sq (P:ac) (o:am) (ρ:xD) (K:V->Prop):Prop:=
 match o.op with
 | .move x=>K (ln ρ x)
 | .assign x=>K (ln ρ x)
 | .pick c a b=>match ln ρ c with
   | .d (.v (.bool t))=>dp t (K (ln ρ a)) (K (ln ρ b))
   |_=>False
 | .nilCheck x=>bif WZ (ln ρ x)then K (ln ρ x)else EP P o ρ K
 | .fieldAddr s x f=>iF (ZE P s f) λoff=>match ln ρ x with
   | .nm n o=>K (.nm n (o+off))
   | .el n sz i g=>K (.el n sz i (g+off))
   | .re sz ez i g=>K (.re sz ez i (g+off))
   |_=>False
 | .indexAddr t x i=>match ln ρ i with
   | .d (.v (.int _ i))=>match ln ρ x with
     | .d (.ro sz ez)=>iF (gU P t) λoA=>bif bg sz oA then(0<=i/\i<ez.length)/\K (.re sz ez i.toNat 0)else False
     | .nm n o=>iF (aU P t) λns=>bif bo 32 ns.1 && bg ns.2 1 then(0<=i/\i<ns.1)/\K (.na n o i.toNat)else iF (K3 i ns.1) λj=>K (.nm n (o+j*ns.2))
     | .el n sz k g=>iF (aU P t) λns=>iF (K3 i ns.1) λj=>K (.el n sz k (g+j*ns.2))
     | .re sz ez k g=>iF (aU P t) λns=>iF (K3 i ns.1) λj=>K (.re sz ez k (g+j*ns.2))
     |_=>False
   |_=>False
 | .index t x i=>match ln ρ x with
   | .agg cs=>match ln ρ i with
     | .d (.v (.int _ i))=>iF (UW P t) λns=>iF (K3 i ns.1) λj=>iF (W3 P ns.2.1 cs (j*ns.2.2)) K
     |_=>False
   |_=>EP P o ρ K
 | .field t x f=>match ln ρ x with
   | .agg cs=>iF (ZJ P t f) λfo=>iF (W3 P fo.1 cs fo.2) K
   |_=>False
 | .extract x i=>match ln ρ x with
   | .iZ l=>iF l[i]? K
   |_=>False
 | .build t ps=>iF (yBy P t (K6 ρ ps.toList)) K
 | .makeFunc (.func f) a b=>K (.fn f (Dv ρ a.toList) (Dv ρ b.toList))
 | .makeInterface t x=>bif aO P t then False else K (.zy t (ln ρ x))
 | .typeAssert x _ a av=>bif aO P a then False else(match ln ρ x with
   | .zy t v=>bif bg t a then K v else False
   |_=>False)
 | .typeAssert x _ a au=>bif aO P a then False else(match ln ρ x with
   | .zy t v=>bif bg t a then K (.iZ [v,.d (.v (.bool au))])else iF (rB P a) λz=>K (.iZ [Dh z,.d (.v (.bool av))])
   | .d (.v .nilIface)=>iF (rB P a) λz=>K (.iZ [Dh z,.d (.v (.bool av))])
   |_=>False)
 | .binOp op t x y _=>bif yAd (ln ρ x) (ln ρ y) && W8 P t then(match op with
    | .eql=>K (.d (.v (.bool au)))
    | .neq=>K (.d (.v (.bool av)))
    |_=>False)else bif mpV P t (ln ρ x) y then(match op with
    | .eql=>K (.d (.v (.bool av)))
    | .neq=>K (.d (.v (.bool au)))
    |_=>False)else bif WZ (ln ρ x) && Uv P t && O9 y then(match op with
    | .eql=>K (.d (.v (.bool av)))
    | .neq=>K (.d (.v (.bool au)))
    |_=>False)else bif Ws y && HX P t then(match ln ρ x with
     | .d (.ro _ ez)=>yBs op ez K
     |_=>EP P o ρ K)else match Hg (ln ρ x)with
    |some (.agg xs)=>match Hg (ln ρ y)with
     |some (.agg ys)=>bif P.eqGuardType P.depth t then False else iF (yPg P t xs.toList ys.toList) λb=>match op with
      | .eql=>K (.d (.v (.bool b)))
      | .neq=>K (.d (.v (.bool !b)))
      |_=>False
     |_=>False
    |_=>EP P o ρ K
 | .call c=>match c.callee with
   | .builtin .len=>match Dv ρ c.args.toList with
     |[.d (.ro _ ez)]=>iF c.argTypes[0]? λt=>bif HX P t then K (.d (.v (.int .i64 ez.length)))else False
     |_=>EP P o ρ K
   | .builtin .min=>match Dv ρ c.args.toList with
     |[.d (.v (.int k x)),.d (.v (.int _ y))]=>K (.d (.v (.int k (min x y))))
     |[.d (.v (.int k x)),.d (.v (.int _ y)),.d (.v (.int _ z))]=>K (.d (.v (.int k (min (min x y) z))))
     |_=>EP P o ρ K
   |_=>EP P o ρ K
 | .slice t x lo hi ar=>match ln ρ x with
   | .d (.ro sz ez)=>iF (gU P t) λoA=>bif bg sz oA then EE (Hf ρ lo) (Hf ρ hi) λl h=>NL sz ez l h K else False
   |_=>EP P o ρ K
 | .unOp _ _ _=>EP P o ρ K
 | .convert _ _ _=>EP P o ρ K
 |_=>False
def dY {b:Bool} {A B:Prop} (h:bif b then A else B):(b=au/\A)\/(b=av/\B):=by
 cases b
 ·exact .inr ⟨rfl,h⟩
 ·exact .inl ⟨rfl,h⟩
def yCg {b:Bool} {A B:Prop} (h:dp b A B):(b=au/\A)\/(b=av/\B):=by
 cases b
 ·exact .inr ⟨rfl,h⟩
 ·exact .inl ⟨rfl,h⟩
def y5j (P:ac) (E:Ev) (o:am) (ρ:Env) (K:V->Prop):Prop:=∃v y,K v/\VR E v y/\Fj P (af (ev ρ) o) y
def uE {P:ac} {E:Ev} {ρS:xD} {ρ:Env} (he:kx E ρS ρ) {o:am} {K:V->Prop} (h:EP P o ρS K):y5j P E o ρ K:=by
 unfold EP at h;obtain⟨hp,h⟩:=zM h;obtain⟨hl,h⟩:=zM h;obtain⟨y,hk,hf⟩:=fV h;exact⟨_,y,hk,O4 E y,by rw[<- yIe hp (yFm he hl)];exact hf⟩
def VR.Ep {E:Ev} {k:ap} {i:Int} {y:ab} (h:VR E (.d (.v (.int k i))) y):y= .int k i:=by
 simp only[VR,DR]at h;exact h.1
def wM {E:Ev} {x:ab} (h:x.oh=au):VR E (.d (.v x)) x:=by
 simp only[VR,DR];exact⟨trivial,h⟩
def dD {E:Ev} {ρS:xD} {ρ:Env} (he:kx E ρS ρ) {x:Option aj} {r:Option Int} (h:Hf ρS x=aq r):Dz ρ x=aq r:=by
 cases x with
 |none=>exact h
 |some x=>
  simp only[Hf]at h;split at h<;>first|(cases h;done)|skip
  rename_i k n hx;have:=he.ev x;rw[hx]at this;simp only[Dz,this.Ep];exact h
def DR.F4 {F:PH} {sz lo hi:Nat} {ez:List (List D)} {a:Option ao} {c:Nat} (h:DR F (.ro sz ez) (.slice a ez.length c)) (h1:lo<=hi) (h2:hi<=ez.length):
 DR F (.ro sz ((ez.take hi).drop lo)) (.slice (if c=lo then a else a.map (·.add (lo*sz))) (hi-lo) (c-lo)):=by
 simp only[DR]at h ⊢;obtain⟨a',c',e,hc,hs,hm⟩:=h;cases e;have hlen:((ez.take hi).drop lo).length=hi-lo:=by rw[o8,ng];omega
 refine⟨_,c-lo,by rw[hlen],by rw[hlen];omega,λel oV=>hs el (N8 (JQ oV)),?_⟩;by_cases h0:lo=hi
 ·left;exact xu (by omega)
 ·right;rcases hm with hm|⟨b,o,l,T,fr,rfl,h4,h5⟩
  ·subst hm;simp at h2;omega
  ·refine⟨b,o+lo*sz,l,T,fr,?_,h4,?_⟩
   ·rw[eg (by omega)];simp[uR]
   ·obtain⟨xs,r,e,hx⟩:=oS.1 h5;refine oS.2 ⟨(xs.drop (lo*sz)).take ((hi-lo)*sz),(xs.drop (lo*sz)).drop ((hi-lo)*sz)++r,?_,?_⟩
    ·rw[<- iY,Bb,<- Db,e,Hw];rw[hx.length,wJ hs];exact xj _ (by omega)
    ·have:=(hx.drop (lo*sz)).take ((hi-lo)*sz);rw[rX lo hs,sM (hi-lo) (λel oV=>hs el (JQ oV)),List.take_drop]at this;rw[show lo+(hi-lo)=hi by omega]at this;exact this
def DR.Gp {F:PH} {sz:Nat} {ez:List (List D)} {y:ab} (h:DR F (.ro sz ez) y) {lo hi:Option Int} {K:V->Prop} (hk:NL sz ez lo hi K):
 ∃a c v,y= .slice a ez.length c/\K v/\tr a ez.length c lo hi sz λp n c=>∀E:Ev,E.F=F->VR E v (.slice p n c):=by
 have h0:=h;simp only[DR]at h0;obtain⟨a,c,rfl,hc,_⟩:=h0;unfold NL at hk;split at hk
 ·exact⟨a,c,_,rfl,hk,by simp only[tr];exact⟨hc,λE hE=>by subst hE;simpa only[VR]using h⟩⟩
 ·rename_i l;obtain⟨⟨h1,h2⟩,hk⟩:=hk;refine⟨a,c,_,rfl,hk,?_⟩;simp only[tr];refine⟨⟨h1,h2,hc⟩,λE hE=> ?_⟩;subst hE;have:=h.F4 (lo:=l.toNat) (hi:=ez.length) (by omega) (lh _);rw[mo (lh _)]at this;simpa only[VR]using this
 ·rename_i u;obtain⟨⟨h1,h2⟩,hk⟩:=hk;refine⟨a,c,_,rfl,hk,?_⟩;simp only[tr];refine⟨⟨h1,by omega⟩,λE hE=> ?_⟩;subst hE;have:=h.F4 (lo:=0) (hi:=u.toNat) (by omega) (by omega);simp only[bu,eV,ite_self,Nat.sub_zero,Ea]at this;simpa only[VR]using this
 ·rename_i l u;obtain⟨⟨h1,h2,h3⟩,hk⟩:=hk;refine⟨a,c,_,rfl,hk,?_⟩;simp only[tr];refine⟨⟨h1,h2,by omega⟩,λE hE=> ?_⟩;subst hE;have:=h.F4 (lo:=l.toNat) (hi:=u.toNat) (by omega) (by omega);simpa only[VR]using this
def z2s {p:Option ao} {n c:Nat} {lo hi:Option Int} {sz:Nat} {K K':Option ao->Nat->Nat->Prop} (h:∀p n c,K p n c->K' p n c) (hk:tr p n c lo hi sz K):tr p n c lo hi sz K':=by
 unfold tr at*;cases lo<;>cases hi<;>exact⟨hk.1,h _ _ _ hk.2⟩
def zQj {P:ac} {t:ae} (h:Uv P t=au) (a:ao):cR P t (.pointer (aq a))=aq av:=by
 obtain⟨e,he⟩:=z4y h;unfold cR;rw[he];rfl
def yIf {y:aj} (h:O9 y=au):y= .const (.pointer ar):=by
 unfold O9 at h;split at h
 ·rfl
 ·cases h
def zUr {P:ac} {E:Ev} {ρ:Env} {o:am} {op:BinOp} {t u:ae} {x y:aj} {ez:List (List D)} {K:V->Prop} {a:Option ao} {n c:Nat} (ho:o.op= .binOp op t x y u) (hy:Ws y=au) (ht:HX P t=au)
 (hx:ev ρ x= .slice a n c) (ha:a=ar->ez=[]) (h:yBs op ez K):y5j P E o ρ K:=by
 have ph:y= .const (.slice ar 0 0):=by
  unfold Ws at hy;split at hy
  ·rfl
  ·cases hy
 subst ph;obtain⟨e,he⟩:=tH ht;have hn:cR P t (.slice a n c)=aq a.isNone:=by unfold cR;rw[he]
 have hk:=h a.isNone (λhb=>ha (by simpa using hb));split at hk<;>first|exact hk.elim|skip
 ·refine⟨_,.bool a.isNone,hk,wM rfl,?_⟩;have:=x4 (P:=P) (neg:=av) (r:=a.isNone) (ρ:=ρ) ho (by rw[hx];trivial) trivial (λw=>by rw[hx];exact xC trivial w) (λw=>by rw[hx];exact fG hn w);simpa using this
 ·refine⟨_,.bool (!a.isNone),hk,wM rfl,?_⟩;have:=x4 (P:=P) (neg:=au) (r:=a.isNone) (ρ:=ρ) ho (by rw[hx];trivial) trivial (λw=>by rw[hx];exact xC trivial w) (λw=>by rw[hx];exact fG hn w);simpa using this
def z4x {P:ac} {E:Ev} {ρS:xD} {ρ:Env} (he:kx E ρS ρ) {o:am} {K:V->Prop} (h:sq P o ρS K):y5j P E o ρ K:=by
 cases ho:o.op
 case move x=>simp only[sq,ho]at h;exact⟨_,_,h,he.ev x,λw=>by simp only[af,ho];rfl⟩
 case assign x=>simp only[sq,ho]at h;exact⟨_,_,h,he.ev x,λw=>by simp only[af,ho];rfl⟩
 case pick c a b=>
  simp only[sq,ho]at h;split at h<;>first|exact h.elim|skip
  rename_i t hc;have hv:=he.ev c;rw[hc]at hv;simp only[VR,DR]at hv;rcases yCg h with⟨rfl,h⟩|⟨rfl,h⟩
  ·exact⟨_,_,h,he.ev a,λw=>by simp only[af,ho,hv.1,asBool,bind,pure,cg,cf];rfl⟩
  ·exact⟨_,_,h,he.ev b,λw=>by simp only[af,ho,hv.1,asBool,bind,pure,cg,cf];rfl⟩
 case nilCheck x=>
  simp only[sq,ho]at h;rcases dY h with⟨hp,h⟩|⟨_,h⟩
  ·obtain⟨a,ha⟩:=yFd hp (he.ev x);exact⟨_,_,h,he.ev x,λw=>by simp only[af,ho,ha];rfl⟩
  ·exact uE he h
 case fieldAddr s x f=>
  simp only[sq,ho]at h;obtain⟨off,hf,h⟩:=zN h;obtain⟨fs,fd,i,h1,h2,h3,h4,rfl⟩:=zVn hf;have hv:=he.ev x;have run:∀b oo,ev ρ x= .pointer (aq ⟨b,oo,ar⟩)->Fj P (af (ev ρ) o) (.pointer (aq ⟨b,oo+fd.offset,ar⟩)):=by
   intro b oo hx;simp only[af,ho,hx];refine yG λw=> ?_
   simp only[Instr.fieldAt,Instr.sureAddr,fieldPlace,bind,pure,run_bind,cg,cf,Cv.run_underlying h1,h2,run_sizeOf h3,eg h4,uR]
  split at h<;>first|exact h.elim|skip
  ·rename_i n o' hx;rw[hx]at hv;simp only[VR]at hv;obtain⟨b,oo,l,e1,e2⟩:=hv;exact⟨_,_,h,by simp only[VR];exact⟨b,oo,l,e1,rfl⟩,by have:=run _ _ e2;rw[D']at this;exact this⟩
  ·rename_i n sz i g hx;rw[hx]at hv;simp only[VR]at hv;obtain⟨b,oo,m,c,l,e1,e2⟩:=hv;exact⟨_,_,h,by simp only[VR];exact⟨b,oo,m,c,l,e1,rfl⟩,by have:=run _ _ e2;rw[D' _ g]at this;exact this⟩
  ·rename_i sz ez i g hx;rw[hx]at hv;simp only[VR]at hv;obtain⟨e0,e1,b,oo,l,T,fr,e2,e3,e4⟩:=hv;exact⟨_,_,h,by simp only[VR];exact⟨e0,e1,b,oo,l,T,fr,rfl,e3,e4⟩,by have:=run _ _ e2;rw[D' _ g]at this;exact this⟩
 case indexAddr t x i=>
  simp only[sq,ho]at h;split at h<;>first|exact h.elim|skip
  rename_i k i' hi;have Be:=he.ev i;rw[hi]at Be;have Be:=Be.Ep;have hv:=he.ev x;have arr:∀{b oo:Nat} {ns:Nat×Nat} {j:Nat},aU P t=aq ns->K3 i' ns.1=aq j->ev ρ x= .pointer (aq ⟨b,oo,ar⟩)->Fj P (af (ev ρ) o) (.pointer (aq ⟨b,oo+j*ns.2,ar⟩)):=by
   intro b oo ns j pf hj hx;obtain⟨rfl,gn⟩:=zSq hj;simp only[af,ho,hx,Be];refine yG λw=> ?_
   rw[cC pf ⟨by omega,by omega⟩,uR];simp
  split at h<;>first|exact h.elim|skip
  ·rename_i sz ez hx;obtain⟨oA,hs,h⟩:=zN h;obtain⟨hb,⟨h0,h1⟩,hk⟩:=zM h;have:=ja hb;subst this;rw[hx]at hv;simp only[VR,DR]at hv;obtain⟨a,c,e1,e2,e3,e4⟩:=hv;rcases e4 with e4|⟨b,oo,l,T,fr,rfl,e5,e6⟩
   ·subst e4;simp at h1;omega
   refine⟨_,.pointer (aq ⟨b,oo+i'.toNat*sz,ar⟩),hk,?_,?_⟩
   ·simp only[VR];exact⟨by omega,e3,b,oo,l,T,fr,rfl,e5,e6⟩
   ·simp only[af,ho,e1,Be];refine yG λw=> ?_
    rw[wK hs ⟨h0,by omega⟩,uR]
  ·rename_i n o' hx;obtain⟨ns,hs,h⟩:=zN h;rcases dY h with⟨hb,⟨h0,h1⟩,h⟩|⟨_,h⟩
   ·simp only[lj]at hb;have my:=ja hb.2;rw[hx]at hv;simp only[VR]at hv;obtain⟨b,oo,l,e1,e2⟩:=hv;refine⟨_,.pointer (aq ⟨b,oo+(o'+i'.toNat),ar⟩),h,by simp only[VR];exact⟨b,oo,l,e1,rfl⟩,?_⟩;simp only[af,ho,e2,Be];refine yG λw=> ?_
    rw[cC hs ⟨h0,h1⟩,uR,my,Nat.mul_one,D']
   obtain⟨j,hj,h⟩:=zN h;rw[hx]at hv;simp only[VR]at hv;obtain⟨b,oo,l,e1,e2⟩:=hv;exact⟨_,_,h,by simp only[VR];exact⟨b,oo,l,e1,rfl⟩,by have:=arr hs hj e2;rw[D']at this;exact this⟩
  ·rename_i n sz i g hx;obtain⟨ns,hs,h⟩:=zN h;obtain⟨j,hj,h⟩:=zN h;rw[hx]at hv;simp only[VR]at hv;obtain⟨b,oo,m,c,l,e1,e2⟩:=hv;exact⟨_,_,h,by simp only[VR];exact⟨b,oo,m,c,l,e1,rfl⟩,by have:=arr hs hj e2;rw[D' _ g]at this;exact this⟩
  ·rename_i sz ez i g hx;obtain⟨ns,hs,h⟩:=zN h;obtain⟨j,hj,h⟩:=zN h;rw[hx]at hv;simp only[VR]at hv;obtain⟨e0,e1,b,oo,l,T,fr,e2,e3,e4⟩:=hv;exact⟨_,_,h,by simp only[VR];exact⟨e0,e1,b,oo,l,T,fr,rfl,e3,e4⟩,by have:=arr hs hj e2;rw[D' _ g]at this;exact this⟩
 case index t x i=>
  simp only[sq,ho]at h;split at h
  ·rename_i cs hx;split at h<;>first|exact h.elim|skip
   rename_i k i' hi;obtain⟨⟨n,e,sz⟩,hs,h⟩:=zN h;obtain⟨j,hj,h⟩:=zN h;obtain⟨v,hp,hk⟩:=zN h;have Be:=he.ev i;rw[hi]at Be;have Be:=Be.Ep;have hv:=he.ev x;rw[hx]at hv;simp only[VR]at hv;obtain⟨ys,e1,e2⟩:=hv;obtain⟨y,hy,hr⟩:=zNt e2 hp;obtain⟨rfl,gn⟩:=zSq hj;obtain⟨inf,q1,q2,q3⟩:=zIw hs;refine⟨v,y,hk,hy,?_⟩;simp only[af,ho,e1,Be];refine yG λw=> ?_
   have hb:(0:Int)<=(j:Int)/\(j:Int)<n:=⟨by omega,by omega⟩
   simp only[Instr.index,asIntOf,bind,pure,run_bind,cg,cf,Cv.run_underlying q1,fc hb,run_sizeOf q2,q3];exact hr w
  ·exact uE he h
 case field t x f=>
  simp only[sq,ho]at h;split at h<;>first|exact h.elim|skip
  rename_i cs hx;obtain⟨⟨ft,off⟩,hf,h⟩:=zN h;obtain⟨v,hp,hk⟩:=zN h;have hv:=he.ev x;rw[hx]at hv;simp only[VR]at hv;obtain⟨ys,e1,e2⟩:=hv;obtain⟨y,hy,hr⟩:=zNt e2 hp;obtain⟨fs,fd,h1,h2,rfl,rfl⟩:=zUx hf;refine⟨v,y,hk,hy,?_⟩;simp only[af,ho,e1];refine yG λw=> ?_
  simp only[Instr.field,asAgg,bind,pure,run_bind,cg,cf,Cv.run_underlying h1,h2];exact hr w
 case extract x i=>
  simp only[sq,ho]at h;split at h<;>first|exact h.elim|skip
  rename_i l hx;obtain⟨v,hl,h⟩:=zN h;have hv:=he.ev x;rw[hx]at hv;simp only[VR]at hv;obtain⟨ys,e1,e2⟩:=hv;obtain⟨y,hy,hr⟩:=e2.get hl;refine⟨v,y,h,hr,?_⟩;simp only[af,ho,e1];refine yG λw=> ?_
  have:ys.toArray[i]? =aq y:=by simp[hy]
  simp only[Instr.extract,this];rfl
 case build t ps=>
  simp only[sq,ho]at h;obtain⟨v,hb,h⟩:=zN h;obtain⟨y,hy,hr⟩:=zYy (VV he ps.toList) hb;refine⟨v,y,h,hy,?_⟩;simp only[af,ho];refine yG λw=> ?_
  have:(ps.map λ(i,x)=>(i,ev ρ x))=(ps.toList.map λp=>(p.1,ev ρ p.2)).toArray:=by
   apply cz;simp
  rw[this];exact hr w
 case makeFunc fn a b=>
  cases fn<;>simp only[sq,ho]at h
  rename_i f;obtain⟨as,e1,e2⟩:=aV he a;obtain⟨bs,e3,e4⟩:=aV he b;refine⟨_,.func (.func f) as.toArray bs.toArray,h,by simp only[VR];exact⟨as,bs,rfl,e2,e4⟩,?_⟩;simp only[af,ho,e1,e3];exact yG λw=>rfl
 case makeInterface t x=>
  simp only[sq,ho]at h;obtain⟨hb,h⟩:aO P t=av/\K (.zy t (ln ρS x)):=by
   revert h;cases aO P t<;>intro h
   ·exact⟨rfl,h⟩
   ·exact h.elim
  refine⟨_,.iface t (ev ρ x),h,by simp only[VR];exact⟨_,rfl,he.ev x⟩,?_⟩;simp only[af,ho];refine yG λw=> ?_
  unfold aO at hb;cases hd:P.underlying t with
  |none=>rw[hd]at hb;cases hb
  |some d=>
   rw[hd]at hb;unfold Instr.makeInterface;simp only[bind,run_bind,Cv.run_underlying hd];cases d<;>first|rfl|cases hb
 case typeAssert x xt a ok=>
  cases ok with
  |true=>
   simp only[sq,ho]at h;obtain⟨hb,h⟩:aO P a=av/\(match ln ρS x with
    | .zy t v=>bif bg t a then K (.iZ [v,.d (.v (.bool au))])else iF (rB P a) λz=>K (.iZ [Dh z,.d (.v (.bool av))])
    | .d (.v .nilIface)=>iF (rB P a) λz=>K (.iZ [Dh z,.d (.v (.bool av))])
    |_=>False):=by
    revert h;cases aO P a<;>intro h
    ·exact⟨rfl,h⟩
    ·exact h.elim
   have jr:∃d,P.underlying a=aq d/\∀ms,d≠.interface ms:=by
    unfold aO at hb;split at hb<;>first|(cases hb;done)|skip
    rename_i Mo Ew;cases hu:P.underlying a with
    |none=>exact absurd hu Ew
    |some d=>exact⟨d,rfl,λms e=>Mo ms (by rw[hu,e])⟩
   obtain⟨d,hu,hd⟩:=jr;have KJ:∀z,rB P a=aq z->VR E (.iZ [Dh z,.d (.v (.bool av))]) (.tuple #[z,.bool av]):=λz hz=>by
    simp only[VR,gw,DR];exact⟨[z,.bool av],rfl,_,_,rfl,O4 E z,_,_,rfl,⟨rfl,rfl⟩,rfl⟩
   split at h<;>first|exact h.elim|skip
   ·rename_i t v hx;have hv:=he.ev x;rw[hx]at hv;simp only[VR]at hv;obtain⟨z,e1,e2⟩:=hv;rcases dY h with⟨ht,hk⟩|⟨ht,hk⟩
    ·have:=ja ht;subst this;refine⟨_,.tuple #[z,.bool au],hk,?_,?_⟩
     ·simp only[VR,gw,DR];exact⟨[z,.bool au],rfl,_,_,rfl,e2,_,_,rfl,⟨rfl,rfl⟩,rfl⟩
     ·simp only[af,ho,e1];refine yG λw=> ?_
      simp only[cd,bind,run_bind,Cv.run_underlying hu];cases d<;>first|rfl|exact absurd rfl (hd _)|(simp only[if_true];rfl)
    ·obtain⟨z0,hz,hk⟩:=zN hk;have hta:¬t=a:=λe=>by subst e;rw[Nat.beq_refl]at ht;cases ht
     refine⟨_,.tuple #[z0,.bool av],hk,KJ z0 hz,?_⟩;simp only[af,ho,e1];refine yG λw=> ?_
     simp only[cd,bind,run_bind,Cv.run_underlying hu];cases d<;>first|exact absurd rfl (hd _)|(simp only[eg hta,if_true,bind,run_bind,Cv.lz (cW hz) w];rfl)
   ·rename_i hx;have hv:=he.ev x;rw[hx]at hv;simp only[VR,DR]at hv;obtain⟨z0,hz,hk⟩:=zN h;refine⟨_,.tuple #[z0,.bool av],hk,KJ z0 hz,?_⟩;simp only[af,ho,hv.1];refine yG λw=> ?_
    simp only[cd,bind,run_bind,Cv.run_underlying hu];cases d<;>first|exact absurd rfl (hd _)|(simp only[if_true,bind,run_bind,Cv.lz (cW hz) w];rfl)
  |false=>
   simp only[sq,ho]at h;obtain⟨hb,h⟩:aO P a=av/\(match ln ρS x with
    | .zy t v=>bif bg t a then K v else False
    |_=>False):=by
    revert h;cases aO P a<;>intro h
    ·exact⟨rfl,h⟩
    ·exact h.elim
   split at h<;>first|exact h.elim|skip
   rename_i t v hx;obtain⟨ht,hk⟩:=zM h;have:=ja ht;subst this;have hv:=he.ev x;rw[hx]at hv;simp only[VR]at hv;obtain⟨z,e1,e2⟩:=hv;refine⟨v,z,hk,e2,?_⟩;simp only[af,ho,e1];refine yG λw=> ?_
   unfold aO at hb;split at hb<;>first|(cases hb;done)|skip
   rename_i Mo Ew;cases hu:P.underlying t with
   |none=>exact absurd hu Ew
   |some d=>
    simp only[cd,bind,run_bind,Cv.run_underlying hu];cases d<;>first|rfl|exact absurd hu (Mo _)|(simp only[if_true];rfl)
 case binOp op t x y u=>
  simp only[sq,ho]at h;rcases dY h with⟨hp,hk⟩|⟨_,h⟩
  ·simp only[lj]at hp;obtain⟨a,hx,hy⟩:=yKn hp.1 (he.ev x) (he.ev y);clear h;split at hk<;>first|exact hk.elim|skip
   ·refine⟨_,.bool au,hk,wM rfl,?_⟩;have:=x4 (P:=P) (neg:=av) (r:=au) (ρ:=ρ) ho (by rw[hx];trivial) (by rw[hy];trivial) (λw=>by rw[hx,hy];exact xC trivial w) (λw=>by rw[hx,hy];exact zOo hp.2 a w);simpa using this
   ·refine⟨_,.bool av,hk,wM rfl,?_⟩;have:=x4 (P:=P) (neg:=au) (r:=au) (ρ:=ρ) ho (by rw[hx];trivial) (by rw[hy];trivial) (λw=>by rw[hx,hy];exact xC trivial w) (λw=>by rw[hx,hy];exact zOo hp.2 a w);simpa using this
  rcases dY h with⟨hp,hk⟩|⟨_,h⟩
  ·obtain⟨⟨n,hx⟩,rfl,ka,kb,hu⟩:=yLg hp;have hv:=he.ev x;rw[hx]at hv;simp only[VR]at hv;obtain⟨b,l,_,ha⟩:=hv;have hr:cR P t (.map (aq b))=aq av:=by simp[cR,hu]
   clear h;split at hk<;>first|exact hk.elim|skip
   ·refine⟨_,.bool av,hk,wM rfl,?_⟩;have:=x4 (P:=P) (neg:=av) (r:=av) (ρ:=ρ) ho (by rw[ha];trivial) trivial (λw=>by rw[ha];exact xC trivial w) (λw=>by rw[ha];exact b8 hr w);simpa using this
   ·refine⟨_,.bool au,hk,wM rfl,?_⟩;have:=x4 (P:=P) (neg:=au) (r:=av) (ρ:=ρ) ho (by rw[ha];trivial) trivial (λw=>by rw[ha];exact xC trivial w) (λw=>by rw[ha];exact b8 hr w);simpa using this
  rcases dY h with⟨hp,hk⟩|⟨_,h⟩
  ·simp only[lj]at hp;obtain⟨⟨XP,JY⟩,hp3⟩:=hp;obtain⟨a,ha⟩:=yFd XP (he.ev x);have hy:=yIf hp3;subst hy;clear h;split at hk<;>first|exact hk.elim|skip
   ·refine⟨_,.bool av,hk,wM rfl,?_⟩;have:=x4 (P:=P) (neg:=av) (r:=av) (ρ:=ρ) ho (by rw[ha];trivial) trivial (λw=>by rw[ha];exact xC trivial w) (λw=>by rw[ha];exact bW (zQj JY a) w);simpa using this
   ·refine⟨_,.bool au,hk,wM rfl,?_⟩;have:=x4 (P:=P) (neg:=au) (r:=av) (ρ:=ρ) ho (by rw[ha];trivial) trivial (λw=>by rw[ha];exact xC trivial w) (λw=>by rw[ha];exact bW (zQj JY a) w);simpa using this
  ·rcases dY h with⟨hp,hk⟩|⟨_,h⟩
   ·simp only[lj]at hp;clear h;split at hk
    ·rename_i sz ez hx;have hv:=he.ev x;rw[hx]at hv;simp only[VR,DR]at hv;obtain⟨a,c,e1,_,_,e4⟩:=hv;exact zUr ho hp.1 hp.2 e1 (λha=>by
      rcases e4 with e4|⟨_,_,_,_,_,e5,_⟩
      ·exact e4
      ·rw[ha]at e5;cases e5) hk
    ·exact uE he hk
   ·split at h
    ·rename_i xs wg;split at h<;>first|exact h.elim|skip
     rename_i ys HD;rcases dY h with⟨_,hk⟩|⟨hgt,hk⟩
     ·exact hk.elim
     clear h;obtain⟨b,hb,hk⟩:=zN hk;have ex:=tX wg (he.ev x);have ey:=tX HD (he.ev y);have jh:=λw=>yKq (P:=P) hb w
     simp only[Rk]at jh;have hg:∀(op:BinOp) w,(eqGuard op t x y (.agg xs) (.agg ys)).run P w= .ok () w:=by
      intro op w;unfold eqGuard;cases op<;>first|rfl|(simp[bind,pure,run_bind,program,cf,cg,hgt])
     split at hk<;>first|exact hk.elim|skip
     ·refine⟨_,.bool b,hk,wM rfl,?_⟩;have:=x4 (P:=P) (neg:=av) (r:=b) (ρ:=ρ) ho (by rw[ex];trivial) (by rw[ey];trivial) (λw=>by rw[ex,ey];exact hg _ w) (λw=>by rw[ex,ey];exact jh w);simpa using this
     ·refine⟨_,.bool (!b),hk,wM rfl,?_⟩;have:=x4 (P:=P) (neg:=au) (r:=b) (ρ:=ρ) ho (by rw[ex];trivial) (by rw[ey];trivial) (λw=>by rw[ex,ey];exact hg _ w) (λw=>by rw[ex,ey];exact jh w);simpa using this
    ·exact uE he h
 case call c=>
  simp only[sq,ho]at h;split at h
  ·rename_i hc;split at h
   ·rename_i sz ez nr;obtain⟨t,ht,h⟩:=zN h;obtain⟨hs,h⟩:=zM h;obtain⟨ys,e1,e2⟩:=aV he c.args;rw[nr]at e2;simp only[gw,VR,DR]at e2;obtain⟨y,_,rfl,⟨a,k,rfl,_⟩,rfl⟩:=e2;refine⟨_,.int .i64 ez.length,h,wM rfl,?_⟩;rw[wO ho hc,e1];obtain⟨e,LR⟩:=tH hs;refine yG λw=> ?_
    simp only[cx,ht,Bc,CC,bind,run_bind,Cv.run_underlying LR];rfl
   ·exact uE he h
  ·rename_i hc;split at h
   ·rename_i kk x k2 y nr;obtain⟨ys,e1,e2⟩:=aV he c.args;rw[nr]at e2;simp only[gw,VR,DR]at e2;obtain⟨_,_,rfl,⟨rfl,_⟩,_,_,rfl,⟨rfl,_⟩,rfl⟩:=e2;refine⟨_,.int kk (min x y),h,wM rfl,?_⟩;rw[wO ho hc,e1];refine yG λw=> ?_
    rw[show min x y=if y<x then y else x by rw[Int.min_def];split<;>split<;>omega];apply run_min_int2
   ·rename_i kk x k2 y k3 z nr;obtain⟨ys,e1,e2⟩:=aV he c.args;rw[nr]at e2;simp only[gw,VR,DR]at e2;obtain⟨_,_,rfl,⟨rfl,_⟩,_,_,rfl,⟨rfl,_⟩,_,_,rfl,⟨rfl,_⟩,rfl⟩:=e2;refine⟨_,.int kk (min (min x y) z),h,wM rfl,?_⟩;rw[wO ho hc,e1];refine yG λw=> ?_
    rw[show min (min x y) z=if z<(if y<x then y else x)then z else(if y<x then y else x)by rw[Int.min_def,Int.min_def];repeat' split<;>omega];apply run_min_int3
   ·exact uE he h
  ·exact uE he h
 case slice t x lo hi mx=>
  cases mx with
  |some m=>simp only[sq,ho]at h
  |none=>
   simp only[sq,ho]at h;split at h
   ·rename_i sz ez hx;obtain⟨oA,hs,h⟩:=zN h;obtain⟨hb,hh⟩:=zM h;have:=ja hb;subst this;obtain⟨l,u,h1,h2,hh⟩:=sL hh;have hv:=he.ev x;rw[hx]at hv;simp only[VR]at hv;obtain⟨a,c,v,e1,hk,yo⟩:=hv.Gp hh;have hp:bM P o ρ (λy=>VR E v y):=by
     simp only[bM,ho,e1,hs,dD he h1,dD he h2,EE];exact z2s (λp n c hh=>hh E rfl) yo
    obtain⟨y,hy,hf⟩:=fV hp;exact⟨v,y,hk,hy,hf⟩
   ·exact uE he h
 case unOp op t x=>simp only[sq,ho]at h;exact uE he h
 case convert s d x=>simp only[sq,ho]at h;exact uE he h
 all_goals(simp only[sq,ho]at h)
end Sx
namespace Cv
open Go Go.RowKit
def yLa {φ:ID} {b:Nat} {xs:List V} {t:ae} {Dl:Option Nat} {O:Obj} (h:coT φ b (.cells xs t Dl) O):∃r,O= .cells (HM φ xs++r).toArray t/\(∀sz,Dl=aq sz->xs.length+r.length=(φ b).2*sz)/\(Dl=ar->r=[]):=by
 cases Dl with
 |none=>
  have h':O= .cells (HM φ xs).toArray t:=h;exact⟨[],by rw[h',oJ],by simp,λ_=>rfl⟩
 |some sz=>
  obtain⟨r,h1,h2⟩:=h;exact⟨r,h1,λs hs=>(by cases hs;exact h2),by simp⟩
def Rel.cells {φ:ID} {s:St} {w:ag} (R:Rel φ s w) {b:Nat} {xs:List V} {t:ae} {Dl:Option Nat} (h:s.get b=aq (.cells xs t Dl)):
 ∃r,w.heap[(φ b).1]? =aq (.cells (HM φ xs++r).toArray t)/\(∀sz,Dl=aq sz->xs.length+r.length=(φ b).2*sz)/\(Dl=ar->r=[]):=by
 obtain⟨O,h1,h2⟩:=R.obj b _ h;obtain⟨r,rfl,h3,h4⟩:=yLa h2;exact⟨r,h1,h3,h4⟩
def hZ {P:ac} {t k e:ae} (h:Hi P t=aq (k,e)):P.underlying t=aq (.map k e):=by
 unfold Hi at h;split at h
 ·simp only[bc,cw]at h;obtain⟨rfl,rfl⟩:=h;assumption
 ·cases h
def qV {P:ac} {w:ag} {r:Nat} {O:Obj} (h:w.heap[r]? =aq O) (hO:match O with| .cells _ _ _=>False|_=>True):(getObj r).run P w= .ok O w:=by
 simp only[getObj,cf,h];cases O<;>first|exact hO.elim|rfl
def yJs {P:ac} {t:ae} (h:PZ P t=au):∃e,P.underlying t=aq (.slice e)/\P.underlying e=aq (.int .u8):=by
 unfold PZ at h;split at h<;>first|(cases h;done)|skip
 rename_i e he;split at h<;>first|(cases h;done)|skip
 exact⟨e,he,by assumption⟩
def zJs {P:ac} (w:ag) {F:ab->ByteArray->Sem (ForInStep ByteArray)} (hF:∀(n:Nat) (s:ByteArray),F (.int .u8 (n:Int)) s= .pure (.yield (s.push (UInt8.ofNat n)))):∀(l:List Nat) (acc:ByteArray),
 ((forIn (l.map λ(n:Nat)=>Value.int .u8 (n:Int)) acc F):Sem ByteArray).run P w= .ok (acc++bs l) w
 |[],acc=>by
  have:acc++bs []=acc:=by apply ByteArray.ext;simp[bs]
  rw[this];rfl
 |n::l,acc=>by
  have ih:=zJs (P:=P) w hF l (acc.push (UInt8.ofNat n));simp only[jj,List.forIn_cons,bind,hF,cg];rw[ih];congr 1;apply ByteArray.ext;simp[bs,Nat.toUInt8]
end Cv
namespace Sx
open Go Go.RowKit Cv
def Rel.focus {k:Ko} {L:List HP} {E:Ev} {s:St} {w:ag} (R:Rel k L E s w) {n:Nat} {o:fj} (h:s.get n=aq o):
 Hp k w (gz E (n,o)::((v8 n s.rows).map (gz E)++fz E.F::L)):=by
 refine R.hp.perm ?_;have:=((uC h).1.map (gz E)).append_right (fz E.F::L);simpa using this
def Rel.nv {k:Ko} {L:List HP} {E:Ev} {s:St} {w w':ag} (R:Rel k L E s w) {n:Nat} {o:fj} (h:s.get n=aq o) {o':fj}
 (H:Hp k w' (gz E (n,o')::((v8 n s.rows).map (gz E)++fz E.F::L))):Rel k L E (s.set n o') w':=by
 refine⟨R.nx,H.perm ?_⟩;have:=(((uC h).2 o').map (gz E)).append_right (fz E.F::L);simpa[St.set]using this.symm
def Rel.frozen {k:Ko} {L:List HP} {E:Ev} {s:St} {w:ag} (R:Rel k L E s w):∀b o,E.F b=aq o->w.heap[b]? =aq o:=by
 have H:Hp k w (fz E.F::(s.rows.map (gz E)++L)):=R.hp.perm mh;obtain⟨h,⟨rfl,_⟩,hs⟩:=H.sat;exact hs
def Rel.row {k:Ko} {L:List HP} {E:Ev} {s:St} {w:ag} (R:Rel k L E s w) {n:Nat} {o:fj} (h:s.get n=aq o) (hg:o≠.gone):
 ∃hd x,E.ga[n]? =aq hd/\fp E.F o E.ga hd x/\Sub x w:=by
 obtain⟨x,hx,hs⟩:=(R.focus h).sat;rcases hx with⟨e,_⟩|⟨hd,h1,h2⟩
 ·exact absurd e hg
 ·exact⟨hd,x,h1,h2,hs⟩
def Rel.cells {k:Ko} {L:List HP} {E:Ev} {s:St} {w:ag} (R:Rel k L E s w) {n:Nat} {vs:List V} {t:ae} (h:s.get n=aq (.cells vs t)):
 ∃b l sub,E.ga[n]? =aq (.pointer (aq ⟨b,0,ar⟩),sub)/\gw E vs l/\w.heap[b]? =aq (.cells l.toArray t):=by
 obtain⟨⟨hv,sub⟩,x,h1,h2,h3⟩:=R.row h (by simp);simp only[fp]at h2;obtain⟨b,l,rfl,h4,rfl⟩:=h2;exact⟨b,l,sub,h1,h4,h3 b _ (by simp[one])⟩
def Rel.vec {k:Ko} {L:List HP} {E:Ev} {s:St} {w:ag} (R:Rel k L E s w) {n:Nat} {ds:List D} {t:ae} (h:s.get n=aq (.vec ds t)):
 ∃b l sub,E.ga[n]? =aq (.pointer (aq ⟨b,0,ar⟩),sub)/\iy E.F ds l/\w.heap[b]? =aq (.cells l.toArray t):=by
 obtain⟨⟨hv,sub⟩,x,h1,h2,h3⟩:=R.row h (by simp);simp only[fp]at h2;obtain⟨b,l,rfl,h4,rfl⟩:=h2;exact⟨b,l,sub,h1,h4,h3 b _ (by simp[one])⟩
def tZ (s:St):V->Option (Nat×List (List D))
 | .d (.ro sz ez)=>aq (sz,ez)
 | .own n=>match s.get n with
   |some (.own _ sz ez)=>aq (sz,ez)
   |some (.kg sz ez)=>aq (sz,ez)
   |some (.HA _ ez)=>aq (1,ez)
   |_=>ar
 |_=>ar
def Z7 {k:Ko} {L:List HP} {E:Ev} {s:St} {w:ag} (R:Rel k L E s w) {sz:Nat} {ez:List (List D)} {y:ab} (h:DR E.F (.ro sz ez) y):
 ∃a c xs,y= .slice a ez.length c/\ez.length<=c/\iy E.F ez.flatten xs/\(∀el∈ez,el.length=sz)/\Sat w (FE sz a ez.length c xs):=by
 simp only[DR]at h;obtain⟨a,c,rfl,h1,h2,h3⟩:=h;rcases h3 with rfl|⟨b,o,l,T,fr,rfl,h4,h5⟩
 ·exact⟨a,c,[],rfl,h1,by simp[iy],h2,pe,.inl ⟨rfl,rfl,rfl⟩,Sub.pe w⟩
 ·obtain⟨xs,r,e,hx⟩:=oS.1 h5;have hl:xs.length=ez.length*sz:=by rw[hx.length,wJ h2]
  refine⟨_,c,xs,rfl,h1,hx,h2,one b (.cells l.toArray T fr),.inr ⟨b,o,l,T,fr,rfl,rfl,?_,hl,h1⟩,?_⟩
  ·rw[e,yw (by omega),mo (by omega)]
  ·intro b' o' e';simp only[one]at e';split at e'
   ·rename_i hb;subst hb;cases e';exact R.frozen _ _ h4
   ·cases e'
def mE {k:Ko} {L:List HP} {E:Ev} {s:St} {w:ag} (R:Rel k L E s w) {v:V} {y:ab} (hv:VR E v y) {sz:Nat} {ez:List (List D)} (h:tZ s v=aq (sz,ez)):
 ∃a c xs,y= .slice a ez.length c/\ez.length<=c/\iy E.F ez.flatten xs/\(∀el∈ez,el.length=sz)/\Sat w (FE sz a ez.length c xs):=by
 unfold tZ at h;split at h
 ·simp only[bc,cw]at h;obtain⟨rfl,rfl⟩:=h;simp only[VR]at hv;exact Z7 R hv
 ·rename_i n;simp only[VR]at hv;obtain⟨sub,h1,h2⟩:=hv;split at h<;>first|(cases h;done)|skip
  ·rename_i t oA lg hg;simp only[bc,cw]at h;obtain⟨rfl,rfl⟩:=h;obtain⟨hd,x,q1,q2,q3⟩:=R.row hg (by simp);rw[h1]at q1;cases q1;simp only[fp]at q2;obtain⟨a,c,xs,rfl,q4,q5,q6⟩:=q2;exact⟨a,c,xs,rfl,(UA q6).2,q4,q5,x,nN q6,q3⟩
  ·rename_i oA lg hg;simp only[bc,cw]at h;obtain⟨rfl,rfl⟩:=h;obtain⟨hd,x,q1,q2,q3⟩:=R.row hg (by simp);rw[h1]at q1;cases q1;simp only[fp]at q2;exact Z7 R q2.2
  ·rename_i t lg hg;simp only[bc,cw]at h;obtain⟨rfl,rfl⟩:=h;obtain⟨hd,x,q1,q2,q3⟩:=R.row hg (by simp);rw[h1]at q1;cases q1;simp only[fp]at q2;obtain⟨b,c,xs,r,rfl,q4,q5,q6,q7⟩:=q2;have hl:xs.length=lg.length*1:=by rw[q4.length,wJ q5]
   exact⟨_,c,xs,rfl,q6,q4,q5,x,.inr ⟨b,0,xs++r,t,_,rfl,q7,by rw[Ea,yw (by omega),mo (by omega)],hl,q6⟩,q3⟩
 ·cases h
def zD (ez:List (List D)) (i f n:Nat):Option (List D):=
 match ez[i]? with
 |some el=>bif bo (f+n) el.length then aq ((el.drop f).take n)else ar
 |none=>ar
def Xw:ab->(D->Prop)->Prop
 | .int k _,K=>∃n:Int,K (.v (.int k n))
 | .bool _,K=>∃b:Bool,K (.v (.bool b))
 | .string _,K=>∃s:ByteArray,K (.v (.string s))
 | .slice _ _ _,K=>∃(sz:Nat) (ez:List (List D)),K (.ro sz ez)
 |_,K=>∃d:D,K d
def shL:List ab->(List D->Prop)->Prop
 |[],K=>K []
 |z::zs,K=>Xw z λd=>shL zs λds=>K (d::ds)
def Pr (P:ac):Nat->ae->List ae
 |0,t=>[t]
 |f+1,t=>match P.underlying t with
  |some (.struct fs)=>(fs.toList.map λfd=>Pr P f fd.type).flatten
  |some (.array n e)=>(ax n (Pr P f e)).flatten
  |_=>[t]
def Lm (P:ac):List ae->List ab->(List D->Prop)->Prop
 |t::ts,z::zs,K=>match gU P t with
  |some sz=>∃ez:List (List D),Lm P ts zs λds=>K (.ro sz ez::ds)
  |none=>Xw z λd=>Lm P ts zs λds=>K (d::ds)
 |_,zs,K=>shL zs K
def Il (P:ac) (t:ae) (K:List D->Prop):Prop:=
 match rB P t with
 |some z=>Lm P (Pr P 6 t) z.cells.toList K
 |none=>False
def yEt {z:ab} {K:D->Prop} (h:Xw z K):∃d,K d:=by
 cases z<;>simp only[Xw]at h<;>first|(obtain⟨n,h⟩:=h;exact⟨_,h⟩)|(obtain⟨a,n,h⟩:=h;exact⟨_,h⟩)
def z0q:∀{zs:List ab} {K:List D->Prop},shL zs K->∃ds,K ds
 |[],_,h=>⟨_,h⟩
 |_::_,_,h=>let⟨_,h1⟩:=yEt h;let⟨_,h2⟩:=z0q h1;⟨_,h2⟩
def ZB {P:ac}:∀{ts:List ae} {zs:List ab} {K:List D->Prop},Lm P ts zs K->∃ds,K ds
 |t::ts,z::zs,K,h=>by
  unfold Lm at h;split at h
  ·obtain⟨ez,h⟩:=h;obtain⟨ds,h⟩:=ZB h;exact⟨_,h⟩
  ·obtain⟨d,h⟩:=yEt h;obtain⟨ds,h⟩:=ZB h;exact⟨_,h⟩
 |[],zs,K,h=>by unfold Lm at h;exact z0q h
 |t::ts,[],K,h=>by unfold Lm at h;exact z0q h
def aY {P:ac} {t:ae} {K:List D->Prop} (h:Il P t K):∃ds,K ds:=by
 unfold Il at h;split at h
 ·exact ZB h
 ·exact h.elim
def Iq (P:ac) (t:ae) (ds:List D):Option V:=
 match EK P t with
 |some n=>bif bg ds.length n then aq (.agg (ds.map .d))else ar
 |none=>bif Cw P t then(match ds with
  |[d]=>aq (.d d)
  |_=>ar)else ar
def zNx {P:ac} {E:Ev} {w:ag} {t sz i f:Nat} {ez:List (List D)} {b oo:Nat} {c:Nat} {xs:List ab} {ds:List D} {v:V} (hx:iy E.F ez.flatten xs) (hu:∀el∈ez,el.length=sz)
 (hs:Sat w (FE sz (aq ⟨b,oo,ar⟩) ez.length c xs)) (hp:zD ez i f ds.length=aq ds) (hm:Iq P t ds=aq v):∃y,VR E v y/\pT P t ⟨b,oo+i*sz+f,ar⟩ w y:=by
 unfold zD at hp;split at hp<;>first|(cases hp;done)|skip
 rename_i el oV;obtain⟨hb,hp⟩:=y4 hp;have hb:=Cc hb;have tw:=ku oV;have hi:i<ez.length:=(jf.1 oV).1;rw[hu el tw]at hb;obtain⟨b',o',l,T,fr,e1,e2,e3⟩:=K5 hs (by omega);cases e1;have mu:=(hx.drop (i*sz+f)).take ds.length;have hfp:=zMd hu oV hb;rw[hfp,be hp]at mu;have hlen:xs.length=ez.length*sz:=by rw[hx.length,wJ hu]
 have wk:i*sz+sz<=ez.length*sz:=by
  have:=xj sz (show i+1<=ez.length by omega);rwa [zq]at this
 have nw:(l.drop (oo+i*sz+f)).take ds.length=(xs.drop (i*sz+f)).take ds.length:=by
  rw[<- e3,az,ay,Db,D' oo];congr 1;rw[Fy];omega
 unfold Iq at hm;split at hm
 ·rename_i n hn;obtain⟨hq,hm⟩:=y4 hm;have:=ja hq;cases hm;refine⟨.agg ((xs.drop (i*sz+f)).take ds.length).toArray,by simp only[VR];exact⟨_,rfl,mu.Ob⟩,?_⟩;refine V3 hn e2 (by rw[<- this];exact nw) ?_;rw[mu.length,this]
 ·obtain⟨hq,hm⟩:=y4 hm;split at hm<;>first|(cases hm;done)|skip
  rename_i d;cases hm;simp only[iC,rn,iy]at mu nw;obtain⟨y,ys,e4,h4,h5⟩:=mu;subst h5;refine⟨y,by simpa only[VR]using h4,vQ hq e2 ?_⟩;have:((l.drop (oo+i*sz+f)).take 1)[0]? =aq y:=by rw[nw,e4];rfl
  rw[JO,fc (by omega),Bs]at this;simpa using this
def Xi (P:ac) (t:ae) (vs:List V) (off:Nat):Option V:=
 match EK P t with
 |some sz=>bif bo (off+sz) vs.length then aq (.agg ((vs.drop off).take sz))else ar
 |none=>bif Cw P t then vs[off]? else ar
def zOf {P:ac} {E:Ev} {w:ag} {t b off:Nat} {vs:List V} {l:List ab} {T:ae} {fr:Nat×Nat} {v:V} (hv:gw E vs l) (hb:w.heap[b]? =aq (.cells l.toArray T fr)) (h:Xi P t vs off=aq v):
 ∃y,VR E v y/\pT P t ⟨b,off,ar⟩ w y:=by
 unfold Xi at h;split at h
 ·rename_i n hn;obtain⟨hq,h⟩:=y4 h;have hq:=Cc hq;cases h;have hp:=(hv.drop off).take n;refine⟨.agg ((l.drop off).take n).toArray,by simp only[VR];exact⟨_,rfl,hp⟩,V3 hn hb rfl ?_⟩;rw[hp.length,ng,o8];omega
 ·obtain⟨hq,h⟩:=y4 h;obtain⟨y,h1,h2⟩:=hv.get h;exact⟨y,h2,vQ hq hb h1⟩
def jZ (s:ByteArray):List (List D):=s.data.toList.map λb=>[.v (.int .u8 b.toNat)]
def mB:ab->ab->Bool
 | .int k a,.int k' b=>xa k k' && decide (a=b)
 | .string a,.string b=>decide (a=b)
 |_,_=>av
def jH (x:ab):List (ab×List D)->Option (List D)
 |[]=>ar
 |(y,ds)::l=>bif mB x y then aq ds else jH x l
def LK (es:List (ab×List D)) (x:ab) (z ds:List D) (b:Bool):Prop:=(jH x es=aq ds/\b=au)\/(jH x es=ar/\ds=z/\b=av)
def y4i:ab->Bool
 | .int _ _=>au
 |_=>av
def y5o:ab->Bool
 | .string _=>au
 |_=>av
def NP (P:ac) (t:ae) (x:ab):Bool:=
 match P.underlying t with
 |some (.int _)=>y4i x
 |some .string=>y5o x
 |_=>av
def lr:ab->ab->Bool
 | .int k _,.int k' _=>xa k k'
 | .string _,.string _=>au
 |_,_=>av
def tW (x:ab) (es:List (ab×List D)):Prop:=∀p∈es,lr x p.1=au
def u7 (x:ab) (ds:List D):List (ab×List D)->List (ab×List D)
 |[]=>[(x,ds)]
 |(y,e)::l=>bif mB x y then(y,ds)::l else(y,e)::u7 x ds l
def CA (x:ab):List (ab×List D)->List (ab×List D)
 |[]=>[]
 |(y,e)::l=>bif mB x y then l else(y,e)::CA x l
def HB (P:ac) (t:ae) (ds:List D):Option V:=
 match EK P t with
 |some n=>bif bg ds.length n && !(bg n 1)then aq (.agg (ds.map .d))else ar
 |none=>bif Cw P t then(match ds with
  |[d]=>aq (.d d)
  |_=>ar)else ar
def Hi (P:ac) (t:ae):Option (ae×ae):=
 match P.underlying t with
 |some (.map k e)=>aq (k,e)
 |_=>ar
def ySc {a b:ap} (h:xa a b=au):a=b:=by
 cases a<;>cases b<;>first|rfl|cases h
def yZk {x y:ab} (h:mB x y=au):x=y:=by
 unfold mB at h;split at h
 ·simp only[lj,tq]at h;rw[ySc h.1,h.2]
 ·rw[qp h]
 ·cases h
def V6 {P:ac} {t:ae} {x:ab} (h:NP P t x=au):∃kd,P.underlying t=aq kd/\JA kd x:=by
 unfold NP at h;split at h
 ·rename_i ik hu;refine⟨_,hu,.inl ?_⟩;cases x<;>first|(cases h;done)|exact⟨_,_,_,rfl,rfl⟩
 ·rename_i hu;refine⟨_,hu,.inr ?_⟩;cases x<;>first|(cases h;done)|exact⟨_,rfl,rfl⟩
 ·cases h
def yDo (s s':ByteArray):(s==s')=decide (s=s'):=by
 by_cases h:s=s'
 ·subst h;rw[jk rfl];show(s.data==s.data)=au;simp
 ·rw[jt h];cases hb:s==s'
  ·rfl
  ·have:(s.data==s'.data)=au:=hb;exact absurd (ByteArray.ext (eq_of_beq this)) h
def lD {kd:TypeDesc} {x y:ab} (hk:JA kd x) (hl:lr x y=au):Instr.sameNow kd x y=aq (mB x y):=by
 rcases hk with⟨ik,k,n,rfl,rfl⟩|⟨s,rfl,rfl⟩
 ·cases y<;>simp only[lr,oL]at hl
  rename_i k' m;have:=ySc hl;subst this;simp only[Instr.sameNow,if_true,mB,hl,Ao];rfl
 ·cases y<;>simp only[lr,oL]at hl
  rename_i s';simp only[Instr.sameNow,mB];congr 1;exact yDo s s'
def z7j (k:ap):xa k k=au:=by cases k<;>rfl
def zXa {kd:TypeDesc} {x:ab} (hk:JA kd x):lr x x=au:=by
 rcases hk with⟨ik,k,n,rfl,rfl⟩|⟨s,rfl,rfl⟩
 ·exact z7j k
 ·rfl
def zVy {kd:TypeDesc} {x:ab} (hk:JA kd x):mB x x=au:=by
 rcases hk with⟨ik,k,n,rfl,rfl⟩|⟨s,rfl,rfl⟩
 ·simp only[mB,z7j,Ao,decide_true]
 ·simp only[mB,decide_true]
def zVz {l:List ak} {ck:Nat} (h:uI l ck) {e:ak} (he:e.born=ck):uI (l++[e]) (ck+1):=by
 refine⟨?_,λx hx=> ?_⟩
 ·rw[jl,Ap];refine⟨h.1,by simp,λa ha b hb=> ?_⟩;obtain⟨x,hx,rfl⟩:=oe.1 ha;have:=h.2 x hx;simp only[jj,B9,uc]at hb;omega
 ·rcases oK.1 hx with hx|hx
  ·have:=h.2 x hx;omega
  ·rw[uc.1 hx,he];omega
def YI {l:List ak} {ck q:Nat} (h:uI l ck) {m e:ak} (hm:l[q]? =aq m) (he:e.born=m.born):uI (l.set q e) ck:=by
 have hq:(l.set q e).map (·.born)=l.map (·.born):=by
  apply Dd;intro i;rw[rf,rf,Ca];split
  ·rename_i hi;subst hi;split
   ·rw[hm];simp[he]
   ·rename_i gn;rw[ud (by omega)];first|rfl|done
  ·rfl
 refine⟨by rw[hq];exact h.1,λx hx=> ?_⟩;rcases List.mem_or_eq_of_mem_set hx with hx|rfl
 ·exact h.2 x hx
 ·rw[he];exact h.2 m (ku hm)
def yAh {l:List ak} {ck q:Nat} (h:uI l ck):uI (l.eraseIdx q) ck:=
 ⟨((List.eraseIdx_sublist l q).map _).nodup h.1,λx hx=>h.2 x ((List.eraseIdx_sublist l q).mem hx)⟩
def yQr:uI [] 0:=⟨by simp,by simp⟩
def ND {F:PH} {kd:TypeDesc} {x:ab} (hk:JA kd x):∀{es:List (ab×List D)} {fu:List ak} (i:Nat),MR F es fu->tW x es->
 (bz kd x fu i=aq ar/\jH x es=ar/\(∀ds,u7 x ds es=es++[(x,ds)])/\CA x es=es/\∀e:ak,e.key=x->bz kd x (fu++[e]) i=aq (aq (i+fu.length,e.val)))\/
 (∃q m ds ys,bz kd x fu i=aq (aq (i+q,m.val))/\fu[q]? =aq m/\m.key=x/\jH x es=aq ds/\iy F ds ys/\m.val=rQ ys/\
   (∀Dx D6 (e:ak),iy F Dx D6->e.key=x->e.val=rQ D6->MR F (u7 x Dx es) (fu.set q e))/\MR F (CA x es) (fu.eraseIdx q)/\∀e:ak,e.key=x->bz kd x (fu.set q e) i=aq (aq (i+q,e.val)))
 |[],fu,i,h,_=>by
  simp only[MR]at h;subst h;exact .inl ⟨rfl,rfl,λds=>rfl,rfl,λe he=>by
   have hx:lr x x=au:=zXa hk;simp only[xi,bz,he,lD hk hx,zVy hk];rfl⟩
 |(y,e)::es,fu,i,h,hl=>by
  simp only[MR]at h;obtain⟨m,ms,rfl,h1,⟨ys,h2,h3⟩,h4⟩:=h;have hy:lr x y=au:=hl (y,e) iS;have hs:=lD hk hy;cases hb:mB x y with
  |true=>
   have XF:=yZk hb;refine .inr ⟨0,m,e,ys,?_,rfl,by rw[h1,XF],?_,h2,h3,?_,?_,?_⟩
   ·simp only[bz,h1,hs,hb];rfl
   ·simp only[jH,hb,cond_true]
   ·intro Dx D6 e' q1 q2 q3;simp only[u7,hb,cond_true,Rh,MR];exact⟨e',ms,rfl,by rw[q2,XF],⟨D6,q1,q3⟩,h4⟩
   ·simp only[CA,hb,cond_true,List.eraseIdx_cons_zero];exact h4
   ·intro e' rl;simp only[Rh,bz,rl,lD hk (zXa hk),zVy hk];rfl
  |false=>
   have hl':tW x es:=λp hp=>hl p (jc _ hp)
   rcases ND hk (i+1) h4 hl' with⟨q1,q2,q3,q4,q5⟩|⟨q,m',ds,D6,q1,q2,q3,q4,q5,q6,q7,q8,q9⟩
   ·refine .inl ⟨?_,?_,λds=> ?_,?_,λe' rl=> ?_⟩
    ·simp only[bz,h1,hs,hb];exact q1
    ·simp only[jH,hb,cond_false];exact q2
    ·simp only[u7,hb,cond_false,q3 ds,ui]
    ·simp only[CA,hb,cond_false,q4]
    ·simp only[ui,bz,h1,hs,hb];rw[q5 e' rl,iC,show i+1+ms.length=i+(ms.length+1)by omega]
   ·refine .inr ⟨q+1,m',ds,D6,?_,by simpa using q2,q3,?_,q5,q6,?_,?_,λe' rl=> ?_⟩
    ·simp only[bz,h1,hs,hb];rw[q1,show i+1+q=i+(q+1)by omega]
    ·simp only[jH,hb,cond_false];exact q4
    ·intro Dx ys2 e' r1 r2 r3;simp only[u7,hb,cond_false,Rg,MR];exact⟨m,_,rfl,h1,⟨ys,h2,h3⟩,q7 Dx ys2 e' r1 r2 r3⟩
    ·simp only[CA,hb,cond_false,List.eraseIdx_cons_succ,MR];exact⟨m,_,rfl,h1,⟨ys,h2,h3⟩,q8⟩
    ·simp only[Rg,bz,h1,hs,hb];rw[q9 e' rl,show i+1+q=i+(q+1)by omega]
def wE {P:ac} {kt:ae} {kd:TypeDesc} (hu:P.underlying kt=aq kd) {x:ab} (hk:JA kd x) (b:Bool) (w:ag):(Instr.checkKey b 10000 kt x).run P w= .ok () w:=by
 rcases hk with⟨ik,k,n,rfl,rfl⟩|⟨s,rfl,rfl⟩<;>
  (unfold Instr.checkKey;simp only[bind,run_bind,Cv.run_underlying hu];rfl)
def vL {P:ac} {kt:ae} {kd:TypeDesc} (hu:P.underlying kt=aq kd) {x:ab} {fu:List ak} {r:Option (Nat×ab)} (h:bz kd x fu 0=aq r) (w:ag):(Instr.findKey kt x fu).run P w= .ok r w:=by
 simp only[Instr.findKey,bind,run_bind,Cv.run_underlying hu,h];rfl
def hZ {P:ac} {t:ae} {ke:ae×ae} (h:Hi P t=aq ke):P.underlying t=aq (.map ke.1 ke.2):=by
 unfold Hi at h;split at h
 ·rename_i k e hu;cases h;exact hu
 ·cases h
def Yx {P:ac} {E:Ev} {t:ae} {ds:List D} {v:V} (h:HB P t ds=aq v) {ys:List ab} (hd:iy E.F ds ys):VR E v (rQ ys):=by
 unfold HB at h;split at h
 ·obtain⟨hb,h⟩:=y4 h;cases h;simp only[lj,De]at hb;have h1:=ja hb.1;have hl:ys.length=ds.length:=hd.length;have:rQ ys= .agg ys.toArray:=by
   unfold rQ;split
   ·rename_i y;rw[h1]at hl;simp only[iC,rn]at hl;rw[<- hl]at hb;exact absurd hb.2 (by decide)
   ·rfl
  rw[this];simp only[VR];exact⟨ys,rfl,hd.Ob⟩
 ·obtain⟨hb,h⟩:=y4 h;split at h<;>first|(cases h;done)|skip
  cases h;simp only[iy]at hd;obtain⟨x,xs,rfl,h1,rfl⟩:=hd;simpa only[VR,rQ]using h1
def Nk (P:ac) (t:ae):Option (List D):=
 match rB P t with
 |some (.agg cs)=>(match EK P t with
  |some _=>bif okc (.agg cs)then aq (cs.toList.map .v)else ar
  |none=>ar)
 |some z=>(match EK P t with
  |some _=>ar
  |none=>bif z.oh then aq [.v z]else ar)
 |none=>ar
def yNg {P:ac} {E:Ev} {t:ae} {ds:List D} {v:V} (h:Nk P t=aq ds) (hm:HB P t ds=aq v):∃z,rB P t=aq z/\VR E v z:=by
 unfold Nk at h;split at h
 ·rename_i cs hz;split at h<;>first|(cases h;done)|skip
  rename_i n hn;obtain⟨hb,h⟩:=y4 h;cases h;refine⟨_,hz,?_⟩;simp only[HB,hn]at hm;obtain⟨_,hm⟩:=y4 hm;cases hm;simp only[VR];refine⟨cs.toList,by simp,?_⟩;rw[vy];exact yOr hb
 ·rename_i z jr hz;split at h<;>first|(cases h;done)|skip
  rename_i hn;obtain⟨hb,h⟩:=y4 h;cases h;refine⟨_,hz,?_⟩;simp only[HB,hn]at hm;obtain⟨_,hm⟩:=y4 hm;cases hm;simp only[VR,DR];exact⟨trivial,hb⟩
 ·cases h
def K7 (s:St) (n:Nat):Option Nat:=
 match s.get n with
 |some (.jz _ _ _ _ l _)=>aq l.length
 |_=>ar
def zLj {k:Ko} {L:List HP} {E:Ev} {s:St} {w:ag} (R:Rel k L E s w) {n len:Nat} (h:K7 s n=aq len):
 ∃a c sub,E.ga[n]? =aq (.slice a len c,sub)/\sub.length=len/\(∀p∈sub,∃b oo,p= .pointer (aq ⟨b,oo,ar⟩))/\Sat w (FE 1 a len c sub):=by
 unfold K7 at h;split at h<;>first|(cases h;done)|skip
 rename_i t T m ix l hole hg;cases h;obtain⟨⟨v,sub⟩,x,h1,h2,h3⟩:=R.row hg (by simp);simp only[fp]at h2;obtain⟨a,c,e1,e2,e3,e4⟩:=h2;obtain⟨g,g',q1,q2,q3,rfl⟩:=e4;subst e1;exact⟨a,c,sub,h1,e2,e3,g,nN q1,λb o e=>h3 b o (by simp[un,e])⟩
structure py where
 q:Bool
 T:Nat
 sz:Nat
 ez:List (List D)
 i:Nat
 f:Nat
 b:Bool
 m:Option Nat
def nP (s:St) (n:Nat):Option py:=
 match s.get n with
 |some (.ug q t sz ez i f b m)=>aq ⟨q,t,sz,ez,i,f,b,m⟩
 |_=>ar
def eR {s:St} {n:Nat} {x:py} (h:nP s n=aq x):s.get n=aq (.ug x.q x.T x.sz x.ez x.i x.f x.b x.m):=by
 unfold nP at h;split at h<;>first|(cases h;done)|skip
 rename_i hg;cases h;exact hg
def py.clear (x:py) (i f k:Nat):Prop:=x.f<x.sz/\(x.b=au->i=x.i->f+k<=x.f\/x.f<f)
def Rel.ug {k:Ko} {L:List HP} {E:Ev} {s:St} {w:ag} (R:Rel k L E s w) {n:Nat} {x:py} (h:nP s n=aq x):
 ∃a c sub ys xs,E.ga[n]? =aq (.slice a x.ez.length c,sub)/\iy E.F x.ez.flatten ys/\(∀el∈x.ez,el.length=x.sz)/\zm E.ga (x.i*x.sz+x.f) x.b ys xs x.m/\Sat w (FE x.sz a x.ez.length c xs):=by
 obtain⟨⟨hv,sub⟩,z,h1,h2,h3⟩:=R.row (eR h) (by simp);simp only[fp]at h2;obtain⟨a,c,ys,xs,rfl,q2,q3,q4,q5⟩:=h2;exact⟨a,c,sub,ys,xs,h1,q2,q3,q4,z,nN q5,h3⟩
def YM {ga:List Hd} {p:Nat} {b:Bool} {ys xs:List ab}:∀{m:Option Nat},zm ga p b ys xs m->xs.length=ys.length
 |some m,⟨y,l,h1,h2,h3⟩=>by cases b<;>simp[h3]
 |none,⟨y,h1,h3⟩=>by cases b<;>simp[h3]
def yOc {ga:List Hd} {p:Nat} {b:Bool} {ys xs:List ab}:∀{m:Option Nat},zm ga p b ys xs m->∀o n,(b=au->o+n<=p\/p<o)->(xs.drop o).take n=(ys.drop o).take n:=by
 have key:∀{y:ab},xs=(bif b then ys.set p y else ys)->∀o n,(b=au->o+n<=p\/p<o)->(xs.drop o).take n=(ys.drop o).take n:=by
  intro y h o n hc;cases b with
  |false=>rw[h];rfl
  |true=>
   rw[h,cond_true];apply Dd;intro j;rw[JO,JO];split
   ·rw[Bs,Bs,Ca,eg (by have:=hc rfl;omega)]
   ·rfl
 intro m;cases m with
 |none=>rintro⟨y,_,h⟩;exact key h
 |some m=>rintro⟨y,l,_,_,h⟩;exact key h
def yDd {sz i f i0 f0 k:Nat} (h1:f+k<=sz) (h2:f0<sz) (jr:i=i0->f+k<=f0\/f0<f):i*sz+f+k<=i0*sz+f0\/i0*sz+f0<i*sz+f:=by
 rcases Nat.lt_trichotomy i i0 with h|h|h
 ·have:=xj sz (show i+1<=i0 by omega);rw[zq]at this;left;omega
 ·subst h;rcases jr rfl with h|h
  ·left;omega
  ·right;omega
 ·have:=xj sz (show i0+1<=i by omega);rw[zq]at this;right;omega
def zVl {P:ac} {E:Ev} {w:ag} {t sz i f:Nat} {ez:List (List D)} {b oo:Nat} {c:Nat} {xs:List ab} {ds:List D} {v:V} (hlen:xs.length=ez.length*sz) (hu:∀el∈ez,el.length=sz)
 (hs:Sat w (FE sz (aq ⟨b,oo,ar⟩) ez.length c xs)) (hp:zD ez i f ds.length=aq ds) (mu:iy E.F ds ((xs.drop (i*sz+f)).take ds.length)) (hm:Iq P t ds=aq v):∃y,VR E v y/\pT P t ⟨b,oo+i*sz+f,ar⟩ w y:=by
 unfold zD at hp;split at hp<;>first|(cases hp;done)|skip
 rename_i el oV;obtain⟨hb,hp⟩:=y4 hp;have hb:=Cc hb;have tw:=ku oV;have hi:i<ez.length:=(jf.1 oV).1;rw[hu el tw]at hb;obtain⟨b',o',l,T,fr,e1,e2,e3⟩:=K5 hs (by omega);cases e1;have wk:i*sz+sz<=ez.length*sz:=by
  have:=xj sz (show i+1<=ez.length by omega);rwa [zq]at this
 have nw:(l.drop (oo+i*sz+f)).take ds.length=(xs.drop (i*sz+f)).take ds.length:=by
  rw[<- e3,az,ay,Db,D' oo];congr 1;rw[Fy];omega
 unfold Iq at hm;split at hm
 ·rename_i n hn;obtain⟨hq,hm⟩:=y4 hm;have:=ja hq;cases hm;refine⟨.agg ((xs.drop (i*sz+f)).take ds.length).toArray,by simp only[VR];exact⟨_,rfl,mu.Ob⟩,?_⟩;refine V3 hn e2 (by rw[<- this];exact nw) ?_;rw[mu.length,this]
 ·obtain⟨hq,hm⟩:=y4 hm;split at hm<;>first|(cases hm;done)|skip
  rename_i d;cases hm;simp only[iC,rn,iy]at mu nw;obtain⟨y,ys,e4,h4,h5⟩:=mu;subst h5;refine⟨y,by simpa only[VR]using h4,vQ hq e2 ?_⟩;have:((l.drop (oo+i*sz+f)).take 1)[0]? =aq y:=by rw[nw,e4];rfl
  rw[JO,fc (by omega),Bs]at this;simpa using this
def z0t (P:ac) (t:ae) (x:py) (sz i f:Nat) (K:V->Prop):Prop:=
 bif bg sz x.sz then(match x.q,x.m,gU P t with
  |true,aq c,aq _=>bif Cw P t then(i=x.i/\f=x.f/\x.b=au/\i<x.ez.length/\f<sz)/\K (.own c)else False
  |_,_,_=>Il P t λds=>zD x.ez i f ds.length=aq ds/\x.clear i f ds.length/\iF (Iq P t ds) K)else False
def yAj {P:ac} {k:Ko} {L:List HP} {E:Ev} {s:St} {w:ag} (R:Rel k L E s w) {t n sz i f:Nat} {x:py} {K:V->Prop} (hx:nP s n=aq x) (h:z0t P t x sz i f K)
 {b oo m c:Nat} {l:List ab} (e1:E.ga[n]? =aq (.slice (aq ⟨b,oo,ar⟩) m c,l)):∃v y,K v/\VR E v y/\pT P t ⟨b,oo+i*sz+f,ar⟩ w y:=by
 unfold z0t at h;obtain⟨hb,h⟩:=zM h;have e:=ja hb;subst e;obtain⟨a,c',sub,ys,xs,q1,q2,q3,q4,q5⟩:=R.ug hx;rw[e1]at q1;cases q1;have Dn:ys.length=x.ez.length*x.sz:=by rw[q2.length,wJ q3]
 have CG:xs.length=x.ez.length*x.sz:=by rw[YM q4,Dn]
 split at h
 ·rename_i cc tt hq hm hs;obtain⟨RK,⟨rfl,rfl,hbt,hi,hf⟩,hk⟩:=zM h;rw[hm]at q4;obtain⟨y,ly,r1,⟨ya,yn,yc,r2⟩,r3⟩:=q4;rw[hbt,cond_true]at r3;have wk:x.i*x.sz+x.sz<=x.ez.length*x.sz:=by
   have:=xj x.sz (show x.i+1<=x.ez.length by omega);rwa [zq]at this
  obtain⟨b',o',l',T,fr,e2,e3,e4⟩:=K5 q5 (by omega);cases e2;refine⟨_,y,hk,by simp only[VR];exact⟨ly,r1,ya,yn,yc,r2⟩,vQ RK e3 ?_⟩;have:xs[x.i*x.sz+x.f]? =aq y:=by rw[r3,Ca,fc rfl,fc (by omega)]
  rw[<- e4,JO,fc (by omega),Bs]at this;rw[show oo+x.i*x.sz+x.f=oo+(x.i*x.sz+x.f)by omega];exact this
 ·obtain⟨ds,hp,⟨xw,wm⟩,h⟩:=aY h;obtain⟨v,hm,hk⟩:=zN h;have Ox:=hp;unfold zD at Ox;split at Ox<;>first|(cases Ox;done)|skip
  rename_i el oV;obtain⟨Iz,Ox⟩:=y4 Ox;have Iz:=Cc Iz;rw[q3 el (ku oV)]at Iz;have mu:=(q2.drop (i*x.sz+f)).take ds.length;rw[zMd q3 oV Iz,be Ox]at mu;rw[<- yOc q4 (i*x.sz+f) ds.length (λhb=>yDd Iz xw (wm hb))]at mu;obtain⟨y,hy,hh⟩:=zVl CG q3 q5 hp mu hm;exact⟨v,y,hk,hy,hh⟩
def sr (P:ac) (o:am) (ρ:xD) (s:St) (K:V->Prop):Prop:=
 match o.op with
 | .load t x=>match ln ρ x with
   | .nm n off=>match s.get n with
     |some (.cells vs _)=>iF (Xi P t vs off) K
     |_=>False
   | .el n sz i f=>match K7 s n with
     |some len=>bif bg sz 1 && bg f 0 && Cw P t then i<len/\K (.sub n i)else False
     |none=>match nP s n with
     |some x=>z0t P t x sz i f K
     |none=>iF (tZ s (.own n)) λse=>bif bg sz se.1 then Il P t λds=>zD se.2 i f ds.length=aq ds/\iF (Iq P t ds) K else False
   | .re sz ez i f=>Il P t λds=>zD ez i f ds.length=aq ds/\iF (Iq P t ds) K
   | .na n off i=>match s.get n with
     |some (.cells vs _)=>bif Cw P t then Il P t λds=>match ds with
      |[d]=>(vs.drop off)[i]?=aq (.d d)/\K (.d d)
      |_=>False else False
     |some (.vec es _)=>bif Cw P t then Il P t λds=>match ds with
      |[d]=>(es.drop off)[i]?=aq d/\K (.d d)
      |_=>False else False
     |_=>False
   |_=>False
 | .indexAddr t x i=>match ln ρ x with
   | .own n=>match ln ρ i with
     | .d (.v (.int _ i))=>iF (gU P t) λsz=>match K7 s n with
       |some len=>bif bg sz 1 then(0<=i/\i<len)/\K (.el n 1 i.toNat 0)else False
       |none=>match nP s n with
       |some x=>bif bg sz x.sz then(0<=i/\i<x.ez.length)/\K (.el n sz i.toNat 0)else False
       |none=>iF (tZ s (.own n)) λse=>bif bg sz se.1 then(0<=i/\i<se.2.length)/\K (.el n sz i.toNat 0)else False
     |_=>False
   |_=>False
 | .binOp op t x y _=>match ln ρ x with
   | .own n=>bif Ws y && HX P t then iF (tZ s (.own n)) λse=>yBs op se.2 K else False
   |_=>False
 | .convert st d x=>bif PZ P st && K8 P d then iF (tZ s (ln ρ x)) λse=>∃b:ByteArray,se.1=1/\se.2=jZ b/\K (.d (.v (.string b)))else False
 | .call c=>match c.callee with
   | .builtin .len=>match Dv ρ c.args.toList with
     |[.own n]=>iF c.argTypes[0]? λt=>bif HX P t then(match K7 s n with
      |some len=>K (.d (.v (.int .i64 len)))
      |none=>iF (tZ s (.own n)) λse=>K (.d (.v (.int .i64 se.2.length))))else False
     |[.mp n]=>iF c.argTypes[0]? λt=>bif z8p P t then(match s.get n with
      |some (.map es)=>K (.d (.v (.int .i64 es.length)))
      |_=>False)else False
     |_=>False
   |_=>False
 | .lookup t x i ok=>match ln ρ x with
   | .mp n=>match s.get n with
     |some (.map es)=>iF (Hi P t) λke=>iF (Hg (ln ρ i)) λkv=>bif NP P ke.1 kv then iF (Nk P ke.2) λz=>tW kv es/\∃b,Il P ke.2 λds=>LK es kv z ds b/\iF (HB P ke.2 ds) λv=>K (bif ok then .iZ [v,.d (.v (.bool b))]else v)else False
     |_=>False
   |_=>False
 |_=>False
def xHk (P:ac) (E:Ev) (o:am) (ρ:Env) (w:ag) (K:V->Prop):Prop:=∃v y,K v/\VR E v y/\(af (ev ρ) o).run P w=.ok (.value y) w
def z9e {P:ac} {F:PH} {b:ByteArray} {xs:List ab} (h:iy F (jZ b).flatten xs):xs=(b.data.toList.map UInt8.toNat).map λ(n:Nat)=>Value.int .u8 (n:Int):=by
 unfold jZ at h;revert h;generalize b.data.toList=l
 induction l generalizing xs with
 |nil=>intro h;simpa[iy]using h
 |cons a l ih=>
  intro h;simp only[jj,A9,ui,xi,iy,DR]at h;obtain⟨x,ys,rfl,⟨rfl,_⟩,h⟩:=h;simp only[jj];rw[ih h]
def Zp {P:ac} {k:Ko} {L:List HP} {E:Ev} {s:St} {w:ag} (R:Rel k L E s w) {ρS:xD} {ρ:Env} (he:kx E ρS ρ) {o:am} {K:V->Prop} (h:sr P o ρS s K):xHk P E o ρ w K:=by
 cases ho:o.op
 case load t x=>
  simp only[sr,ho]at h;have hv:=he.ev x;split at h<;>first|exact h.elim|skip
  ·rename_i n off hx;rw[hx]at hv;simp only[VR]at hv;obtain⟨b,oo,l,e1,e2⟩:=hv;split at h<;>first|exact h.elim|skip
   rename_i vs T hg;obtain⟨v,hp,hk⟩:=zN h;obtain⟨b',l',sub,q1,q2,q3⟩:=R.cells hg;rw[e1]at q1;cases q1;obtain⟨y,hy,hh⟩:=zOf q2 q3 hp;refine⟨v,y,hk,hy,?_⟩;simp only[af,ho,e2,nh];exact yK hh
  ·rename_i n sz i f hx;rw[hx]at hv;simp only[VR]at hv;obtain⟨b,oo,m,c,l,e1,e2⟩:=hv;split at h
   ·rename_i len JZ;obtain⟨hb,hi,hk⟩:=zM h;simp only[lj]at hb;have b1:=ja hb.1.1;have b2:=ja hb.1.2;subst b1 b2;obtain⟨a,c',sub,q1,q2,q3,q4⟩:=zLj R JZ;rw[e1]at q1;cases q1;obtain⟨bb,o',ll,T,fr,r1,r2,r3⟩:=K5 q4 (by omega);cases r1;obtain⟨p,hp⟩:∃p,l[i]? =aq p:=⟨_,u' (by omega)⟩
    obtain⟨pb,po,rfl⟩:=q3 p (ku hp);refine⟨.sub n i,.pointer (aq ⟨pb,po,ar⟩),hk,by simp only[VR];exact⟨_,l,pb,po,e1,hp,rfl⟩,?_⟩;simp only[af,ho,e2];refine yK (vQ hb.2 r2 ?_);rw[<- r3,JO,fc (by omega),Bs]at hp;rw[show oo+i*1+0=oo+i by omega];exact hp
   split at h
   ·rename_i x hx;obtain⟨v,y,hk,hy,hh⟩:=yAj R hx h e1;refine⟨v,y,hk,hy,?_⟩;simp only[af,ho,e2];exact yK hh
   obtain⟨⟨oA,ez⟩,hd,h⟩:=zN h;obtain⟨hb,h⟩:=zM h;have:=ja hb;simp only at this;subst this;obtain⟨ds,hp,h⟩:=aY h;obtain⟨v,hm,hk⟩:=zN h;obtain⟨a,c',xs,q1,q2,q3,q4,q5⟩:=mE R (v:= .own n) (y:= .slice (aq ⟨b,oo,ar⟩) m c) (by simp only[VR];exact⟨l,e1,_,_,_,rfl⟩) hd;cases q1;obtain⟨y,hy,hh⟩:=zNx q3 q4 q5 hp hm;refine⟨v,y,hk,hy,?_⟩;simp only[af,ho,e2];exact yK hh
  ·rename_i sz ez i f hx;rw[hx]at hv;simp only[VR]at hv;obtain⟨e0,e1,b,oo,l,T,fr,e2,e3,e4⟩:=hv;obtain⟨ds,hp,h⟩:=aY h;obtain⟨v,hm,hk⟩:=zN h;obtain⟨a,c',xs,q1,q2,q3,q4,q5⟩:=Z7 R (sz:=sz) (ez:=ez) (y:= .slice (aq ⟨b,oo,ar⟩) ez.length ez.length) (by
    simp only[DR];exact⟨_,_,rfl,lh _,e1,.inr ⟨b,oo,l,T,fr,rfl,e3,e4⟩⟩)
   cases q1;obtain⟨y,hy,hh⟩:=zNx q3 q4 q5 hp hm;refine⟨v,y,hk,hy,?_⟩;simp only[af,ho,e2];exact yK hh
  ·rename_i n off i hx;rw[hx]at hv;simp only[VR]at hv;obtain⟨b,oo,l,e1,e2⟩:=hv;split at h<;>first|exact h.elim|skip
   rename_i vs T hg;obtain⟨RK,h⟩:=zM h;obtain⟨ds,h⟩:=aY h;split at h<;>first|exact h.elim|skip
   rename_i d;obtain⟨hd,hk⟩:=h;obtain⟨b',l',sub,q1,q2,q3⟩:=R.cells hg;rw[e1]at q1;cases q1;obtain⟨y,hy,hh⟩:=(q2.drop off).get hd;rw[Bs]at hy;refine⟨.d d,y,hk,hh,?_⟩;simp only[af,ho,e2,nh];exact yK (vQ RK q3 hy);rename_i vs T hg;obtain⟨RK,h⟩:=zM h;obtain⟨ds,h⟩:=aY h;split at h<;>first|exact h.elim|skip
   rename_i d;obtain⟨hd,hk⟩:=h;obtain⟨b',l',sub,q1,q2,q3⟩:=R.vec hg;rw[e1]at q1;cases q1;obtain⟨y,hy,hh⟩:=(q2.drop off).get hd;rw[Bs]at hy;refine⟨.d d,y,hk,by simpa only[VR]using hh,?_⟩;simp only[af,ho,e2,nh];exact yK (vQ RK q3 hy)
 case indexAddr t x i=>
  simp only[sr,ho]at h;have hv:=he.ev x;split at h<;>first|exact h.elim|skip
  rename_i n hx;split at h<;>first|exact h.elim|skip
  rename_i kk i' hi;have Be:=he.ev i;rw[hi]at Be;have Be:=Be.Ep;obtain⟨sz,hs,h⟩:=zN h;split at h
  ·rename_i len JZ;obtain⟨hb,⟨h0,h1⟩,hk⟩:=zM h;have b1:=ja hb;subst b1;obtain⟨a,c',sub,q1,q2,q3,q4⟩:=zLj R JZ;rw[hx]at hv;simp only[VR]at hv;obtain⟨l,e1,_⟩:=hv;rw[q1]at e1;obtain⟨b,oo,ll,T,fr,rfl,r2,r3⟩:=K5 q4 (by omega);have e1:=be e1;have e2:ev ρ x= .slice (aq ⟨b,oo,ar⟩) len c':=(congrArg Prod.fst e1).symm;refine⟨_,.pointer (aq ⟨b,oo+i'.toNat*1+0,ar⟩),hk,by simp only[VR];exact⟨_,_,_,_,_,q1,rfl⟩,?_⟩;simp only[af,ho,e2,Be];refine yK ?_;rw[wK hs ⟨h0,by omega⟩,uR];rfl
  split at h
  ·rename_i xh hxh;obtain⟨hb,⟨h0,h1⟩,hk⟩:=zM h;have b1:=ja hb;subst b1;obtain⟨a,c',sub,ys,xs,q1,q2,q3,q4,q5⟩:=R.ug hxh;rw[hx]at hv;simp only[VR]at hv;obtain⟨l,e1,_⟩:=hv;rw[q1]at e1;obtain⟨b,oo,ll,T,fr,rfl,r2,r3⟩:=K5 q5 (by omega);have e1:=be e1;have e2:ev ρ x= .slice (aq ⟨b,oo,ar⟩) xh.ez.length c':=(congrArg Prod.fst e1).symm;refine⟨_,.pointer (aq ⟨b,oo+i'.toNat*xh.sz+0,ar⟩),hk,by simp only[VR];exact⟨_,_,_,_,_,q1,rfl⟩,?_⟩;simp only[af,ho,e2,Be];refine yK ?_;rw[wK hs ⟨h0,by omega⟩,uR];rfl
  obtain⟨⟨oA,ez⟩,hd,h⟩:=zN h;obtain⟨hb,⟨h0,h1⟩,hk⟩:=zM h;have:=ja hb;simp only at this;subst this;simp only at h1;rw[hx]at hv;have JV:=hv;simp only[VR]at JV;obtain⟨sub,e1,_⟩:=JV;obtain⟨a,c',xs,q1,q2,q3,q4,q5⟩:=mE R hv hd;obtain⟨b,oo,l,T,fr,rfl,e2,e3⟩:=K5 q5 (by omega);rw[q1]at e1;refine⟨_,.pointer (aq ⟨b,oo+i'.toNat*sz+0,ar⟩),hk,by simp only[VR];exact⟨_,_,_,_,_,e1,rfl⟩,?_⟩;simp only[af,ho,q1,Be];refine yK ?_;rw[wK hs ⟨h0,by omega⟩,uR];rfl
 case binOp op t x y u=>
  simp only[sr,ho]at h;split at h<;>first|exact h.elim|skip
  rename_i n hx;obtain⟨hb,h⟩:=zM h;simp only[lj]at hb;obtain⟨⟨oA,ez⟩,hd,hk⟩:=zN h;have hv:=he.ev x;rw[hx]at hv;obtain⟨a,c',xs,q1,q2,q3,q4,q5⟩:=mE R hv hd;obtain⟨v,y',h1,h2,h3⟩:=zUr (E:=E) ho hb.1 hb.2 q1 (λha=>by
   obtain⟨z,hz,_⟩:=q5;rcases hz with⟨h1,_⟩|⟨_,_,_,_,_,h1,_⟩
   ·exact xu h1
   ·rw[ha]at h1;cases h1) hk
  exact⟨v,y',h1,h2,h3 w⟩
 case convert st d x=>
  simp only[sr,ho]at h;obtain⟨hb,h⟩:=zM h;simp only[lj]at hb;obtain⟨⟨oA,ez⟩,hd,h⟩:=zN h;obtain⟨b,rfl,rfl,hk⟩:=h;obtain⟨a,c',xs,q1,q2,q3,q4,q5⟩:=mE R (he.ev x) hd;refine⟨_,.string b,hk,wM rfl,?_⟩;obtain⟨e,hes,hu⟩:=yJs hb.1;simp only[af,ho,q1];refine yK ?_;have wg:=z9e (P:=P) q3;obtain⟨r1,hfc,r3⟩:=Pn (P:=P) (.inl ⟨a,c',rfl,q5⟩);rcases a with _|ad
  ·obtain⟨x,hx,hs⟩:=q5;have hz:(jZ b).length=0:=by
    rcases hx with⟨h1,_⟩|⟨_,_,_,_,_,h1,_⟩
    ·exact h1
    ·cases h1
   have hb0:b= .empty:=by
    unfold jZ at hz;simp at hz;simpa using hz
   subst hb0;simp only[convert,bind,run_bind,Cv.run_underlying hes,Cv.run_underlying (pK hb.2),Cv.run_underlying hu];rfl
  ·simp only[cy,Nat.mul_one]at hfc;rw[wg]at hfc;simp only[convert,bind,run_bind,Cv.run_underlying hes,Cv.run_underlying (pK hb.2),Cv.run_underlying hu,Conv.bytesToString,hfc];rw[<- Array.forIn_toList];simp only[bind,pure];rw[zJs (P:=P) w (λ_ _=>rfl) _ .empty];simp only[cf];congr 2;rw[Cv.Hc];apply ByteArray.ext;simp
 case call c=>
  simp only[sr,ho]at h;split at h<;>first|exact h.elim|skip
  rename_i hc;obtain⟨ys,e1,e2⟩:=aV he c.args;split at h<;>first|exact h.elim|skip
  ·rename_i n nr;obtain⟨t,ht,h⟩:=zN h;obtain⟨hs,h⟩:=zM h;split at h
   ·rename_i len JZ;rw[nr]at e2;simp only[gw,VR]at e2;obtain⟨y,_,rfl,⟨l,hv,_⟩,rfl⟩:=e2;obtain⟨a,c',sub,q1,q2,q3,q4⟩:=zLj R JZ;rw[hv]at q1;have e3:y= .slice a len c':=congrArg Prod.fst (be q1);subst e3;refine⟨_,.int .i64 len,h,wM rfl,?_⟩;rw[wO ho hc,e1];obtain⟨e,LR⟩:=tH hs;refine yK ?_;simp only[cx,ht,Bc,CC,bind,run_bind,Cv.run_underlying LR];rfl
   obtain⟨⟨oA,ez⟩,hd,hk⟩:=zN h;rw[nr]at e2;simp only[gw]at e2;obtain⟨y,_,rfl,hv,rfl⟩:=e2;obtain⟨a,c',xs,rfl,q2,q3,q4,q5⟩:=mE R hv hd;refine⟨_,.int .i64 ez.length,hk,wM rfl,?_⟩;rw[wO ho hc,e1];obtain⟨e,LR⟩:=tH hs;refine yK ?_;simp only[cx,ht,Bc,CC,bind,run_bind,Cv.run_underlying LR];rfl
  ·rename_i n nr;obtain⟨t,ht,h⟩:=zN h;obtain⟨hs,h⟩:=zM h;split at h<;>first|exact h.elim|skip
   rename_i es hg;rw[nr]at e2;simp only[gw,VR]at e2;obtain⟨y,_,rfl,⟨bm,sub,e3,rfl⟩,rfl⟩:=e2;obtain⟨hd,x,q1,q2,q3⟩:=R.row hg (by simp);rw[e3]at q1;cases q1;simp only[fp]at q2;obtain⟨b,fu,ck,e4,e5,e6,rfl⟩:=q2;cases e4;have hm:=q3 bm _ (by simp[one];rfl);have hl:fu.length=es.length:=by
    clear q3 hm hg h e6
    induction es generalizing fu with
    |nil=>simp only[MR]at e5;rw[e5];rfl
    |cons p es ih=>obtain⟨m,ms,rfl,_,_,e5⟩:=e5;simp[ih _ e5]
   refine⟨_,.int .i64 es.length,h,wM rfl,?_⟩;rw[wO ho hc,e1];obtain⟨kt,e,LR⟩:=z4e hs;refine yK ?_;simp only[cx,ht,Bc,CC,bind,run_bind,Cv.run_underlying LR,qV hm trivial];simp[pure,cf,goInt,hl]
 case lookup t x i ok=>
  simp only[sr,ho]at h;split at h<;>first|exact h.elim|skip
  rename_i n hx;split at h<;>first|exact h.elim|skip
  rename_i es hg;obtain⟨ke,Cg,h⟩:=zN h;obtain⟨kv,Ix,h⟩:=zN h;obtain⟨RZ,h⟩:=zM h;obtain⟨z,hz,Cj,b,h⟩:=zN h;obtain⟨ds,RX,h⟩:=aY h;obtain⟨v,hm,hk⟩:=zN h;have hv:=he.ev x;rw[hx]at hv;simp only[VR]at hv;obtain⟨bm,sub,e1,e2⟩:=hv;obtain⟨hd,x',q1,q2,q3⟩:=R.row hg (by simp);rw[e1]at q1;cases q1;simp only[fp]at q2;obtain⟨b',fu,ck,e4,e5,e6,rfl⟩:=q2;rw[e2]at e4;cases e4;have RV:=q3 bm _ (by simp[one];rfl);have hi:ev ρ i=kv:=tX Ix (he.ev i);obtain⟨kd,hu,za⟩:=V6 RZ;have ET:∀v,HB P ke.2 z=aq v->∃zv,rB P ke.2=aq zv/\VR E v zv:=λv hv=>yNg hz hv
  refine⟨bif ok then .iZ [v,.d (.v (.bool b))]else v,?_⟩;have run:∃y,VR E v y/\(ce t (.map (aq bm)) kv ok).run P w= .ok (if ok then .tuple #[y,.bool b]else y) w:=by
   rcases ND za 0 e5 Cj with⟨r1,r2,r3,r4,_⟩|⟨q,m,Dx,ys,r1,r2,r3,r4,r5,r6,r7,r8,_⟩
   ·rcases RX with⟨l1,l2⟩|⟨l1,l2,l3⟩
    ·rw[r2]at l1;cases l1
    ·subst l2 l3;obtain⟨zv,z1,z2⟩:=ET v hm;refine⟨zv,z2,?_⟩;simp only[ce,bind,run_bind,Cv.run_underlying (hZ Cg),qV RV trivial,pure,cf,wE hu za,vL hu r1,lz (cW z1)]
   ·rcases RX with⟨l1,l2⟩|⟨l1,l2,l3⟩
    ·rw[r4]at l1;cases l1;subst l2;refine⟨rQ ys,Yx hm r5,?_⟩;simp only[ce,bind,run_bind,Cv.run_underlying (hZ Cg),qV RV trivial,pure,cf,wE hu za,vL hu r1,r6]
    ·rw[r4]at l1;cases l1
  obtain⟨y,hy,jh⟩:=run;refine⟨if ok then .tuple #[y,.bool b]else y,hk,?_,?_⟩
  ·cases ok
   ·exact hy
   ·simp only[cond_true,if_true,VR,gw,DR];exact⟨[y,.bool b],rfl,y,_,rfl,hy,_,_,rfl,⟨rfl,rfl⟩,rfl⟩
  ·simp only[af,ho,e2,hi];exact yK jh
 all_goals(simp only[sr,ho]at h)
variable {P:ac} {k:Ko} {L:List HP} {E:Ev} {s:St} {w:ag}
def yTv {α:Type _} {w:ag} {f g:α->HP} (h:∀a x,f a x->g a x):∀{l:List α} {M:List HP} {hs:List PH},Hs w (l.map f++M) hs->Hs w (l.map g++M) hs
 |[],M,hs,H=>H
 |a::l,M,hs,H=>by
  simp only[jj,ui]at H ⊢;cases H with
  |cons ha iU hd hr=>exact .cons (h _ _ ha) iU hd (yTv h hr)
def vG {α:Type _} {f g:α->HP} (h:∀a x,f a x->g a x) {l:List α} {M:List HP} (H:Hp k w (l.map f++M)):Hp k w (l.map g++M):=
 ⟨H.1,let⟨hs,hh⟩:=H.2;⟨hs,yTv h hh⟩⟩
def Yv {A:HP} {F:PH} {M:List HP} (H:Hp k w (A::fz F::M)):∃x,A x/\Dj x F/\Sub x w/\Hp k w (fz (un x F)::M):=by
 obtain⟨hk,hs,hh⟩:=H;cases hh with
 |cons ha iU hd hr=>
  cases hr with
  |cons hf xw Se hr=>
   simp only[fz]at hf;obtain⟨rfl,hgt⟩:=hf;refine⟨_,ha,hd _ iS,iU,hk,_,.cons ⟨rfl,hgt.mono (λb o e=>by
    rcases hd _ iS b with h|h
    ·simp[un,h,e]
    ·rw[e]at h;cases h)⟩ (yNj iU xw) (λg hg=>yGg (hd g (jc _ hg)) (Se g hg)) hr⟩
def yBa {x F:PH} (d:Dj x F):xp F (un x F):=λb o e=>by
 rcases d b with h|h
 ·simp[un,h,e]
 ·rw[e]at h;cases h
def Rel.new (R:Rel k L E s w) {o:fj} {O:Obj} {hd:Hd} (h:fp E.F o (E.ga++[hd]) hd (one w.heap.size O)):E.le ⟨E.F,E.ga++[hd]⟩/\Rel k L ⟨E.F,E.ga++[hd]⟩ (s.new o) (w.alloc O)/\(E.ga++[hd])[s.nx]? =aq hd:=by
 have hle:E.le ⟨E.F,E.ga++[hd]⟩:=⟨xp.refl _,JN _ _⟩
 have j':(E.ga++[hd])[s.nx]? =aq hd:=by rw[<- R.nx];simp
 refine⟨hle,⟨by simp[St.new,R.nx],?_⟩,j'⟩;have H:=R.hp.new O;have H1:Hp k (w.alloc O) (s.rows.map (gz E)++(pt w.heap.size O::fz E.F::L)):=H.perm (mh (l₁:=s.rows.map (gz E))).symm;have H2:=vG (λr x=>gz.mono hle r) H1;have H3:Hp k (w.alloc O) (pt w.heap.size O::(s.rows.map (gz ⟨E.F,E.ga++[hd]⟩)++fz E.F::L)):=H2.perm mh;exact H3.imp λx hx=> .inr ⟨hd,j',by rw[show x=one w.heap.size O from hx];exact h⟩
def Rel.freeze (R:Rel k L E s w) {n t sz:Nat} {ez:List (List D)} (h:s.get n=aq (.own t sz ez)):∃E',E.le E'/\E'.ga=E.ga/\Rel k L E' (s.set n (.kg sz ez)) w:=by
 have H:Hp k w (gz E (n,.own t sz ez)::fz E.F::((v8 n s.rows).map (gz E)++L)):=(R.focus h).cons mh;obtain⟨x,hx,hd,iU,H⟩:=Yv H;rcases hx with⟨e,_⟩|⟨hv,h1,h2⟩
 ·cases e
 simp only[fp]at h2;obtain⟨a,c,xs,h3,h4,h5,h6⟩:=h2;have hle:E.le ⟨un x E.F,E.ga⟩:=⟨yBa hd,JJ _⟩
 refine⟨⟨un x E.F,E.ga⟩,hle,rfl,?_⟩;have H1:Hp k w ((v8 n s.rows).map (gz E)++fz (un x E.F)::L):=H.perm mh.symm;have H2:=vG (λr x=>gz.mono hle r) H1;have H3:Hp k w (gz ⟨un x E.F,E.ga⟩ (n,.kg sz ez)::((v8 n s.rows).map (gz ⟨un x E.F,E.ga⟩)++fz (un x E.F)::L)):=by
  have:=(@h9 k w True _).2 ⟨trivial,H2⟩;refine this.imp λy hy=> .inr ⟨hv,h1,?_⟩
  simp only[fp];refine⟨hy.2,?_⟩;simp only[DR];refine⟨a,c,h3,(UA h6).2,h5,?_⟩;rcases h6 with⟨rfl,q2,rfl,rfl,rfl⟩|⟨b,r,rfl,rfl,q3,q4,q5⟩
  ·exact .inl (xu q2)
  ·refine .inr ⟨b,0,xs++r,t,(0,0),rfl,?_,oS.2 ⟨xs,r,rfl,h4.mono hle.1⟩⟩;simp[un,one]
 refine⟨by simpa[St.set]using R.nx,H3.perm ?_⟩;have:=(((uC h).2 (.kg sz ez)).map (gz ⟨un x E.F,E.ga⟩)).append_right (fz (un x E.F)::L);simpa[St.set]using this.symm
def Lu (s:St):V->Option (D×St)
 | .d d=>aq (d,s)
 | .own n=>match s.get n with
   |some (.own _ sz ez)=>aq (.ro sz ez,s.set n (.kg sz ez))
   |some (.kg sz ez)=>aq (.ro sz ez,s)
   |_=>ar
 |_=>ar
def PX (s:St):List V->Option (List D×St)
 |[]=>aq ([],s)
 |v::l=>match Lu s v with
  |some (d,s')=>match PX s' l with
   |some (ds,s2)=>aq (d::ds,s2)
   |none=>ar
  |none=>ar
def Pf (R:Rel k L E s w) {v:V} {d:D} {s':St} (h:Lu s v=aq (d,s')) {y:ab} (hv:VR E v y):∃E',E.le E'/\E'.ga=E.ga/\Rel k L E' s' w/\s'.nx=s.nx/\DR E'.F d y:=by
 unfold Lu at h;split at h<;>first|(cases h;done)|skip
 ·cases h;exact⟨E,Ev.le.refl _,rfl,R,rfl,by simpa only[VR]using hv⟩
 ·rename_i n;simp only[VR]at hv;obtain⟨sub,h1,_⟩:=hv;split at h<;>first|(cases h;done)|skip
  ·rename_i t sz ez hg;cases h;obtain⟨E',q1,q2,q3⟩:=R.freeze hg;refine⟨E',q1,q2,q3,rfl,?_⟩;have qg:(s.set n (.kg sz ez)).get n=aq (.kg sz ez):=by
    simp only[St.get,St.set];have:∀l:List (Nat×fj),A4 n l≠ar->A4 n (lL n (.kg sz ez) l)=aq (.kg sz ez):=by
     intro l
     induction l with
     |nil=>intro h;exact absurd rfl h
     |cons p l ih=>
      obtain⟨m,o⟩:=p;intro h;simp only[A4,lL]at h ⊢;cases hb:bg m n
      ·rw[hb]at h;simp only[A4,hb,cond_false]at h ⊢;exact ih h
      ·simp only[A4,hb,cond_true]
    exact this _ (by simp only[St.get]at hg;rw[hg];simp)
   obtain⟨hd,x,e1,e2,e3⟩:=q3.row qg (by simp);rw[q2,h1]at e1;cases e1;simp only[fp]at e2;exact e2.2
  ·rename_i sz ez hg;cases h;obtain⟨hd,x,e1,e2,e3⟩:=R.row hg (by simp);rw[h1]at e1;cases e1;simp only[fp]at e2;exact⟨E,Ev.le.refl _,rfl,R,rfl,e2.2⟩
def yEm:∀{vs:List V} {s:St} {E:Ev} (R:Rel k L E s w) {ds:List D} {s':St} (h:PX s vs=aq (ds,s')) {ys:List ab} (hv:gw E vs ys),
 ∃E',E.le E'/\E'.ga=E.ga/\Rel k L E' s' w/\s'.nx=s.nx/\iy E'.F ds ys
 |[],s,E,R,ds,s',h,ys,hv=>by
  simp only[PX,bc,cw]at h;obtain⟨rfl,rfl⟩:=h;simp only[gw]at hv;exact⟨E,Ev.le.refl _,rfl,R,rfl,by simpa only[iy]using hv⟩
 |v::vs,s,E,R,ds,s',h,ys,hv=>by
  simp only[PX]at h;simp only[gw]at hv;obtain⟨y,ys,rfl,h1,h2⟩:=hv;split at h<;>first|(cases h;done)|skip
  rename_i d s1 hd;split at h<;>first|(cases h;done)|skip
  rename_i ds s2 hds;cases h;obtain⟨E1,q1,q2,q3,q4,q5⟩:=Pf R hd h1;obtain⟨E2,r1,r2,r3,r4,r5⟩:=yEm q3 hds (h2.mono q1);exact⟨E2,q1.trans r1,r2.trans q2,r3,r4.trans q4,by simp only[iy];exact⟨_,_,rfl,q5.mono r1.1,r5⟩⟩
def yBp:D->Bool
 | .v (.slice ar 0 0)=>au
 |_=>av
def Fv (P:ac):List ae->List D->List D
 |t::ts,d::ds=>(match gU P t with
  |some sz=>bif yBp d then .ro sz []else d
  |none=>d)::Fv P ts ds
 |_,ds=>ds
def Y0 {F:PH}:∀{ts:List ae} {ds:List D} {ys:List ab},iy F ds ys->iy F (Fv P ts ds) ys
 |[],ds,ys,h=>by unfold Fv;exact h
 |t::ts,[],ys,h=>by unfold Fv;exact h
 |t::ts,d::ds,ys,h=>by
  unfold Fv;simp only[iy]at h ⊢;obtain⟨x,xs,rfl,h1,h2⟩:=h;refine⟨x,xs,rfl,?_,Y0 h2⟩;split
  ·cases hb:yBp d
   ·exact h1
   ·unfold yBp at hb;split at hb
    ·simp only[DR]at h1;obtain⟨rfl,_⟩:=h1;simp only[cond_true,DR];exact⟨ar,0,rfl,lh _,by simp,.inl trivial⟩
    ·cases hb
  ·exact h1
def zYo:∀(ts:List ae) (ds:List D),(Fv P ts ds).length=ds.length
 |[],ds=>by unfold Fv;rfl
 |t::ts,[]=>by unfold Fv;rfl
 |t::ts,d::ds=>by unfold Fv;simp[zYo ts ds]
def IA (P:ac) (s:St) (t:ae) (v:V):Option (List D×St):=
 bif Jq v then(match PX s v.cl with
  |some (ds,s')=>aq (Fv P (Pr P 6 t) ds,s')
  |none=>ar)else ar
def pG {α:Type _} {b:Bool} {x:Option α} {v:α} (h:(bif b then x else ar)=aq v):b=au/\x=aq v:=by
 cases b
 ·cases h
 ·exact⟨rfl,h⟩
def Nn (R:Rel k L E s w) {t:ae} {v:V} {ds:List D} {s':St} (h:IA P s t v=aq (ds,s')) {y:ab} (hv:VR E v y):
 ∃E' ys,E.le E'/\E'.ga=E.ga/\Rel k L E' s' w/\s'.nx=s.nx/\y.cells=ys.toArray/\iy E'.F ds ys:=by
 unfold IA at h;obtain⟨hb,h⟩:=pG h;split at h<;>first|(cases h;done)|skip
 rename_i ds0 s0 hf;cases h;obtain⟨l,hl,Oq⟩:=VR.cells hb hv;obtain⟨E',q1,q2,q3,q4,q5⟩:=yEm R hf Oq;exact⟨E',l,q1,q2,q3,q4,hl,Y0 q5⟩
variable {P:ac} {k:Ko} {L:List HP} {E:Ev} {s:St} {w:ag}
def Fi (F:PH) (T:Type) (m:Nat) (ix:T->Nat->fj) (x:T) (p:ab) (l0:List ab):HP:=λh=>
 ∃jx:List Hd,jx[0]? =aq (p,l0)/\jx.length=m/\hS ((aw m).map λj=>λh=>∃oO,jx[j]? =aq oO/\fp F (ix x j) jx oO h) h
def x5 (F:PH) (T:Type) (m:Nat) (ix:T->Nat->fj) (l:List T) (sub:List ab) (hole:Option Nat) (i:Nat):HP:=λh=>
 if hole=aq i then h=pe else ∃x p l0,l[i]? =aq x/\sub[i]? =aq p/\Fi F T m ix x p l0 h
def WL (sub:List ab):Prop:=∀p∈sub,∃b oo,p=.pointer (aq ⟨b,oo,ar⟩)
def qw {F:PH} {t:Nat} {T:Type} {m:Nat} {ix:T->Nat->fj} {l:List T} {hole:Option Nat} {ga:List Hd} {hd:Hd} {h:PH}:
 fp F (.jz t T m ix l hole) ga hd h↔∃a c,hd.1= .slice a l.length c/\hd.2.length=l.length/\WL hd.2/\Sl (oq t 1 a l.length c hd.2) (hS ((aw l.length).map (x5 F T m ix l hd.2 hole))) h:=by
 simp only[fp];constructor
 ·rintro⟨a,c,h1,h2,h3,g,g',h4,h5,h6,h7⟩;refine⟨a,c,h1,h2,h3,g,g',h4,K9 (λi x hx=> ?_) h5,h6,h7⟩;unfold x5;split
  ·rename_i hi;rwa [fc hi]at hx
  ·rename_i hi;rw[eg hi]at hx;obtain⟨x,p,l0,jx,r1,r2,r3,r4,r5⟩:=hx;exact⟨x,p,l0,r1,r2,jx,r3,r4,r5⟩
 ·rintro⟨a,c,h1,h2,h3,g,g',h4,h5,h6,h7⟩;refine⟨a,c,h1,h2,h3,g,g',h4,K9 (λi x hx=> ?_) h5,h6,h7⟩;unfold x5 at hx;split
  ·rename_i hi;rwa [fc hi]at hx
  ·rename_i hi;rw[eg hi]at hx;obtain⟨x,p,l0,r1,r2,jx,r3,r4,r5⟩:=hx;exact⟨x,p,l0,jx,r1,r2,r3,r4,r5⟩
def Vb (R:Rel k L E s w) {n t:Nat} {T:Type} {m:Nat} {ix:T->Nat->fj} {l:List T} {hole:Option Nat} (h:s.get n=aq (.jz t T m ix l hole)):
 ∃a c sub,E.ga[n]? =aq (.slice a l.length c,sub)/\sub.length=l.length/\WL sub/\
  Hp k w (oq t 1 a l.length c sub::((aw l.length).map (x5 E.F T m ix l sub hole)++((v8 n s.rows).map (gz E)++fz E.F::L))):=by
 obtain⟨hk,hs,hh⟩:=R.focus h;cases hh with
 |cons ha iU hd hr=>
  rcases ha with⟨e,_⟩|⟨⟨hv,sub⟩,h1,h2⟩
  ·cases e
  ·obtain⟨a,c,rfl,q2,q3,q4⟩:=qw.1 h2;refine⟨a,c,sub,h1,q2,q3,?_⟩;have H:Hp k w (Sl (oq t 1 a l.length c sub) (hS ((aw l.length).map (x5 E.F T m ix l sub hole)))::((v8 n s.rows).map (gz E)++fz E.F::L)):=⟨hk,_,.cons q4 iU hd hr⟩
   have H1:=uv.1 H;have H2:=qv.1 H1.swap;exact H2.perm mh
def YY {n t:Nat} {T:Type} {m:Nat} {ix:T->Nat->fj} {l:List T} {hole:Option Nat} {a:Option ao} {c:Nat} {sub:List ab} {M:List HP}
 (ht:E.ga[n]? =aq (.slice a l.length c,sub)) (hl:sub.length=l.length) (hp:WL sub)
 (H:Hp k w (oq t 1 a l.length c sub::((aw l.length).map (x5 E.F T m ix l sub hole)++M))):Hp k w (gz E (n,.jz t T m ix l hole)::M):=by
 have H1:Hp k w ((aw l.length).map (x5 E.F T m ix l sub hole)++oq t 1 a l.length c sub::M):=H.perm mh.symm;have H2:=(qv.2 H1).swap;exact(uv.2 H2).imp λx hx=> .inr ⟨_,ht,qw.2 ⟨a,c,rfl,hl,hp,hx⟩⟩
def zOr {n i:Nat} (h:i<n):∃B,aw n=aw i++i::B/\∀j∈B,j≠i:=by
 refine⟨(aw (n-i-1)).map (λj=>i+1+j),?_,λj hj=> ?_⟩
 ·have:n=i+(1+(n-i-1)):=by omega
  conv=>lhs;rw[this]
  rw[List.range_add,List.range_add,jl];simp[Function.comp_def,D']
 ·obtain⟨q,_,rfl⟩:=oe.1 hj;omega
def yQm (H:Hp k w L):Hp k w ((λh=>h=pe)::L):=((@h9 k w True L).2 ⟨trivial,H⟩).imp λx hx=>hx.2
def y5s (H:Hp k w ((λh=>h=pe)::L)):Hp k w L:=((@h9 k w True L).1 (H.imp λx hx=>⟨trivial,hx⟩)).2
def yUk {F:PH} {T:Type} {m:Nat} {ix:T->Nat->fj} {l:List T} {sub:List ab} {M:List HP} {i:Nat} {x:T} {p:ab} (hx:l[i]? =aq x) (hp:sub[i]? =aq p)
 (H:Hp k w ((aw l.length).map (x5 F T m ix l sub ar)++M)):∃l0,Hp k w (Fi F T m ix x p l0::((aw l.length).map (x5 F T m ix l sub (aq i))++M)):=by
 have hi:i<l.length:=(jf.1 hx).1;obtain⟨B,hB,jr⟩:=zOr hi;have e1:∀j,j≠i->x5 F T m ix l sub ar j=x5 F T m ix l sub (aq i) j:=λj hj=>by
  funext h;unfold x5;rw[eg (by simp),eg (by simp only[bc];omega)]
 have e2:x5 F T m ix l sub (aq i) i=λh=>h=pe:=by funext h;unfold x5;rw[fc rfl]
 have ea:(aw i).map (x5 F T m ix l sub (aq i))=(aw i).map (x5 F T m ix l sub ar):=uz λj hj=>(e1 j (by have:=CB.1 hj;omega)).symm
 have eb:B.map (x5 F T m ix l sub (aq i))=B.map (x5 F T m ix l sub ar):=uz λj hj=>(e1 j (jr j hj)).symm
 rw[hB,jl,jj]at H ⊢;rw[ea,eb,e2];have H1:Hp k w (x5 F T m ix l sub ar i::((aw i).map (x5 F T m ix l sub ar)++(B.map (x5 F T m ix l sub ar)++M))):=by
  rw[iY]at H;exact H.perm mh
 obtain⟨l0,H2⟩:∃l0,Hp k w (Fi F T m ix x p l0::((aw i).map (x5 F T m ix l sub ar)++(B.map (x5 F T m ix l sub ar)++M))):=by
  obtain⟨hk,hs,hh⟩:=H1;cases hh with
  |cons ha iU hd hr=>
   unfold x5 at ha;rw[eg (by simp)]at ha;obtain⟨x',p',l0,r1,r2,r3⟩:=ha;rw[hx]at r1;rw[hp]at r2;cases r1;cases r2;exact⟨l0,hk,_,.cons r3 iU hd hr⟩
 have H3:=yQm H2;rw[iY];refine⟨l0,H3.swap.cons ?_⟩;exact mh.symm
def yXh {F:PH} {T:Type} {m:Nat} {ix:T->Nat->fj} {l:List T} {sub:List ab} {M:List HP} {i:Nat} {x:T} {p:ab} {l0:List ab} (hi:i<l.length) (hp:sub[i]? =aq p)
 (H:Hp k w (Fi F T m ix x p l0::((aw l.length).map (x5 F T m ix l sub (aq i))++M))):Hp k w ((aw l.length).map (x5 F T m ix (l.set i x) sub ar)++M):=by
 obtain⟨B,hB,jr⟩:=zOr hi;have e1:∀j,j≠i->x5 F T m ix (l.set i x) sub ar j=x5 F T m ix l sub (aq i) j:=λj hj=>by
  funext h;unfold x5;rw[eg (by simp),eg (by simp only[bc];omega),List.getElem?_set_ne (by omega)]
 have e2:x5 F T m ix l sub (aq i) i=λh=>h=pe:=by funext h;unfold x5;rw[fc rfl]
 have ea:(aw i).map (x5 F T m ix (l.set i x) sub ar)=(aw i).map (x5 F T m ix l sub (aq i)):=uz λj hj=>e1 j (by have:=CB.1 hj;omega)
 have eb:B.map (x5 F T m ix (l.set i x) sub ar)=B.map (x5 F T m ix l sub (aq i)):=uz λj hj=>e1 j (jr j hj)
 rw[hB,jl,jj,iY]at H ⊢;rw[e2]at H;rw[ea,eb];have H1:Hp k w ((λh=>h=pe)::Fi F T m ix x p l0::((aw i).map (x5 F T m ix l sub (aq i))++(B.map (x5 F T m ix l sub (aq i))++M))):=
  H.perm ((cp _ mh).trans (.swap _ _ _))
 have H2:=y5s H1;have H3:Hp k w (x5 F T m ix (l.set i x) sub ar i::((aw i).map (x5 F T m ix l sub (aq i))++(B.map (x5 F T m ix l sub (aq i))++M))):=H2.imp λh hh=>by
  unfold x5;rw[eg (by simp)];exact⟨x,p,l0,by rw[List.getElem?_set_self hi],hp,hh⟩
 exact H3.perm mh.symm
def yOu {F:PH} {T:Type} {m:Nat} {ix:T->Nat->fj} {l l2:List T} {sub tc:List ab} (hl:sub.length=l.length) {M:List HP}
 (H:Hp k w ((aw l.length).map (x5 F T m ix l sub ar)++((aw l2.length).map (x5 F T m ix l2 tc ar)++M))):
 Hp k w ((aw (l++l2).length).map (x5 F T m ix (l++l2) (sub++tc) ar)++M):=by
 rw[iv,List.range_add,jl,vy,iY];have ea:(aw l.length).map (x5 F T m ix (l++l2) (sub++tc) ar)=(aw l.length).map (x5 F T m ix l sub ar):=uz λj hj=>by
  have hj:=CB.1 hj;funext h;unfold x5;rw[eg (by simp),eg (by simp),FC hj,FC (by omega)]
 have eb:(aw l2.length).map ((x5 F T m ix (l++l2) (sub++tc) ar)∘(l.length+·))=(aw l2.length).map (x5 F T m ix l2 tc ar):=uz λj hj=>by
  funext h;simp only[Function.comp];unfold x5;rw[eg (by simp),eg (by simp),Dg (by omega),Dg (by omega)];rw[show l.length+j-l.length=j by omega,show l.length+j-sub.length=j by omega]
 rw[ea,eb];exact H
def zNy {n:Nat} {T:Type} {m:Nat} {ix:T->Nat->fj} {x:T} {p:ab} {l0:List ab} (ht:E.ga[n]? =aq (p,l0)) {h:PH} (H:gz E (n,.ra T m ix x) h):Fi E.F T m ix x p l0 h:=by
 rcases H with⟨e,_⟩|⟨hd,h1,h2⟩
 ·cases e
 ·rw[ht]at h1;cases h1;simp only[fp]at h2;exact h2
def z4v {n:Nat} {T:Type} {m:Nat} {ix:T->Nat->fj} {x:T} {p:ab} {l0:List ab} (ht:E.ga[n]? =aq (p,l0)) {h:PH} (H:Fi E.F T m ix x p l0 h):gz E (n,.ra T m ix x) h:=
 .inr ⟨_,ht,by simp only[fp];exact H⟩
def Rel.out {A:HP} {E:Ev} {s:St} (R:Rel k (A::L) E s w):Hp k w (A::(s.rows.map (gz E)++fz E.F::L)):=by
 refine R.hp.perm ?_;have:(fz E.F::A::L).Perm (A::fz E.F::L):= .swap _ _ _;exact(this.append_left _).trans mh
def Rel.JT {A:HP} {E:Ev} {s:St} (hn:E.ga.length=s.nx) (H:Hp k w (A::(s.rows.map (gz E)++fz E.F::L))):Rel k (A::L) E s w:=by
 refine⟨hn,H.perm ?_⟩;have:(fz E.F::A::L).Perm (A::fz E.F::L):= .swap _ _ _;exact((this.append_left _).trans mh).symm
def Rel.qi {A B:HP} {E:Ev} {s:St} (R:Rel k (A::L) E s w) (h:∀x,A x->B x):Rel k (B::L) E s w:=Rel.JT R.nx (R.out.imp h)
def Rel.take {E:Ev} {s:St} (R:Rel k L E s w) {n:Nat} {o:fj} (h:s.get n=aq o):Rel k (gz E (n,o)::L) E (s.del n) w:=Rel.JT R.nx (R.focus h)
def Rel.gq {E:Ev} {s:St} (R:Rel k L E s w) {n:Nat} {o:fj} (h:s.get n=aq o):Rel k (gz E (n,o)::L) E (s.IV n o) w:=by
 cases o with
 |kg sz ez=>
  obtain⟨hd,x,h1,h2,h3⟩:=R.row h (by simp);refine⟨R.nx,?_⟩;have H:Hp k w ((λh=>h=pe)::(s.rows.map (gz E)++fz E.F::L)):=yQm R.hp;simp only[fp]at h2;have H1:Hp k w (gz E (n,.kg sz ez)::(s.rows.map (gz E)++fz E.F::L)):=H.imp λy hy=> .inr ⟨hd,h1,by simp only[fp];exact⟨hy,h2.2⟩⟩
  refine H1.perm ?_;have:(gz E (n,.kg sz ez)::fz E.F::L).Perm (fz E.F::gz E (n,.kg sz ez)::L):= .swap _ _ _;exact mh.symm.trans (this.append_left _)
 |_=>exact R.take h
def Rel.IX (R:Rel k L E s w) {n t i:Nat} {T:Type} {m:Nat} {ix:T->Nat->fj} {l:List T} (h:s.get n=aq (.jz t T m ix l ar)) {x:T} (hx:l[i]? =aq x) {y:ab} (hv:VR E (.sub n i) y):
 ∃E1,E.le E1/\Rel k L E1 ((s.set n (.jz t T m ix l (aq i))).new (.ra T m ix x)) w/\VR E1 (.nm s.nx 0) y/\∃l0,E1.ga[s.nx]? =aq (y,l0):=by
 obtain⟨a,c,sub,h1,h2,h3,H⟩:=Vb R h;simp only[VR]at hv;obtain⟨hd,l',b,oo,e1,e2,e3⟩:=hv;rw[h1]at e1;cases e1;obtain⟨l0,H1⟩:=yUk hx e2 (H.perm mh.symm);have H2:Hp k w (oq t 1 a l.length c sub::((aw l.length).map (x5 E.F T m ix l sub (aq i))++(Fi E.F T m ix x y l0::((v8 n s.rows).map (gz E)++fz E.F::L)))):=
  H1.perm ((mh.symm.trans (cq _ (.swap _ _ _))).trans mh)
 have H3:=(YY h1 h2 h3 H2).swap;have H4:Hp k w (Fi E.F T m ix x y l0::((lL n (.jz t T m ix l (aq i)) s.rows).map (gz E)++fz E.F::L)):=by
  refine H3.cons ?_;have:=(((uC h).2 (.jz t T m ix l (aq i))).map (gz E)).append_right (fz E.F::L);simpa using this.symm
 have H5:Hp k w ((lL n (.jz t T m ix l (aq i)) s.rows).map (gz E)++(Fi E.F T m ix x y l0::fz E.F::L)):=H4.perm mh.symm;have hle:E.le ⟨E.F,E.ga++[(y,l0)]⟩:=⟨xp.refl _,JN _ _⟩
 have j':(E.ga++[((y,l0):Hd)])[s.nx]? =aq (y,l0):=by rw[<- R.nx];simp
 have H6:=vG (λr x=>gz.mono hle r) H5;have H7:Hp k w (Fi E.F T m ix x y l0::((lL n (.jz t T m ix l (aq i)) s.rows).map (gz ⟨E.F,E.ga++[(y,l0)]⟩)++fz E.F::L)):=H6.perm mh;refine⟨⟨E.F,E.ga++[(y,l0)]⟩,hle,⟨by simp[St.new,St.set,R.nx],?_⟩,by simp only[VR];exact⟨b,oo,l0,by rw[j',e3],e3⟩,l0,j'⟩;exact H7.imp λz hz=>z4v (E:=⟨E.F,E.ga++[(y,l0)]⟩) j' hz
def Rel.I5 (R:Rel k L E s w) {n t i z:Nat} {T:Type} {m:Nat} {ix:T->Nat->fj} {l:List T} {x:T} (ha:s.get z=aq (.ra T m ix x)) (h:(s.del z).get n=aq (.jz t T m ix l (aq i))) (hi:i<l.length)
 {y:ab} {l0:List ab} (hz:E.ga[z]? =aq (y,l0)) (hs:∀v sub,E.ga[n]? =aq (v,sub)->sub[i]? =aq y):Rel k L E ((s.del z).set n (.jz t T m ix (l.set i x) ar)) w:=by
 have R1:=R.take ha;obtain⟨a,c,sub,h1,h2,h3,H⟩:=Vb R1 h;have hp:=hs _ _ h1;have H1:Hp k w (gz E (z,.ra T m ix x)::((aw l.length).map (x5 E.F T m ix l sub (aq i))++(oq t 1 a l.length c sub::((v8 n (s.del z).rows).map (gz E)++fz E.F::L)))):=by
  refine H.perm ?_;have p1:((v8 n (s.del z).rows).map (gz E)++fz E.F::gz E (z,.ra T m ix x)::L).Perm (gz E (z,.ra T m ix x)::((v8 n (s.del z).rows).map (gz E)++fz E.F::L)):=
   (cq _ (.swap _ _ _)).trans mh
  refine(cp _ ((cq _ p1).trans mh)).trans ((cu _ _ _).trans (cp _ mh.symm))
 have H2:=yXh hi hp (H1.imp λq hq=>zNy hz hq);have H3:Hp k w (gz E (n,.jz t T m ix (l.set i x) ar)::((v8 n (s.del z).rows).map (gz E)++fz E.F::L)):=by
  refine YY (a:=a) (c:=c) (sub:=sub) (by rw[qm];exact h1) (by rw[qm];exact h2) h3 ?_;rw[qm];exact H2.perm mh
 refine⟨by simpa[St.set,St.del]using R1.nx,H3.perm ?_⟩;have:=(((uC h).2 (.jz t T m ix (l.set i x) ar)).map (gz E)).append_right (fz E.F::L);simpa[St.set]using this.symm
def zLh {rows:List (Nat×fj)} {nx t:Nat} {T:Type} {m:Nat} {ix:T->Nat->fj} {l:List T} {a:Option ao} {c:Nat} {sub:List ab} (hn:E.ga.length=nx) (hl:sub.length=l.length) (hp:WL sub)
 (H:Hp k w (oq t 1 a l.length c sub::((aw l.length).map (x5 E.F T m ix l sub ar)++(rows.map (gz E)++fz E.F::L)))):
 ∃E',E.le E'/\Rel k L E' ⟨(nx,.jz t T m ix l ar)::rows,nx+1⟩ w/\VR E' (.own nx) (.slice a l.length c):=by
 have hle:E.le ⟨E.F,E.ga++[(.slice a l.length c,sub)]⟩:=⟨xp.refl _,JN _ _⟩
 have j':(E.ga++[((.slice a l.length c,sub):Hd)])[nx]? =aq (.slice a l.length c,sub):=by rw[<- hn];simp
 refine⟨⟨E.F,E.ga++[(.slice a l.length c,sub)]⟩,hle,⟨by simp[hn],?_⟩,by simp only[VR];exact⟨sub,j',_,_,_,rfl⟩⟩;have H0:Hp k w (rows.map (gz E)++(oq t 1 a l.length c sub::((aw l.length).map (x5 E.F T m ix l sub ar)++fz E.F::L))):=by
  refine H.perm ?_;refine(cp _ ?_).trans mh.symm;rw[<- iY,<- iY];exact cr _ Bu
 have H1:=vG (λr x=>gz.mono hle r) H0;have H2:Hp k w (oq t 1 a l.length c sub::((aw l.length).map (x5 E.F T m ix l sub ar)++(rows.map (gz ⟨E.F,E.ga++[(.slice a l.length c,sub)]⟩)++fz E.F::L))):=by
  refine H1.perm (mh.trans (cp _ ?_));rw[<- iY,<- iY];exact cr _ Bu
 exact YY (E:=⟨E.F,E.ga++[(.slice a l.length c,sub)]⟩) j' hl hp H2
def pg (k:Ko) (L:List HP) (E:Ev) (K:V->St->Prop) (y:ab) (w':ag):Prop:=∃E' v s',E.le E'/\Rel k L E' s' w'/\VR E' v y/\K v s'
@[reducible] def BE:=FuncId->List V->St->(V->St->Prop)->Prop
def IE (P:ac) (H:BE):Prop:=∀f args s K,H f args s K->∀(k:Ko) (L:List HP) (E:Ev) (w:ag) (ys:List ab),Rel k L E s w->gw E args ys->nf P (callFunc f ys.toArray) w (pg k L E K)
structure SlI where
 e:ae
 sz:Nat
 oC:Nat
 z:List D
def pZ (P:ac) (t:ae):Option SlI:=
 match vS P t with
 |some (e,sz,oC,z)=>bif bg z.size sz && z.toList.all (·.oh)then aq ⟨e,sz,oC,Fv P (Pr P 6 e) (z.toList.map .v)⟩else ar
 |none=>ar
def yNf {F:PH}:∀{l:List ab},(l.all (·.oh))=au->iy F (l.map .v) l
 |[],_=>by simp[iy]
 |y::l,h=>by
  simp only[List.all_cons,lj]at h;simp only[jj,iy,DR];exact⟨y,l,rfl,⟨rfl,h.1⟩,yNf h.2⟩
def cA {P:ac} {t:ae} {i:SlI} (h:pZ P t=aq i):∃z,vS P t=aq (i.e,i.sz,i.oC,z)/\z.size=i.sz/\i.z.length=i.sz/\∀F,iy F i.z z.toList:=by
 unfold pZ at h;split at h<;>first|(cases h;done)|skip
 rename_i e sz oC z hz;obtain⟨hb,h⟩:=pG h;cases h;simp only[lj]at hb;have h1:=ja hb.1;exact⟨z,hz,h1,by rw[zYo,gy,JP,h1],λF=>Y0 (yNf hb.2)⟩
def NR {α:Type} (l:List α) (o:Nat) (vs:List α):List α:=l.take o++(vs++l.drop (o+vs.length))
def z3m {α:Type} {sz:Nat}:∀{ez:List (List α)} (i:Nat) (ds:List α),(∀el∈ez,el.length=sz)->i<ez.length->ds.length=sz->
 (ez.set i ds).flatten=NR ez.flatten (i*sz) ds
 |[],i,ds,_,h,_=>by simp at h
 |el::ez,0,ds,hu,h,hd=>by
  simp only[Rh,A9,NR,bu,EN,xi,nh];rw[hd,<- hu el iS,ba]
 |el::ez,i+1,ds,hu,h,hd=>by
  have ih:=z3m (ez:=ez) i ds (λe he=>hu e (jc _ he)) (by simpa using h) hd;simp only[Rg,A9,NR]at ih ⊢;rw[ih];have e1:=hu el iS;rw[zq,Ih (i*sz) sz,List.take_append,LF,e1];rw[mo (show el.length<=sz+i*sz by omega),show sz+i*sz-sz=i*sz by omega,Ik (show el.length<=sz+i*sz+ds.length by omega),show sz+i*sz+ds.length-sz=i*sz+ds.length by omega];simp
def Pk {F:PH} {ds es:List D} {l m:List ab} (h1:iy F ds l) (h2:iy F es m) (o:Nat):iy F (ds.take o++(es++ds.drop (o+es.length))) (kj l o m):=by
 unfold kj;rw[iY];have:=h2.length;rw[this];exact(h1.take o).append (h2.append (h1.drop _))
def PM (P:ac) (e sz:Nat):St->List (Nat×V)->List (List D)->Option (List (List D)×St)
 |s,[],ez=>aq (ez,s)
 |s,(i,v)::ps,ez=>match IA P s e v with
  |some (ds,s')=>bif bg ds.length sz && bv i ez.length then PM P e sz s' ps (ez.set i ds)else ar
  |none=>ar
def yWn {α:Type} {sz:Nat} {ez:List (List α)} {i:Nat} {ds:List α} (hu:∀el∈ez,el.length=sz) (hd:ds.length=sz):∀el∈ez.set i ds,el.length=sz:=by
 intro el oV;rcases List.mem_or_eq_of_mem_set oV with h|rfl
 ·exact hu el h
 ·exact hd
def z5n {P:ac} {k:Ko} {L:List HP} {w:ag} {e sz:Nat}:∀{ps:List (Nat×V)} {E:Ev} {s:St} (R:Rel k L E s w) {ez lg:List (List D)} {s':St} {qs:List (Nat×ab)} {cs:List ab},
 PM P e sz s ps ez=aq (lg,s')->Cm E ps qs->(∀el∈ez,el.length=sz)->iy E.F ez.flatten cs->
 ∃E' CJ,E.le E'/\E'.ga=E.ga/\Rel k L E' s' w/\s'.nx=s.nx/\(∀el∈lg,el.length=sz)/\lg.length=ez.length/\iy E'.F lg.flatten CJ/\Instr.fill (λi=>aq (i*sz,sz)) cs.toArray qs=aq CJ.toArray
 |[],E,s,R,ez,lg,s',qs,cs,h,hp,hu,hc=>by
  simp only[PM,bc,cw]at h;obtain⟨rfl,rfl⟩:=h;simp only[Cm]at hp;subst hp;exact⟨E,cs,Ev.le.refl _,rfl,R,rfl,hu,rfl,hc,rfl⟩
 |(i,v)::ps,E,s,R,ez,lg,s',qs,cs,h,hp,hu,hc=>by
  simp only[PM]at h;simp only[Cm]at hp;obtain⟨y,qs,rfl,hv,hp⟩:=hp;split at h<;>first|(cases h;done)|skip
  rename_i ds s1 hd;obtain⟨hb,h⟩:=pG h;simp only[lj]at hb;have hlen:=ja hb.1;have hi:i<ez.length:=by simpa[yj]using hb.2
  obtain⟨E1,ys,q1,q2,q3,q4,q5,q6⟩:=Nn R hd hv;have XP:Cm E1 ps qs:=by
   have:∀{ps:List (Nat×V)} {qs:List (Nat×ab)},Cm E ps qs->Cm E1 ps qs:=by
    intro ps
    induction ps with
    |nil=>intro qs h;exact h
    |cons p ps ih=>obtain⟨i,v⟩:=p;intro qs h;obtain⟨y,ys,h1,h2,h3⟩:=h;exact⟨y,ys,h1,h2.mono q1,ih h3⟩
   exact this hp
  have CI:iy E1.F (ez.set i ds).flatten (kj cs (i*sz) ys):=by
   rw[z3m i ds hu hi hlen];exact Pk (hc.mono q1.1) q6 (i*sz)
  obtain⟨E2,CJ,r1,r2,r3,r4,r5,r6,r7,r8⟩:=z5n q3 h XP (yWn hu hlen) CI;refine⟨E2,CJ,q1.trans r1,r2.trans q2,r3,r4.trans q4,r5,by rw[r6,qm],r7,?_⟩;have Dn:ys.length=sz:=by rw[q6.length,hlen]
  have wm:cs.length=ez.length*sz:=by rw[hc.length,wJ hu]
  have wk:i*sz+sz<=ez.length*sz:=by
   have:=xj sz (show i+1<=ez.length by omega);rwa [zq]at this
  have aay:y.cells.size=sz:=by rw[q5,JL,Dn]
  have Iz:(decide (y.cells.size≠sz)||decide (i*sz+y.cells.size>cs.toArray.size))=av:=by
   rw[aay,JL];simp;omega
  have Gb:y.cells.zipIdx.foldl (λ(cs:Array ab) (p:ab×Nat)=>cs.setIfInBounds (i*sz+p.2) p.1) cs.toArray=(kj cs (i*sz) ys).toArray:=by
   have hz:ys.toArray.zipIdx=(ys.zipIdx).toArray:=by
    apply cz;simp
   rw[q5,hz,List.foldl_toArray];rw[ZD (off:=i*sz) ys 0 cs (by omega)];rfl
  simp only[Instr.fill];rw[eg (by rw[Iz];simp),Gb];exact r8
def eG {z:List ab}:∀n,(Hq z.toArray (n*z.length)).toList=(ax n z).flatten
 |0=>by simp[Hq]
 |n+1=>by
  have ih:=eG (z:=z) n;simp only[Hq,JL]at ih ⊢;rw[LI,A9,<- ih,zq,Ih,List.range_add,jl];congr 1
  ·apply Dd;intro i;rw[rf];by_cases hi:i<z.length
   ·rw[LH hi];simp only[we,Nat.mod_eq_of_lt hi];rw[oc];rw[u' hi];rfl
   ·rw[ud (by simpa using Nat.not_lt.1 hi),ud (Nat.not_lt.1 hi)];rfl
  ·rw[vy];refine uz λj _=> ?_
   simp only[Function.comp,Nat.add_mod_left]
def z1l {F:PH} {ds:List D} {l:List ab} (h:iy F ds l):∀n,iy F (ax n ds).flatten (ax n l).flatten
 |0=>by simp[iy]
 |n+1=>by simp only[LI,A9];exact h.append (z1l h n)
def Pp {α:Type} {ds:List α} {n sz:Nat} (h:ds.length=sz):∀el∈ax n ds,el.length=sz:=by
 intro el oV;rw[(List.mem_replicate.1 oV).2];exact h
def zJ (ez:List (List D)) (i f:Nat) (ds:List D):List (List D):=ez.modify i λel=>el.take f++(ds++el.drop (f+ds.length))
def WX:V->Bool
 | .top=>av
 | .agg _=>av
 | .iZ _=>av
 |_=>au
def PI:List V->Bool
 |[]=>au
 |v::l=>bif WX v then PI l else av
def z3a {E:Ev}:∀{vs:List V} {l:List ab},PI vs=au->gw E vs l->∀y∈l,y.oh=au
 |[],l,_,h=>by simp only[gw]at h;subst h;simp
 |v::vs,l,hb,h=>by
  simp only[gw]at h;obtain⟨x,xs,rfl,h1,h2⟩:=h;simp only[PI]at hb;obtain⟨qc,my⟩:WX v=au/\PI vs=au:=by
   revert hb;generalize WX v=b;cases b<;>simp
  intro y hy;rcases jq.1 hy with rfl|hy
  ·cases v<;>simp only[WX,oL]at qc<;>simp only[VR]at h1
   ·rename_i d;exact iy.one (F:=E.F) (vs:=[d]) (l:=[y]) (by simp only[iy];exact⟨_,_,rfl,h1,rfl⟩) y (by simp)
   ·obtain⟨_,_,_,_,rfl⟩:=h1;rfl
   ·obtain⟨_,_,_,_,_,_,rfl⟩:=h1;rfl
   ·obtain⟨_,_,_,_,_,_,_,rfl,_⟩:=h1;rfl
   ·obtain⟨_,_,_,_,rfl⟩:=h1;rfl
   ·obtain⟨_,_,_,_,_,rfl⟩:=h1;rfl
   ·obtain⟨_,_,_,rfl⟩:=h1;rfl
   ·obtain⟨_,_,_,_,_,_,rfl⟩:=h1;rfl
   ·obtain⟨_,_,rfl,_⟩:=h1;rfl
   ·obtain⟨_,rfl,_⟩:=h1;rfl
  ·exact z3a my h2 y hy
def z0v (s:St) (sz:Nat):V->Option (List (List D))
 | .d (.v (.slice ar 0 0))=>aq []
 | .d (.v (.string b))=>bif bg sz 1 then aq (jZ b)else ar
 |v=>match tZ s v with
  |some (oA,ez)=>bif bg sz oA then aq ez else ar
  |none=>ar
def YA (P:ac) (t1 t2:ae) (s:St) (x y:V) (K:V->St->Prop):Prop:=
 iF (pZ P t1) λi=>bif Ls P t2 && bv 0 i.oC then iF (z0v s i.sz y) λys=>
  match x with
  | .d (.v (.slice ar 0 0))=>ys.length*i.oC<=140737488355328/\K (.own s.nx) (s.new (.own i.e i.sz ys))
  | .own n=>match s.get n with
    |some (.own T sz ez)=>bif bg T i.e && bg sz i.sz then(ez.length+ys.length)*i.oC<=140737488355328/\K (.own s.nx) ((s.del n).new (.own i.e i.sz (ez++ys)))else False
    |_=>False
  |_=>False else False
def WE:V->Bool
 | .agg l=> !(bg l.length 1)
 | .d _=>au
 |_=>av
def Nm:List V->St->(List V->St->Prop)->Prop
 |[],s,K=>K [] s
 |v::l,s,K=>match v with
  | .d (.ro sz ez)=>Nm l (s.new (.kg sz ez)) λl' s'=>K (.own s.nx::l') s'
  |v=>Nm l s λl' s'=>K (v::l') s'
def YN (P:ac) (t1 t2:ae) (s:St) (x y:V) (K:V->St->Prop):Prop:=
 match y with
 | .own n2=>(match s.get n2 with
   |some (.jz _ T2 m2 vu l2 ar)=>iF (pZ P t1) λi=>bif Ls P t2 && bv 0 i.oC && bg i.sz 1 then(match x with
    | .d (.v (.slice ar 0 0))=>l2.length*i.oC<=140737488355328/\K (.own s.nx) ((s.del n2).new (.jz i.e T2 m2 vu l2 ar))
    | .own n=>(match(s.del n2).get n with
      |some (.jz t1' T1 m1 SF l1 ar)=>∃yy:List T2,fj.jz t1' T1 m1 SF l1 ar=fj.jz i.e T2 m2 vu yy ar/\(yy.length+l2.length)*i.oC<=140737488355328/\K (.own s.nx) (((s.del n2).del n).new (.jz i.e T2 m2 vu (yy++l2) ar))
      |_=>False)
    |_=>False)else False
   |_=>False)
 |_=>False
def yRa (s:St):V->Bool
 | .own n=>match K7 s n with
   |some _=>au
   |none=>av
 |_=>av
def y2m (n i a:Nat) (v:V) (s:St) (K:V->St->Prop):Prop:=
 match s.get a with
 |some o=>(match(s.del a).get n with
  |some (.jz t T m ix l (aq j))=>∃x:T,o=.ra T m ix x/\j=i/\i<l.length/\K v ((s.del a).set n (.jz t T m ix (l.set i x) ar))
  |_=>False)
 |none=>False
def yNn (H:BE) (f:FuncId) (args:List V) (s:St) (K:V->St->Prop):Prop:=
 match args with
 | .sub n i::rest=>(match s.get n with
   |some (.jz t T m ix l ar)=>∃x:T,l[i]?=aq x/\H f (.nm s.nx 0::rest) ((s.set n (.jz t T m ix l (aq i))).new (.ra T m ix x)) λv s'=>y2m n i s.nx v s' K
   |_=>False)
 |args=>H f args s K
def WG (P:ac) (t:ae):Option ae:=
 match P.underlying t with
 |some (.slice e)=>(match P.underlying e with
  |some (.int .u8)=>aq e
  |_=>ar)
 |_=>ar
def zYi {P:ac} {t e:ae} (h:WG P t=aq e):P.underlying t=aq (.slice e)/\P.underlying e=aq (.int .u8):=by
 unfold WG at h;split at h<;>first|(cases h;done)|skip
 rename_i e' he;split at h<;>first|(cases h;done)|skip
 rename_i hu;cases h;exact⟨he,hu⟩
def Yl:List (Nat×V)->Option Nat
 |[(0,.nm m 0)]=>aq m
 |_=>ar
def ZA (P:ac) (t:ae) (x:py) (n sz i f:Nat) (v:V) (s:St) (K:V->St->Prop):Prop:=
 bif bg sz x.sz then(match v,gU P t with
  | .own c,aq _=>(match s.get c with
    |some (.own _ _ _)=>iF (pY P t) λm=>bif bg m 1 && !(bg n c)then(i<x.ez.length/\f<sz)/\(match x.q with
     |true=>(i=x.i/\f=x.f)/\K (.iZ []) (s.set n (.ug au x.T sz x.ez x.i x.f au (aq c)))
     |false=>(i=x.i->f=x.f->K (.iZ []) (s.set n (.ug av x.T sz x.ez x.i x.f au (aq c))))/\(x.f<sz/\(¬(i=x.i/\f=x.f)->match IA P s t (.own c)with
      |some (ds,s')=>(match nP s' n with
       |some y=>bif bg ds.length 1 then y=x/\K (.iZ []) (s'.set n (.ug x.q x.T sz (zJ x.ez i f ds) x.i x.f x.b x.m))else False
       |none=>False)
      |none=>False)))else False
    |_=>False)
  |v,_=>(match IA P s t v with
   |some (ds,s')=>(match nP s' n with
    |some y=>iF (pY P t) λm=>bif bg ds.length m then(y=x/\i<x.ez.length/\f+m<=sz/\x.clear i f m)/\K (.iZ []) (s'.set n (.ug x.q x.T sz (zJ x.ez i f ds) x.i x.f x.b x.m))else False
    |none=>False)
   |none=>False))else False
def se (P:ac) (H:BE) (o:am) (ρ:xD) (s:St) (K:V->St->Prop):Prop:=
 match o.op with
 | .alloc e=>iF (rB P e) λz=>bif Jq (Dh z)then K (.nm s.nx 0) (s.new (.cells (Dh z).cl e))else False
 | .box e x=>bif Jq (ln ρ x)then Nm (ln ρ x).cl s λvs s=>K (.nm s.nx 0) (s.new (.cells vs e))else False
 | .buildSlice t len ps=>match Yl (K6 ρ ps.toList)with
   |some m=>(match s.get m with
    |some (.ra T mm ix x)=>iF (pZ P t) λi=>bif bg i.sz 1 && bg len 1 then K (.own s.nx) ((s.del m).new (.jz i.e T mm ix [x] ar))else False
    |_=>False)
   |none=>iF (pZ P t) λi=>bif bo (len*i.sz) 16777216 then match PM P i.e i.sz s (K6 ρ ps.toList) (ax len i.z)with
   |some (ez,s')=>K (.own s'.nx) (s'.new (.own i.e i.sz ez))
   |none=>False else False
 | .makeMap _ ar=>K (.mp s.nx) (s.new (.map []))
 | .makeSlice t l c=>match ln ρ l,ln ρ c with
   | .d (.v (.int _ l)),.d (.v (.int _ c))=>iF (pZ P t) λi=>(0<=l/\l<=c/\c<=9223372036854775807/\(i.oC:Int)*c<=2 ^ 48)/\K (.own s.nx) (s.new (.own i.e i.sz (ax l.toNat i.z)))
   |_,_=>False
 | .store t x v=>match ln ρ x with
   | .nm n off=>bif Jq (ln ρ v)then Nm (ln ρ v).cl s λus s=>match s.get n with
     |some (.cells vs T)=>iF (pY P t) λm=>bif bg us.length m && bo (off+m) vs.length && PI us then
       K (.iZ []) (s.set n (.cells (vs.take off++(us++vs.drop (off+m))) T))else False
     |_=>False
     else False
   | .el n sz i f=>match nP s n with
     |some x=>ZA P t x n sz i f (ln ρ v) s K
     |none=>match IA P s t (ln ρ v)with
     |some (ds,s')=>match s'.get n with
      |some (.own T oA ez)=>iF (pY P t) λm=>bif bg sz oA && bg ds.length m && bo (f+m) sz then i<ez.length/\K (.iZ []) (s'.set n (.own T sz (zJ ez i f ds)))else False
      |some (.HA T ez)=>iF (pY P t) λm=>bif bg sz 1 && bg ds.length 1 && bg m 1 && bg f 0 then i<ez.length/\K (.iZ []) (s'.set n (.HA T (zJ ez i 0 ds)))else False
      |_=>False
     |none=>False
   | .na n off i=>match ln ρ v with
     | .d (.v u)=>(match s.get n with
       |some (.cells vs T)=>iF (pY P t) λm=>bif bg m 1 then i<(vs.drop off).length/\K (.iZ []) (s.set n (.cells (vs.take off++(vs.drop off).set i (.d (.v u))) T))else False
       |some (.vec ds T)=>iF (pY P t) λm=>bif bg m 1 then i<(ds.drop off).length/\K (.iZ []) (s.set n (.vec (ds.take off++(ds.drop off).set i (.v u)) T))else False
       |_=>False)
     |_=>False
   |_=>False
 | .slice t x lo hi ar=>match ln ρ x with
   | .own n=>match s.get n with
     |some (.own T sz ez)=>iF (gU P t) λoA=>bif bg sz oA then EE (Hf ρ lo) (Hf ρ hi) λl h=>match l,h with
      |none,ar=>K (.own n) s
      |none,aq h=>(0<=h/\h<=ez.length)/\K (.own s.nx) ((s.del n).new (.own T sz (ez.take h.toNat)))
      |some l,h=>NL sz ez (aq l) h λv=>K v (s.set n (.kg sz ez))else False
     |some (.kg sz ez)=>iF (gU P t) λoA=>bif bg sz oA then EE (Hf ρ lo) (Hf ρ hi) λl h=>NL sz ez l h λv=>K v s else False
     |_=>False
   |_=>False
 | .mapUpdate t x i v=>match ln ρ x with
   | .mp n=>iF (Hi P t) λke=>iF (Hg (ln ρ i)) λkv=>bif NP P ke.1 kv && WE (ln ρ v)then(match IA P s ke.2 (ln ρ v)with
     |some (ds,s')=>(match s'.get n with
      |some (.map es)=>tW kv es/\K (.iZ []) (s'.set n (.map (u7 kv ds es)))
      |_=>False)
     |none=>False)else False
   |_=>False
 | .mapEntry t x i=>match ln ρ x with
   | .mp n=>iF (Hi P t) λke=>iF (Hg (ln ρ i)) λkv=>bif NP P ke.1 kv then iF (Nk P ke.2) λz=>(match s.get n with
     |some (.map es)=>tW kv es/\∃b,Il P ke.2 λds=>LK es kv z ds b/\iF (HB P ke.2 ds) λv=>∀x:Int,K (.iZ [v,.d (.v (.int .i64 x))]) (s.set n (.CN (u7 kv ds es) kv x))
     |_=>False)else False
   |_=>False
 | .entryStore t x st v=>match ln ρ x with
   | .mp n=>(match ln ρ st with
     | .d (.v (.int _ b))=>iF (Hi P t) λke=>bif WE (ln ρ v)then(match IA P s ke.2 (ln ρ v)with
       |some (ds,s')=>(match s'.get n with
        |some (.CN es kv b')=>b=b'/\tW kv es/\K (.iZ []) (s'.set n (.map (u7 kv ds es)))
        |_=>False)
       |none=>False)else False
     |_=>False)
   |_=>False
 | .convert st d x=>match ln ρ x with
   | .d (.v (.string b))=>bif K8 P st then iF (WG P d) λe=>K (.own s.nx) (s.new (.HA e (jZ b)))else False
   | .own n=>match s.get n with
     |some (.own T sz ez)=>bif bg st d && bg sz 1 then iF (WG P d) λe=>bif bg T e then 1<=ez.length/\K (.own n) (s.set n (.kg sz ez))else False else False
     |_=>False
   |_=>False
 | .range t x=>match ln ρ x with
   | .d (.v (.string b))=>bif K8 P t then K (.nm s.nx 0) (s.new (.iter b 0))else False
   |_=>False
 | .next x au=>match ln ρ x with
   | .nm n 0=>match s.get n with
     |some (.iter b pos)=>dp (bv pos b.size)
       (K (.iZ [.d (.v (.bool au)),.d (.v (.int .i64 (pos:Nat))),.d (.v (.int .i32 (Utf8.decode b pos).1))]) (s.set n (.iter b (pos+(Utf8.decode b pos).2))))
       (K (.iZ [.d (.v (.bool av))]) s)
     |_=>False
   |_=>False
 | .call c=>match c.callee with
   | .value x=>match ln ρ x with
     | .fn f a b=>yNn H f (a++(Dv ρ c.args.toList++b)) s K
     |_=>False
   | .builtin .append=>match c.argTypes.toList with
     |[t1,t2]=>match Dv ρ c.args.toList with
      |[x,y]=>bif yRa s y then YN P t1 t2 s x y K else YA P t1 t2 s x y K
      |_=>False
     |_=>False
   | .builtin .delete=>match Dv ρ c.args.toList with
     |[.mp n,y]=>iF c.argTypes[0]? λt=>iF (Hi P t) λke=>iF (Hg y) λkv=>bif NP P ke.1 kv then(match s.get n with
      |some (.map es)=>tW kv es/\K (.iZ []) (s.set n (.map (CA kv es)))
      |_=>False)else False
     |_=>False
   |_=>False
 |_=>False
def uT {P:ac} {w:ag} {r:Nat} {O O':Obj} (h:w.heap[r]? =aq O') (hO:match O' with| .cells _ _ _=>False|_=>True):(setObj r O).run P w= .ok () (World.iT w r O):=by
 simp only[setObj,cf,h];cases O'<;>first|exact hO.elim|rfl
def nD {sz:Nat}:∀{ez:List (List D)} (i f:Nat) (ds:List D),(∀el∈ez,el.length=sz)->i<ez.length->f+ds.length<=sz->
 (zJ ez i f ds).flatten=NR ez.flatten (i*sz+f) ds/\∀el∈zJ ez i f ds,el.length=sz
 |[],i,f,ds,_,h,_=>by simp at h
 |el::ez,0,f,ds,hu,h,hd=>by
  have e1:=hu el iS;constructor
  ·simp only[zJ,List.modify_zero_cons,A9,NR,bu,nh];rw[yw (by omega),Hw (by omega)];simp
  ·intro e he;simp only[zJ,List.modify_zero_cons,jq]at he;rcases he with rfl|he
   ·simp only[iv,ng,o8];omega
   ·exact hu e (jc _ he)
 |el::ez,i+1,f,ds,hu,h,hd=>by
  have e1:=hu el iS;obtain⟨XD,XC⟩:=nD (ez:=ez) i f ds (λe he=>hu e (jc _ he)) (by simpa using h) hd;constructor
  ·simp only[zJ,Rl,A9,NR]at XD ⊢;rw[XD,zq,List.take_append,LF,e1];rw[mo (show el.length<=i*sz+sz+f by omega),show i*sz+sz+f-sz=i*sz+f by omega,Ik (show el.length<=i*sz+sz+f+ds.length by omega),show i*sz+sz+f+ds.length-sz=i*sz+f+ds.length by omega];simp
  ·intro e he;simp only[zJ,Rl,jq]at he XC;rcases he with rfl|he
   ·exact e1
   ·exact XC e he
def zVi {P:ac} {w:ag} {t b o:Nat} {v y:ab} {l:List ab} {T:ae} (hz:pY P t=aq 1) (hc:v.cells= #[y]) (ho:o<l.length) (h1:y.oh=au)
 (hb:w.heap[b]? =aq (.cells l.toArray T (l.length,l.length+1))):Hm P (storeVar t ⟨b,o,ar⟩ v) w (World.iT w b (.cells (l.set o y).toArray T (l.length,l.length+1))):=by
 have T7:w.cell? ⟨b,o,ar⟩=aq l[o]:=by rw[Wd hb];exact u' ho
 have hf:w.frozen? ⟨b,o,ar⟩=av:=by
  simp only[World.frozen?,hb];simp;omega
 have qj:w.setCell ⟨b,o,ar⟩ y=World.iT w b (.cells (l.set o y).toArray T (l.length,l.length+1)):=by
  unfold World.setCell World.iT;congr 1;apply Ri;intro i;rw[Array.getElem?_modify,Rt];have gn:b<w.heap.size:=by
   rcases vh b w.heap.size with h|h
   ·exact h
   ·rw[Hv h]at hb;cases hb
  by_cases hi:b=i
  ·subst hi;have my:w.heap[b]= .cells l.toArray T (l.length,l.length+1):=by rw[Rr gn]at hb;exact be hb
   simp[gn,my]
  ·simp[hi]
 have h0:(store ⟨b,o,ar⟩ y).run P w= .ok () (World.iT w b (.cells (l.set o y).toArray T (l.length,l.length+1))):=by
  unfold store;cases y<;>first|(cases h1;done)|(simp only[cf,T7,hf,oL,if_false,qj])
 unfold pY at hz;split at hz<;>first|(cases hz;done)|skip
 rename_i i hi;have hz:i.size=1:=be hz;unfold Hm storeVar;simp only[bind,run_bind,run_sizeOf hi,hc,hz];simp only[JL,iC,rn];have e:(storeCells ⟨b,o,ar⟩ [y] 0).run P w= .ok () (World.iT w b (.cells (l.set o y).toArray T (l.length,l.length+1))):=by
  unfold storeCells;simp only[bind,run_bind,uR,Fw,h0];unfold storeCells;rfl
 simpa using e
def gG {P:ac} {w:ag} {t b o n:Nat} {v:ab} {l vs:List ab} {T:ae} (hz:pY P t=aq n) (hc:v.cells=vs.toArray) (hn:vs.length=n) (ho:o+n<=l.length) (h1:∀y∈vs,y.oh=au)
 (hb:w.heap[b]? =aq (.cells l.toArray T)):Hm P (storeVar t ⟨b,o,ar⟩ v) w (World.iT w b (.cells (kj l o vs).toArray T)):=by
 unfold pY at hz;split at hz<;>first|(cases hz;done)|skip
 rename_i i hi;cases hz;unfold Hm storeVar;have:=vA (P:=P) vs 0 o l w hb (by omega) h1;simp only[Fw]at this;simp only[bind,run_bind,run_sizeOf hi,hc,JL,hn];simpa using this
end Sx
