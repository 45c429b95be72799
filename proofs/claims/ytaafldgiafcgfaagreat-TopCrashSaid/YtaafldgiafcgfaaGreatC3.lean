/- Texts of ours. No condition. -/
import Derived.Laws.Externs
import Derived.Lib.ConvBytes
import Derived.LoopN
import Derived.MapKept
import Derived.Test.YtaafldgiafcgfaaGreatC2
set_option linter.all false
open Go renaming Value->aa,World->ab,execOp->ac,Program->ae,undef->af,callFunc->ag,TypeId->aj,wp_mono->ak,grownCap->am,Oper->ao,FuncId->ap,MapEntry->aq,Operand->ar
open Option renaming some->au,none->av
open Nat renaming beq->aw,blt->ax,ble->ay
open List renaming range->az,replicate->ba,map->bc,mapM_cons->be
open Go.Lib renaming bytesCells->bg,bytesWorld->bo
open Bool renaming true->bu,false->bv
open List.Perm renaming append_left->bz,append_right->cd,cons->ce
open Option.some renaming injEq->cf,inj->cg
open Go.Value renaming pointer->ci,int->cm
open Array renaming replicate->cn,ext'->co
open Go.Sem renaming run->cp,bind->cq
open Go.Region renaming wanted->cr,ready->ct
open Go.IntKind renaming u64->cu,u32->cw,u8->cx,i64->cy
namespace Sx
open Go Go.RowKit Cv
variable {P:ae} {k:Ko} {L:List HP} {E:Ev} {s:St} {w:ab}
def Ev.le.app {E:Ev} (hd:Hd):E.le ⟨E.F,E.tab++[hd]⟩:=⟨FLe.refl _,y9e _ _⟩
def Rel.ownOpen (R:Rel k L E s w) {n t sz:Nat} {els:List (List D)} (h:s.get n=au (.own t sz els)):
 ∃a c xs sub,E.tab[n]? =au (.slice a els.length c,sub)/\DRL E.F els.flatten xs/\(∀el∈els,el.length=sz)/\Hp k w (slO t sz a els.length c xs::((wX n s.rows).map (rHP E)++fz E.F::L)):=by
 obtain⟨hk,hs,hh⟩:=R.focus h;cases hh with
 |cons ha hsub hd hr=>
  rcases ha with⟨e,_⟩|⟨⟨hv,sub⟩,h1,h2⟩
  ·cases e
  ·simp only[rowHP]at h2;obtain⟨a,c,xs,rfl,q1,q2,q3⟩:=h2;exact⟨a,c,xs,sub,h1,q1,q2,hk,_,.cons q3 hsub hd hr⟩
def cR {rows:List (Nat×AObj)} {nx t sz:Nat} {els:List (List D)} {a:Option Addr} {c:Nat} {xs:List aa} (hn:E.tab.length=nx) (hx:DRL E.F els.flatten xs) (hu:∀el∈els,el.length=sz)
 (H:Hp k w (slO t sz a els.length c xs::(rows.map (rHP E)++fz E.F::L))):
 ∃E',E.le E'/\Rel k L E' ⟨(nx,.own t sz els)::rows,nx+1⟩ w/\VR E' (.own nx) (.slice a els.length c):=by
 have hle:E.le ⟨E.F,E.tab++[(.slice a els.length c,[])]⟩:=⟨FLe.refl _,y9e _ _⟩
 have hget:(E.tab++[((.slice a els.length c,[]):Hd)])[nx]? =au (.slice a els.length c,[]):=by rw[<- hn];simp
 refine⟨⟨E.F,E.tab++[(.slice a els.length c,[])]⟩,hle,⟨by simp[hn],?_⟩,by simp only[VR];exact⟨[],hget,_,_,_,rfl⟩⟩;have H1:Hp k w (rows.map (rHP E)++(slO t sz a els.length c xs::fz E.F::L)):=H.perm (y5r (l₁:=rows.map (rHP E))).symm;have H2:=wE (λr x=>rHP.mono hle r) H1;have H3:Hp k w (slO t sz a els.length c xs::(rows.map (rHP ⟨E.F,E.tab++[(.slice a els.length c,[])]⟩)++fz E.F::L)):=H2.perm y5r;exact H3.imp λx hx'=> .inr ⟨_,hget,by simp only[rowHP];exact⟨a,c,xs,rfl,hx,hu,hx'⟩⟩
def zFi (R:Rel k L E s w) {o:AObj} {O:Obj} {hd:Hd} {K:V->St->Prop} {v:V} {y:aa} (h:rowHP E.F o (E.tab++[hd]) hd (one w.heap.size O)) (hv:(E.tab++[hd])[s.nx]? =au hd->VR ⟨E.F,E.tab++[hd]⟩ v y) (hk:K v (s.new o)):
 Outc k L E K y (w.alloc O):=by
 obtain⟨h1,h2,h3⟩:=R.new h;exact⟨_,v,_,h1,h2,hv h3,hk⟩
def Rel.setCells (R:Rel k L E s w) {n:Nat} {vs vs':List V} {T:aj} (h:s.get n=au (.cells vs T)) {b:Nat} {sub:List aa} (ht:E.tab[n]? =au (.pointer (au ⟨b,0,av⟩),sub)) {l':List aa} (hv:VRL E vs' l'):
 Rel k L E (s.set n (.cells vs' T)) (World.setB w b (.cells l'.toArray T)):=by
 obtain⟨hk,hs,hh⟩:=R.focus h;cases hh with
 |cons ha hsub hd hr=>
  rcases ha with⟨e,_⟩|⟨hd',h1,h2⟩
  ·cases e
  ·rw[ht]at h1;cases h1;simp only[rowHP]at h2;obtain⟨b',l,e1,e2,rfl⟩:=h2;cases e1;have H:Hp k w (pt b (.cells l.toArray T)::((wX n s.rows).map (rHP E)++fz E.F::L)):=⟨hk,_,.cons rfl hsub hd hr⟩
   refine R.unfocus h ((H.upd (.cells l'.toArray T)).imp λx hx=> .inr ⟨_,ht,?_⟩);simp only[rowHP];exact⟨b,l',rfl,hv,hx⟩
def Rel.setVec (R:Rel k L E s w) {n:Nat} {ds ds':List D} {T:aj} (h:s.get n=au (.vec ds T)) {b:Nat} {sub:List aa} (ht:E.tab[n]? =au (.pointer (au ⟨b,0,av⟩),sub)) {l':List aa} (hv:DRL E.F ds' l'):
 Rel k L E (s.set n (.vec ds' T)) (World.setB w b (.cells l'.toArray T)):=by
 obtain⟨hk,hs,hh⟩:=R.focus h;cases hh with
 |cons ha hsub hd hr=>
  rcases ha with⟨e,_⟩|⟨hd',h1,h2⟩
  ·cases e
  ·rw[ht]at h1;cases h1;simp only[rowHP]at h2;obtain⟨b',l,e1,e2,rfl⟩:=h2;cases e1;have H:Hp k w (pt b (.cells l.toArray T)::((wX n s.rows).map (rHP E)++fz E.F::L)):=⟨hk,_,.cons rfl hsub hd hr⟩
   refine R.unfocus h ((H.upd (.cells l'.toArray T)).imp λx hx=> .inr ⟨_,ht,?_⟩);simp only[rowHP];exact⟨b,l',rfl,hv,hx⟩
def Rel.setMap (R:Rel k L E s w) {n:Nat} {es es':List (aa×List D)} (h:s.get n=au (.map es)) {b:Nat} {sub:List aa} (ht:E.tab[n]? =au (.map (au b),sub)):
 ∃ents ck,MR E.F es ents/\w.heap[b]? =au (.map ents.toArray ck)/\vH ents ck/\∀ents' ck',MR E.F es' ents'->vH ents' ck'->Rel k L E (s.set n (.map es')) (World.setB w b (.map ents'.toArray ck')):=by
 obtain⟨hk,hs,hh⟩:=R.focus h;cases hh with
 |cons ha hsub hd hr=>
  rcases ha with⟨e,_⟩|⟨hd',h1,h2⟩
  ·cases e
  ·rw[ht]at h1;cases h1;simp only[rowHP]at h2;obtain⟨b',ents,ck,e1,e2,e3,rfl⟩:=h2;cases e1;have H:Hp k w (pt b (.map ents.toArray ck)::((wX n s.rows).map (rHP E)++fz E.F::L)):=⟨hk,_,.cons rfl hsub hd hr⟩
   refine⟨ents,ck,e2,H.get,e3,λents' ck' hm hbo=>R.unfocus h ((H.upd (.map ents'.toArray ck')).imp λx hx=> .inr ⟨_,ht,?_⟩)⟩;simp only[rowHP];exact⟨b,ents',ck',rfl,hm,hbo,hx⟩
def Rel.setMapE (R:Rel k L E s w) {n:Nat} {es es':List (aa×List D)} {kv:aa} (h:s.get n=au (.map es)) {b:Nat} {sub:List aa} (ht:E.tab[n]? =au (.map (au b),sub)):
 ∃ents ck,MR E.F es ents/\w.heap[b]? =au (.map ents.toArray ck)/\vH ents ck/\∀ents' ck' x,MR E.F es' ents'->vH ents' ck'->zLn ents' kv x->Rel k L E (s.set n (.mapS es' kv x)) (World.setB w b (.map ents'.toArray ck')):=by
 obtain⟨hk,hs,hh⟩:=R.focus h;cases hh with
 |cons ha hsub hd hr=>
  rcases ha with⟨e,_⟩|⟨hd',h1,h2⟩
  ·cases e
  ·rw[ht]at h1;cases h1;simp only[rowHP]at h2;obtain⟨b',ents,ck,e1,e2,e3,rfl⟩:=h2;cases e1;have H:Hp k w (pt b (.map ents.toArray ck)::((wX n s.rows).map (rHP E)++fz E.F::L)):=⟨hk,_,.cons rfl hsub hd hr⟩
   refine⟨ents,ck,e2,H.get,e3,λents' ck' x hm hbo hst=>R.unfocus h ((H.upd (.map ents'.toArray ck')).imp λy hy=> .inr ⟨_,ht,?_⟩)⟩;simp only[rowHP];exact⟨b,ents',ck',rfl,hm,hbo,hst,hy⟩
def Rel.setMapF (R:Rel k L E s w) {n:Nat} {es es':List (aa×List D)} {kv:aa} {x:Int} (h:s.get n=au (.mapS es kv x)) {b:Nat} {sub:List aa} (ht:E.tab[n]? =au (.map (au b),sub)):
 ∃ents ck,MR E.F es ents/\w.heap[b]? =au (.map ents.toArray ck)/\vH ents ck/\zLn ents kv x/\∀ents' ck',MR E.F es' ents'->vH ents' ck'->Rel k L E (s.set n (.map es')) (World.setB w b (.map ents'.toArray ck')):=by
 obtain⟨hk,hs,hh⟩:=R.focus h;cases hh with
 |cons ha hsub hd hr=>
  rcases ha with⟨e,_⟩|⟨hd',h1,h2⟩
  ·cases e
  ·rw[ht]at h1;cases h1;simp only[rowHP]at h2;obtain⟨b',ents,ck,e1,e2,e3,e4,rfl⟩:=h2;cases e1;have H:Hp k w (pt b (.map ents.toArray ck)::((wX n s.rows).map (rHP E)++fz E.F::L)):=⟨hk,_,.cons rfl hsub hd hr⟩
   refine⟨ents,ck,e2,H.get,e3,e4,λents' ck' hm hbo=>R.unfocus h ((H.upd (.map ents'.toArray ck')).imp λy hy=> .inr ⟨_,ht,?_⟩)⟩;simp only[rowHP];exact⟨b,ents',ck',rfl,hm,hbo,hy⟩
def yBb {l:List aq} (hn:(l.map (·.born)).Nodup):∀{q:Nat} {m:aq},l[q]? =au m->l.findIdx? (λe=>((e.born:Nat):Int)==((m.born:Nat):Int))=au q:=by
 induction l with
 |nil=>intro q m h;simp at h
 |cons a l ih=>
  intro q m h;simp only[y5p,y7r]at hn;cases q with
  |zero=>simp at h;subst h;simp[List.findIdx?_cons]
  |succ q=>
   simp only[y7b]at h;have hne:a.born≠m.born:=λe=>hn.1 (e▸y6n.2 ⟨m,y5m h,rfl⟩)
   have hne':¬((a.born:Nat):Int)=((m.born:Nat):Int):=by omega
   rw[List.findIdx?_cons,y5b (by simpa using hne'),ih hn.2 h];rfl
def yCo {F:PH} {P:ae} {t:aj} {ds:List D} {v:V} (h:zTh P t=au ds) (hm:mkM P t ds=au v):∃z ys,mU P t=au z/\DRL F ds ys/\z=pN ys:=by
 unfold zTh at h;split at h
 ·rename_i cs hz;split at h<;>first|(cases h;done)|skip
  rename_i n hn;obtain⟨hb,h⟩:=yT h;cases h;simp only[mkM,hn]at hm;obtain⟨hb2,hm⟩:=yT hm;simp only[y5o,y8o]at hb2;have h1:=y5e hb2.1;refine⟨_,cs.toList,hz,yIt hb,?_⟩;unfold pN;split
  ·rename_i y hy;rw[hy]at h1;simp only[y5p,y8t,y5g,y6v]at h1;rw[<- h1]at hb2;exact absurd hb2.2 (by decide)
  ·rfl
 ·rename_i z hne hz;split at h<;>first|(cases h;done)|skip
  rename_i hn;obtain⟨hb,h⟩:=yT h;cases h;exact⟨z,[z],hz,by simp only[DRL,DR];exact⟨_,_,rfl,⟨rfl,hb⟩,rfl⟩,rfl⟩
 ·cases h
def zWe {F:PH} {x:aa} {ds:List D} {ys:List aa} (hd:DRL F ds ys) {e:aq} (h1:e.key=x) (h2:e.val=pN ys):∀{es:List (aa×List D)} {ents:List aq},MR F es ents->MR F (es++[(x,ds)]) (ents++[e])
 |[],ents,h=>by
  simp only[MR]at h;subst h;simp only[y7v,MR];exact⟨e,[],rfl,h1,⟨ys,hd,h2⟩,rfl⟩
 |(y,d)::es,ents,h=>by
  simp only[MR]at h;obtain⟨m,ms,rfl,q1,q2,q3⟩:=h;simp only[y6t,MR];exact⟨m,_,rfl,q1,q2,zWe hd h1 h2 q3⟩
def zEi {kd:TypeDesc} {x:aa} (hk:zYq kd x):Instr.sameBits 10000 x x=bu:=by
 rcases hk with⟨ik,k,n,rfl,rfl⟩|⟨s,rfl,rfl⟩<;>simp only[Instr.sameBits]
 ·simp
 ·rw[z5w];simp
def zXx {E:Ev} {v:V} (hv:yMq v=bu) {y:aa} (h:VR E v y) {ys:List aa} (hc:y.cells=ys.toArray):y=pN ys:=by
 cases v<;>simp only[yMq,y5v]at hv
 ·rename_i d;simp only[VR]at h;have h1:y.oneC=bu:=DRL.one (F:=E.F) (vs:=[d]) (l:=[y]) (by simp only[DRL];exact⟨_,_,rfl,h,rfl⟩) y (by simp);have hcy:y.cells= #[y]:=by cases y<;>first|rfl|cases h1
  rw[hcy]at hc;have:ys=[y]:=by
   have:=congrArg Array.toList hc;simpa using this.symm
  rw[this];rfl
 ·rename_i l;simp only[VR]at h;obtain⟨zs,rfl,h2⟩:=h;simp only[Value.cells]at hc;have:ys=zs:=by
   have:=congrArg Array.toList hc;simpa using this.symm
  subst this;have hl:=h2.length;unfold pN;split
  ·simp only[y5g,y6v]at hl;rw[<- hl]at hv;exact absurd hv (by decide)
  ·rfl
def yHh {P:ae} {w:ab} {b:Nat} {l:List aa} {T t:aj} (hb:w.heap[b]? =au (.cells l.toArray T)) (ht:P.underlying t=au (.slice T)) (he:P.underlying T=au (.int .u8)) (n c:Nat):
 (convert t t (.slice (au ⟨b,0,av⟩) n c)).run P w= .ok (.slice (au ⟨b,0,av⟩) n c) (World.setB w b (.cells l.toArray T (l.length,l.length+1))):=by
 have hsh:w.shape? b=au (T,l.length):=by
  unfold World.shape?;rw[hb];simp
 have hfr:w.freeze ⟨b,l.length,av⟩ 1=World.setB w b (.cells l.toArray T (l.length,l.length+1)):=by
  unfold World.freeze World.setB;rw[y5b (by decide)];congr 1;apply xAy;intro i;rw[Array.getElem?_modify,y9h];by_cases c:b=i
  ·subst c;have hlt:b<w.heap.size:=(Array.getElem?_eq_some_iff.1 hb).1;rw[y5d rfl,y5d rfl,y5d hlt,hb];rfl
  ·rw[y5b c,y5b c]
 simp[convert,Go.run_underlying ht,Go.run_underlying he,markStringish,hsh];exact hfr
def Rel.setIter (R:Rel k L E s w) {n pos pos':Nat} {str:ByteArray} (h:s.get n=au (.iter str pos)) {b:Nat} {sub:List aa} (ht:E.tab[n]? =au (.pointer (au ⟨b,0,av⟩),sub)):
 w.heap[b]? =au (.stringIter str pos)/\Rel k L E (s.set n (.iter str pos')) (World.setB w b (.stringIter str pos')):=by
 obtain⟨hk,hs,hh⟩:=R.focus h;cases hh with
 |cons ha hsub hd hr=>
  rcases ha with⟨e,_⟩|⟨hd',h1,h2⟩
  ·cases e
  ·rw[ht]at h1;cases h1;simp only[rowHP]at h2;obtain⟨b',e1,rfl⟩:=h2;cases e1;have H:Hp k w (pt b (.stringIter str pos)::((wX n s.rows).map (rHP E)++fz E.F::L)):=⟨hk,_,.cons rfl hsub hd hr⟩
   refine⟨H.get,R.unfocus h ((H.upd (.stringIter str pos')).imp λx hx=> .inr ⟨_,ht,?_⟩)⟩;simp only[rowHP];exact⟨b,rfl,hx⟩
def Rel.setOwn (R:Rel k L E s w) {n T sz i f:Nat} {els:List (List D)} {ds:List D} (h:s.get n=au (.own T sz els)) (hi:i<els.length) (hf:f+ds.length<=sz) {b oo m c:Nat} {sub:List aa}
 (ht:E.tab[n]? =au (.slice (au ⟨b,oo,av⟩) m c,sub)) {ys:List aa} (hy:DRL E.F ds ys):
 ∃l:List aa,w.heap[b]? =au (.cells l.toArray T)/\oo+i*sz+f+ys.length<=l.length/\Rel k L E (s.set n (.own T sz (zX els i f ds))) (World.setB w b (.cells (spl l (oo+i*sz+f) ys).toArray T)):=by
 obtain⟨a,c',xs,sub',h1,hx,hu,H⟩:=R.ownOpen h;rw[ht]at h1;cases h1;rcases H.slcases with⟨e,_⟩|⟨b',r,e,h2,h3,h4,H1⟩
 ·cases e
 cases e;obtain⟨hfl,huu⟩:=aQ i f ds hu hi hf;have hin:i*sz+sz<=els.length*sz:=by
  have:=y6o sz (show i+1<=els.length by omega);rwa [y8a]at this
 have hyl:=hy.length;refine⟨xs++r,H1.get,by rw[y5a];omega,R.unfocus h ((H1.upd (.cells (spl (xs++r) (0+i*sz+f) ys).toArray T)).imp λx hx'=> .inr ⟨_,ht,?_⟩)⟩;simp only[rowHP];have hlen:(zX els i f ds).length=els.length:=by simp[zX]
 have hspl:spl (xs++r) (0+i*sz+f) ys=spl xs (i*sz+f) ys++r:=by
  simp only[spl,y6c];rw[y5y (by omega),y7t (by omega)];simp
 refine⟨_,c,spl xs (i*sz+f) ys,by rw[hlen],?_,huu,.inr ⟨b,r,rfl,by rw[hx',hspl],?_,?_,by rw[hlen];exact h4⟩⟩
 ·rw[hfl];exact zFc hx hy _
 ·rw[hlen,<- h2];simp only[spl,y5a,y5t,y5z];omega
 ·rw[<- h3];simp only[spl,y5a,y5t,y5z];omega
def z6h {l vs:List aa} {o:Nat} (h:o+vs.length<=l.length) (j:Nat):(spl l o vs)[j]? =if j<o then l[j]? else if j<o+vs.length then vs[j-o]? else l[j]? :=by
 unfold spl;have h1:(l.take o++vs).length=o+vs.length:=by simp;omega
 split
 ·rename_i hj;rw[y7x (by omega),y7x (by simp;omega),y9d,y5d hj]
 ·split
  ·rw[y7x (by omega),y7f (by simp;omega),y5t,y8u (by omega)]
  ·rw[y7f (by omega),h1,y7p];congr 1;omega
def zLf {l vs:List aa} {o p:Nat} {y:aa} (h:o+vs.length<=l.length) (hp:o+vs.length<=p\/p<o):spl (l.set p y) o vs=(spl l o vs).set p y:=by
 apply y9a;intro j;have hlen:(spl l o vs).length=l.length:=by simp[spl];omega
 rw[z6h (by rw[y6j];exact h),y8r,y8r,z6h h,hlen];by_cases hj:p=j
 ·subst hj;rw[y5d rfl,y5d rfl];split
  ·rfl
  ·rw[y5b (by omega)]
 ·rw[y5b hj,y5b hj]
def Rel.holOpen (R:Rel k L E s w) {n:Nat} {x:HolI} (h:aT s n=au x):
 ∃a c ys xs sub,E.tab[n]? =au (.slice a x.els.length c,sub)/\DRL E.F x.els.flatten ys/\(∀el∈x.els,el.length=x.sz)/\HolX E.tab (x.i*x.sz+x.f) x.b ys xs x.m/\Hp k w (slO x.T x.sz a x.els.length c xs::((wX n s.rows).map (rHP E)++fz E.F::L)):=by
 obtain⟨hk,hs,hh⟩:=R.focus (sH h);cases hh with
 |cons ha hsub hd hr=>
  rcases ha with⟨e,_⟩|⟨⟨hv,sub⟩,h1,h2⟩
  ·cases e
  ·simp only[rowHP]at h2;obtain⟨a,c,ys,xs,rfl,q1,q2,q3,q4⟩:=h2;exact⟨a,c,ys,xs,sub,h1,q1,q2,q3,hk,_,.cons q4 hsub hd hr⟩
def yJc {tab:List Hd} {p o:Nat} {b:Bool} {ys xs vs:List aa} (hl:o+vs.length<=ys.length) (hp:b=bu->o+vs.length<=p\/p<o):∀{m:Option Nat},HolX tab p b ys xs m->HolX tab p b (spl ys o vs) (spl xs o vs) m:=by
 have key:∀{y:aa},xs=(bif b then ys.set p y else ys)->spl xs o vs=bif b then(spl ys o vs).set p y else spl ys o vs:=by
  intro y h;cases b with
  |false=>rw[h];rfl
  |true=>rw[h,cond_true,cond_true];exact zLf hl (hp rfl)
 intro m;cases m with
 |none=>rintro⟨y,e,h⟩;exact⟨y,e,key h⟩
 |some m=>rintro⟨y,l,e1,e2,h⟩;exact⟨y,l,e1,e2,key h⟩
def Rel.setHol (R:Rel k L E s w) {n i f:Nat} {x:HolI} {ds:List D} (h:aT s n=au x) (hi:i<x.els.length) (hf:f+ds.length<=x.sz) (hcl:x.clear i f ds.length) {b oo m c:Nat} {sub:List aa}
 (ht:E.tab[n]? =au (.slice (au ⟨b,oo,av⟩) m c,sub)) {ys:List aa} (hy:DRL E.F ds ys):
 ∃l:List aa,w.heap[b]? =au (.cells l.toArray x.T)/\oo+i*x.sz+f+ys.length<=l.length/\Rel k L E (s.set n (.hol x.q x.T x.sz (zX x.els i f ds) x.i x.f x.b x.m)) (World.setB w b (.cells (spl l (oo+i*x.sz+f) ys).toArray x.T)):=by
 obtain⟨a,c',zs,xs,sub',h1,hz,hu,hx,H⟩:=R.holOpen h;rw[ht]at h1;cases h1;rcases H.slcases with⟨e,_⟩|⟨b',r,e,h2,h3,h4,H1⟩
 ·cases e
 cases e;obtain⟨hfl,huu⟩:=aQ i f ds hu hi hf;have hin:i*x.sz+x.sz<=x.els.length*x.sz:=by
  have:=y6o x.sz (show i+1<=x.els.length by omega);rwa [y8a]at this
 have hyl:=hy.length;have hzl:=zNb hx;refine⟨xs++r,H1.get,by rw[y5a];omega,R.unfocus (sH h) ((H1.upd (.cells (spl (xs++r) (0+i*x.sz+f) ys).toArray x.T)).imp λz hz'=> .inr ⟨_,ht,?_⟩)⟩;simp only[rowHP];have hlen:(zX x.els i f ds).length=x.els.length:=by simp[zX]
 have hspl:spl (xs++r) (0+i*x.sz+f) ys=spl xs (i*x.sz+f) ys++r:=by
  simp only[spl,y6c];rw[y5y (by omega),y7t (by omega)];simp
 refine⟨_,c,spl zs (i*x.sz+f) ys,spl xs (i*x.sz+f) ys,by rw[hlen],?_,huu,yJc (by omega) (λhb=> ?_) hx,.inr ⟨b,r,rfl,by rw[hz',hspl],?_,?_,by rw[hlen];exact h4⟩⟩
 ·rw[hfl];exact zFc hz hy _
 ·rw[hyl];exact z6o hf hcl.1 (hcl.2 hb)
 ·rw[hlen,<- h2];simp only[spl,y5a,y5t,y5z];omega
 ·rw[<- h3];simp only[spl,y5a,y5t,y5z];omega
def Rel.plugHol (R:Rel k L E s w) {n c0:Nat} {q:Bool} {x:HolI} (h:aT s n=au x) (hi:x.i<x.els.length) (hf:x.f<x.sz) {b oo m c:Nat} {sub:List aa}
 (ht:E.tab[n]? =au (.slice (au ⟨b,oo,av⟩) m c,sub)) {y:aa} {ly:List aa} (hc:E.tab[c0]? =au (y,ly)) (hs:∃a n c,y= .slice a n c):
 ∃l:List aa,w.heap[b]? =au (.cells l.toArray x.T)/\oo+x.i*x.sz+x.f+1<=l.length/\Rel k L E (s.set n (.hol q x.T x.sz x.els x.i x.f bu (au c0))) (World.setB w b (.cells (spl l (oo+x.i*x.sz+x.f) [y]).toArray x.T)):=by
 obtain⟨a,c',zs,xs,sub',h1,hz,hu,hx,H⟩:=R.holOpen h;rw[ht]at h1;cases h1;rcases H.slcases with⟨e,_⟩|⟨b',r,e,h2,h3,h4,H1⟩
 ·cases e
 cases e;have hin:x.i*x.sz+x.sz<=x.els.length*x.sz:=by
  have:=y6o x.sz (show x.i+1<=x.els.length by omega);rwa [y8a]at this
 have hzl:=zNb hx;refine⟨xs++r,H1.get,by rw[y5a];omega,R.unfocus (sH h) ((H1.upd (.cells (spl (xs++r) (0+x.i*x.sz+x.f) [y]).toArray x.T)).imp λz hz'=> .inr ⟨_,ht,?_⟩)⟩;simp only[rowHP];have hspl:spl (xs++r) (0+x.i*x.sz+x.f) [y]=xs.set (x.i*x.sz+x.f) y++r:=by
  simp only[spl,y6c];rw[y5y (by omega),y7t (by simp;omega),y8i,y5d (by omega)];simp
 have hset:xs.set (x.i*x.sz+x.f) y=zs.set (x.i*x.sz+x.f) y:=by
  have key:∀{z:aa},xs=(bif x.b then zs.set (x.i*x.sz+x.f) z else zs)->xs.set (x.i*x.sz+x.f) y=zs.set (x.i*x.sz+x.f) y:=by
   intro z h;cases hb:x.b with
   |false=>rw[h,hb];rfl
   |true=>rw[h,hb,cond_true,y9f]
  revert hx;cases x.m with
  |none=>rintro⟨z,_,h⟩;exact key h
  |some m=>rintro⟨z,l,_,_,h⟩;exact key h
 refine⟨_,c,zs,xs.set (x.i*x.sz+x.f) y,rfl,hz,hu,⟨y,ly,hc,hs,by rw[cond_true,hset]⟩,.inr ⟨b,r,rfl,by rw[hz',hspl],by rw[y6j,h2],by rw[<- h3];simp,h4⟩⟩
def z0x {P:ae} (R:Rel k L E s w) {t n sz i f:Nat} {x:HolI} {v:V} {K:V->St->Prop} (hx:aT s n=au x) (h:zMq P t x n sz i f v s K) {yv:aa} (hv:VR E v yv)
 {b oo m c:Nat} {l:List aa} (e1:E.tab[n]? =au (.slice (au ⟨b,oo,av⟩) m c,l)):∃w',zBp P (storeVar t ⟨b,oo+i*sz+f,av⟩ yv) w w'/\Outc k L E K af w':=by
 unfold zMq at h;obtain⟨hb,h⟩:=zK h;have e:=y5e hb;subst e;have ptup:∀{E':Ev},VR E' (.tup []) af:=λ{E'}=>by simp only[VR];exact⟨[],rfl,VRL.nil⟩
 have gen:∀{s':St} {ds:List D} {mm:Nat},elD P s t v=au (ds,s')->aT s' n=au x->mX P t=au mm->ds.length=mm->i<x.els.length->f+mm<=x.sz->x.clear i f mm->K (.tup []) (s'.set n (.hol x.q x.T x.sz (zX x.els i f ds) x.i x.f x.b x.m))->
  ∃w',zBp P (storeVar t ⟨b,oo+i*x.sz+f,av⟩ yv) w w'/\Outc k L E K af w':=by
  intro s' ds mm hd hh hm hl hi hf hcl hk;obtain⟨E',ys,q1,q2,q3,q4,q5,q6⟩:=zIg R hd hv;obtain⟨ll,r1,r2,r3⟩:=q3.setHol (ds:=ds) (i:=i) (f:=f) hh hi (by omega) (by rw[hl];exact hcl) (q1.get e1) q6;have hst:=uF (P:=P) (o:=oo+i*x.sz+f) hm q5 (by rw[q6.length,hl]) (by rw[q6.length,hl]at r2;exact r2) q6.one r1;exact⟨_,hst,E',_,_,q1,r3,ptup,hk⟩
 split at h
 ·rename_i c0 vv tt hs;clear hs;split at h<;>first|exact h.elim|skip
  rename_i t2 sz2 lv hg;have hopt:=zL h;clear h;obtain⟨mm,hm,hbif⟩:=hopt;have hb0:=zK hbif;clear hbif;obtain⟨hb,⟨hi,hf⟩,hq⟩:=hb0;simp only[y5o]at hb;have hb1:=y5e hb.1;subst hb1;simp only[VR]at hv;obtain⟨lc,hc,ha⟩:=hv;have hcl:yv.cells=[yv].toArray/\∀z∈[yv],z.oneC=bu:=by
   obtain⟨a,b,c,rfl⟩:=ha;exact⟨rfl,λz hz=>by rw[y6r.1 hz];rfl⟩
  have plug:∀{q:Bool},i=x.i->f=x.f->K (.tup []) (s.set n (.hol q x.T x.sz x.els x.i x.f bu (au c0)))->∃w',zBp P (storeVar t ⟨b,oo+i*x.sz+f,av⟩ yv) w w'/\Outc k L E K af w':=by
   intro q h1 h2 hk;subst h1 h2;obtain⟨ll,r1,r2,r3⟩:=R.plugHol (q:=q) hx hi hf e1 hc ha;exact⟨_,uF (P:=P) (o:=oo+x.i*x.sz+x.f) hm hcl.1 rfl r2 hcl.2 r1,E,_,_,Ev.le.refl _,r3,ptup,hk⟩
  split at hq
  ·obtain⟨⟨h1,h2⟩,hk⟩:=hq;exact plug h1 h2 hk
  ·obtain⟨hp,hfs,hn⟩:=hq;by_cases hpos:i=x.i/\f=x.f
   ·exact plug hpos.1 hpos.2 (hp hpos.1 hpos.2)
   ·have hn:=hn hpos;split at hn<;>first|exact hn.elim|skip
    rename_i ds s' hd;split at hn<;>first|exact hn.elim|skip
    rename_i y hy;obtain⟨hb2,rfl,hk⟩:=zK hn;exact gen hd hy hm (y5e hb2) hi (by omega) ⟨hfs,λ_ hi'=>by
     have:¬f=y.f:=λe=>hpos ⟨hi',e⟩
     omega⟩ hk
 ·split at h<;>first|exact h.elim|skip
  rename_i ds s' hd;split at h<;>first|exact h.elim|skip
  rename_i y hy;obtain⟨mm,hm,h⟩:=zL h;obtain⟨hb2,⟨rfl,hi,hf,hcl⟩,hk⟩:=zK h;exact gen hd hy hm (y5e hb2) hi hf hcl hk
def Rel.setMrk (R:Rel k L E s w) {n T i:Nat} {els:List (List D)} {ds:List D} (h:s.get n=au (.mrk T els)) (hi:i<els.length) (hf:ds.length=1) {b oo m c:Nat} {sub:List aa}
 (ht:E.tab[n]? =au (.slice (au ⟨b,oo,av⟩) m c,sub)) {y:aa} (hy:DRL E.F ds [y]):
 ∃l:List aa,w.heap[b]? =au (.cells l.toArray T (l.length,l.length+1))/\i<l.length/\Rel k L E (s.set n (.mrk T (zX els i 0 ds))) (World.setB w b (.cells (l.set (oo+i) y).toArray T (l.length,l.length+1)))/\oo=0:=by
 obtain⟨hk,hs,hh⟩:=R.focus h;obtain⟨b',c',xs,r,q1,q2,q3,q4,H⟩:∃b' c' xs r,(Value.slice (au ⟨b,oo,av⟩) m c)= .slice (au ⟨b',0,av⟩) els.length c'/\DRL E.F els.flatten xs/\(∀el∈els,el.length=1)/\els.length<=c'/\Hp k w (pt b' (.cells (xs++r).toArray T ((xs++r).length,(xs++r).length+1))::(((wX n s.rows).map (rHP E))++fz E.F::L)):=by
  cases hh with
  |cons ha hsub hdj hr=>
   rcases ha with⟨e,_⟩|⟨hv,h1,h2⟩
   ·cases e
   ·rw[ht]at h1;cases h1;simp only[rowHP]at h2;obtain⟨b',c',xs,r,e1,e2,e3,e4,rfl⟩:=h2;exact⟨b',c',xs,r,e1,e2,e3,e4,hk,_,.cons rfl hsub hdj hr⟩
 cases q1;obtain⟨hfl,huu⟩:=aQ i 0 ds q3 hi (by omega);have hxl:xs.length=els.length*1:=by rw[q2.length,jN q3]
 have hlen:(zX els i 0 ds).length=els.length:=by simp[zX]
 refine⟨xs++r,H.get,by rw[y5a];omega,R.unfocus h ((H.upd (.cells ((xs++r).set (0+i) y).toArray T ((xs++r).length,(xs++r).length+1))).imp λx hx'=> .inr ⟨_,ht,?_⟩),rfl⟩;simp only[rowHP];have hset:(xs++r).set (0+i) y=xs.set i y++r:=by rw[y6c,List.set_append_left _ _ (by omega)]
 refine⟨b,c,xs.set i y,r,by rw[hlen],?_,huu,by rw[hlen];exact q4,?_⟩
 ·rw[hfl];have e:xs.set i y=spl xs (i*1+0) [y]:=by
   rw[y8i,y5d (by omega)];simp[spl]
  rw[e];exact zFc q2 hy _
 ·rw[hset]at hx';rw[hx'];simp
def zRi (F:PH):∀l:List UInt8,DRL F (l.map λb=>[D.v (.int .u8 b.toNat)]).flatten (l.map λb=>cm .u8 b.toNat)
 |[]=>by simp[DRL]
 |b::l=>by
  simp only[y5p,y7o,y6t,y7v,DRL,DR];exact⟨_,_,rfl,⟨rfl,rfl⟩,zRi F l⟩
def yCm {a b:ab} (h1:a.heap=b.heap) (h2:a.tape=b.tape) (h3:a.drawn=b.drawn) (h4:a.os=b.os) (h5:a.output=b.output):a=b:=by
 cases a;cases b;simp only at h1 h2 h3 h4 h5;subst h1 h2 h3 h4 h5;rfl
def zQe (w:ab) (e:aj) (s:ByteArray):bo w e s=World.setB (w.drew.alloc (.cells (bg w e s) e)) w.heap.size (.cells (bg w e s) e ((bg w e s).size,(bg w e s).size+1)):=by
 have hh:(bo w e s).heap=(World.setB (w.drew.alloc (.cells (bg w e s) e)) w.heap.size (.cells (bg w e s) e ((bg w e s).size,(bg w e s).size+1))).heap:=by
  apply xAy;intro j;have hsz:(w.drew.alloc (.cells (bg w e s) e)).heap.size=w.heap.size+1:=by simp[World.alloc,World.drew,-World.alloc_eq,-World.drew_eq]
  simp only[World.setB];rw[y9h];by_cases hj:w.heap.size=j
  ·subst hj;rw[y5d rfl,y5d (by omega),Lib.bytesWorld_at_new]
  ·rw[y5b hj];rcases y7k j w.heap.size with h|h
   ·rw[Lib.bytesWorld_at_old w e s j h];have:(w.drew.alloc (.cells (bg w e s) e)).heap[j]? =w.heap[j]? :=by
     simp[World.alloc,World.drew,-World.alloc_eq,-World.drew_eq,Array.getElem?_push,Ne.symm hj]
    rw[this]
   ·rw[y8c (by rw[Lib.bytesWorld_size];omega),y8c (by omega)]
 refine yCm hh ?_ ?_ ?_ ?_<;>(unfold bo World.freeze World.setB;rw[y5b (by omega)])
def z4e (R:Rel k L E s w) (b:ByteArray) (e:aj) {K:V->St->Prop} (hk:K (.own s.nx) (s.new (.mrk e (kQ b)))):
 Outc k L E K (.slice (au ⟨w.heap.size,0,av⟩) b.size (am w b.size 0 e)) (bo w e b):=by
 have hl:(kQ b).length=b.size:=by simp[kQ]
 have hcap:b.size<=am w b.size 0 e:=grownCap_ge w b.size 0 e;have H:=((R.hp.drew).new (.cells (bg w e b) e)).upd (.cells (bg w e b) e ((bg w e b).size,(bg w e b).size+1));have hs:w.drew.heap.size=w.heap.size:=rfl;rw[hs,<- zQe]at H;obtain⟨hd,hhd⟩:∃hd:Hd,hd=(.slice (au ⟨w.heap.size,0,av⟩) b.size (am w b.size 0 e),[]):=⟨_,rfl⟩
 have hle:E.le ⟨E.F,E.tab++[hd]⟩:=Ev.le.app _;have hget:(E.tab++[hd])[s.nx]? =au hd:=by rw[<- R.nx];simp
 refine⟨⟨E.F,E.tab++[hd]⟩,.own s.nx,_,hle,⟨by simp[St.new,R.nx],?_⟩,?_,hk⟩
 ·have H1:Hp k (bo w e b) (s.rows.map (rHP E)++(pt w.heap.size (.cells (bg w e b) e ((bg w e b).size,(bg w e b).size+1))::fz E.F::L)):=H.perm (y5r (l₁:=s.rows.map (rHP E))).symm;have H2:=wE (λr x=>rHP.mono hle r) H1;have H3:Hp k (bo w e b) (pt w.heap.size (.cells (bg w e b) e ((bg w e b).size,(bg w e b).size+1))::(s.rows.map (rHP ⟨E.F,E.tab++[hd]⟩)++fz E.F::L)):=H2.perm y5r;refine H3.imp λx hx=> .inr ⟨hd,hget,?_⟩
  simp only[rowHP];refine⟨w.heap.size,am w b.size 0 e,b.data.toList.map λ(c:UInt8)=>cm .u8 c.toNat,ba (am w b.size 0 e-b.size) (cm .u8 0),by rw[hhd,hl],?_,?_,by rw[hl];exact hcap,?_⟩
  ·exact zRi _ _
  ·simp[kQ]
  ·have hx:x=one w.heap.size _:=hx;rw[hx];have ec:bg w e b=(b.data.toList.map (λ(c:UInt8)=>cm .u8 c.toNat)++ba (am w b.size 0 e-b.size) (cm .u8 0)).toArray:=by
    apply co;simp[bg]
   rw[ec];simp
 ·simp only[VR];exact⟨[],by rw[hget,hhd],_,_,_,rfl⟩
def z3b (R:Rel k L E s w) {sz:Nat} {v:V} {els:List (List D)} (h:zUo s sz v=au els) {y:aa} (hv:VR E v y):
 ∃ys,Src sz w y els.length ys/\DRL E.F els.flatten ys/\∀el∈els,el.length=sz:=by
 unfold zUo at h;split at h
 ·cases h;simp only[VR,DR]at hv;obtain⟨rfl,_⟩:=hv;exact⟨[],.inl ⟨av,0,rfl,pe,.inl ⟨rfl,rfl,rfl⟩,Sub.pe w⟩,by simp[DRL],by simp⟩
 ·rename_i b;obtain⟨hb,h⟩:=aY h;have:=y5e hb;subst this;cases h;simp only[VR,DR]at hv;obtain⟨rfl,_⟩:=hv;refine⟨b.data.toList.map λb=> .int .u8 b.toNat,.inr ⟨b,rfl,rfl,by simp[kQ],rfl⟩,?_,?_⟩
  ·unfold kQ;generalize b.data.toList=l
   induction l with
   |nil=>simp[DRL]
   |cons a l ih=>simp only[y5p,y7o,y6t,y7v,DRL,DR];exact⟨_,_,rfl,⟨rfl,rfl⟩,ih⟩
  ·intro el hel;unfold kQ at hel;obtain⟨x,_,rfl⟩:=y6n.1 hel;rfl
 ·split at h<;>first|(cases h;done)|skip
  rename_i sz' els' hd;obtain⟨hb,hh⟩:=aY h;clear h;have:=y5e hb;subst this;cases hh;obtain⟨a,c,xs,rfl,h2,h3,h4,h5⟩:=bY R hv hd;exact⟨xs,.inl ⟨a,c,rfl,h5⟩,h3,h4⟩
def zQd (R:Rel k L E s w) {t1 t2 rt:Nat} {x y:V} {xr yr:aa} (hx:VR E x xr) (hy:VR E y yr) {K:V->St->Prop} (h:zTj P t1 t2 s x y K):
 ∃v w',u0 P (Builtin.append_ #[t1,t2] rt #[xr,yr]) w v w'/\Outc k L E K v w':=by
 unfold zTj at h;obtain⟨i,hi,h⟩:=zL h;obtain⟨hb,h⟩:=zK h;simp only[y5o]at hb;obtain⟨els',hsrc,h⟩:=zL h;obtain⟨z,q1,q2,q3,q4⟩:=fP hi;obtain⟨ys,hsrc',hys,huy⟩:=z3b R hsrc hy;have hby:0<i.by_:=by simpa[y8d]using hb.2
 split at h<;>first|exact h.elim|skip
 ·obtain⟨hlen,hk⟩:=h;simp only[VR,DR]at hx;obtain⟨rfl,_⟩:=hx;obtain⟨a',c',w',hrun,H⟩:=(R.hp.nil i.e i.sz).append (P:=P) (rt:=rt) q1 hb.1 hsrc' hys.one (by rw[q2]) hby (by simpa using hlen);simp only[y6c,y7v]at hrun H;obtain⟨E',r1,r2,r3⟩:=cR R.nx hys huy H;exact⟨_,w',hrun,E',_,_,r1,r2,r3,hk⟩
 ·rename_i n;split at h<;>first|exact h.elim|skip
  rename_i T sz els hg;obtain⟨hb2,hlen,hk⟩:=zK h;simp only[y5o]at hb2;have e1:=y5e hb2.1;have e2:=y5e hb2.2;subst e1 e2;obtain⟨a,c,xs,sub,h1,hxs,hu,H⟩:=R.ownOpen hg;simp only[VR]at hx;obtain⟨l,hx,_⟩:=hx;rw[h1]at hx;cases hx;obtain⟨a',c',w',hrun,H⟩:=H.append (P:=P) (rt:=rt) q1 hb.1 hsrc' hys.one (by rw[q2]) hby hlen;obtain⟨E',r1,r2,r3⟩:=cR (els:=els++els') R.nx (by rw[xAb];exact hxs.append hys) (λel hel=>by
   rcases y6f.1 hel with h|h
   ·exact hu el h
   ·exact huy el h) (by rw[y5a];exact H)
  rw[y5a]at r3;exact⟨_,w',hrun,E',_,_,r1,r2,r3,hk⟩
def Rel.newFro {E:Ev} {s:St} (R:Rel k L E s w) {sz:Nat} {els:List (List D)} {y:aa} (h:DR E.F (.ro sz els) y):∃E',E.le E'/\Rel k L E' (s.new (.fro sz els)) w/\E'.tab[s.nx]? =au (y,[]):=by
 have hle:E.le ⟨E.F,E.tab++[(y,[])]⟩:=Ev.le.app _;have hget:(E.tab++[((y,[]):Hd)])[s.nx]? =au (y,[]):=by rw[<- R.nx];simp
 refine⟨_,hle,⟨by simp[St.new,R.nx],?_⟩,hget⟩;have H2:=wE (λr x=>rHP.mono hle r) R.hp;have:=(@uA k w True _).2 ⟨trivial,H2⟩;exact this.imp λx hx=> .inr ⟨_,hget,by simp only[rowHP];exact⟨hx.2,h⟩⟩
def zDs:∀{vs:List V} {s:St} {K:List V->St->Prop} {E:Ev} {l:List aa},zRc vs s K->Rel k L E s w->VRL E vs l->∃E' vs' s',E.le E'/\Rel k L E' s' w/\VRL E' vs' l/\K vs' s'
 |[],s,K,E,l,h,R,hv=>⟨E,[],s,Ev.le.refl _,R,hv,h⟩
 |v::vs,s,K,E,l,h,R,hv=>by
  simp only[zRc]at h;simp only[VRL]at hv;obtain⟨x,xs,rfl,h1,h2⟩:=hv;split at h
  ·rename_i sz els;simp only[VR]at h1;obtain⟨E1,q1,q2,q3⟩:=R.newFro h1;obtain⟨E2,vs',s',r1,r2,r3,r4⟩:=zDs h q2 (h2.mono q1);refine⟨E2,_,s',q1.trans r1,r2,?_,r4⟩;simp only[VRL,VR];simp only[DR]at h1;obtain⟨a,c,e,_⟩:=h1;exact⟨x,xs,rfl,⟨[],r1.get q3,a,_,c,e⟩,r3⟩
  ·obtain⟨E2,vs',s',r1,r2,r3,r4⟩:=zDs h R h2;exact⟨E2,_,s',r1,r2,by simp only[VRL];exact⟨x,xs,rfl,h1.mono r1,r3⟩,r4⟩
def Outc.up {E E':Ev} (h:E.le E') {K:V->St->Prop} {y:aa} {w':ab}:Outc k L E' K y w'->Outc k L E K y w':=λ⟨E2,v,s',h1,h2⟩=>⟨E2,v,s',h.trans h1,h2⟩
def z0l {H:Hnd} (hH:HOk P H) (R:Rel k L E s w) {f:ap} {args:List V} {ys:List aa} {K:V->St->Prop} (h:yJe H f args s K) (hv:VRL E args ys):Does P (ag f ys.toArray) w (Outc k L E K):=by
 unfold yJe at h;split at h
 ·rename_i n i rest;split at h<;>first|exact h.elim|skip
  rename_i t T m unf l hg;obtain⟨x,hx,h⟩:=h;simp only[VRL]at hv;obtain⟨y,ys,rfl,h1,h2⟩:=hv;have h1':=h1;obtain⟨E1,hle,R1,hv1,l0,ht⟩:=R.takeOut hg hx h1;have hvl:VRL E1 (.nm s.nx 0::rest) (y::ys):=by simp only[VRL];exact⟨_,_,rfl,hv1,h2.mono hle⟩
  refine(hH f _ _ _ h k L E1 w _ R1 hvl).mono ?_;rintro r w' ⟨E',v,s',hle',R',hvr,hk⟩;unfold yRj at hk;split at hk<;>first|exact hk.elim|skip
  rename_i o ha;split at hk<;>first|exact hk.elim|skip
  rename_i t' T' m' unf' l' j hn;obtain⟨x',rfl,rfl,hi,hk⟩:=hk;simp only[VR]at h1';obtain⟨hd,lsub,b,oo,e1,e2,e3⟩:=h1';have e1':=(hle.trans hle').get e1;have R2:=R'.putBack ha hn hi (hle'.get ht) (λv sub hs=>by rw[e1']at hs;cases hs;exact e2);exact⟨E',v,_,hle.trans hle',R2,hvr,hk⟩
 ·exact hH f _ s K h k L E w _ R hv
def zVt {E:Ev} {ps:List (Nat×V)} {qs:List (Nat×aa)} {m:Nat} (h:zUb ps=au m) (hp:PRL E ps qs):∃y,qs=[(0,y)]/\VR E (.nm m 0) y:=by
 unfold zUb at h;split at h<;>first|(cases h;done)|skip
 cases h;simp only[PRL]at hp;obtain⟨y,ys,rfl,h1,rfl⟩:=hp;exact⟨y,rfl,h1⟩
def zWj (R:Rel k L E s w) {t:aj} {i:SlI} (hi:m7 P t=au i) (hsz:i.sz=1) {m:Nat} {T:Type} {mm:Nat} {unf:T->Nat->AObj} {x:T} (hg:s.get m=au (.adt T mm unf x)) {qs:List (Nat×aa)}
 (hp:∃y,qs=[(0,y)]/\VR E (.nm m 0) y) {K:V->St->Prop} (hk:K (.own s.nx) ((s.del m).new (.objs i.e T mm unf [x] av))):
 ∃v w',(Instr.buildSlice t 1 qs.toArray).run P w= .ok v w'/\Outc k L E K v w':=by
 obtain⟨y,rfl,hv⟩:=hp;simp only[VR]at hv;obtain⟨b,oo,l0,e1,rfl⟩:=hv;obtain⟨z,q1,q2,q3,q4⟩:=fP hi;obtain⟨inf,zv,p1,p2,p3,p4,p5,p6⟩:=kH q1;have hbsl:bsl P t 1 #[(0,ci (au ⟨b,oo+0,av⟩))]=au (i.e,#[ci (au ⟨b,oo,av⟩)]):=by
  unfold bsl;simp only[p1,p2];rw[y5b (by rw[p3,hsz];omega)];have hz:(if 1*inf.size=0 then au #[]else inf.zero.map Value.cells)=au z:=by
   rw[y5b (by rw[p3,hsz];omega),p5,y7e,p6]
  rw[hz];simp only;have hrow:zBl z (1*inf.size)=z:=by
   rw[p3,hsz];have hz1:z.size=1:=by rw[q2,hsz]
   apply co;have:=sD (z:=z.toList) 1;rw[xAn,show z.toList.length=1 by simp[hz1]]at this;simpa using this
  rw[hrow,p3,hsz];have hz1:z.toList.length=1:=by simp[q2,hsz]
  obtain⟨z0,hz0⟩:∃z0,z= #[z0]:=by
   match hzl:z.toList,hz1 with
   |[a],_=>exact⟨a,by apply co;simpa using hzl⟩
  subst hz0;simp[Instr.fill,Value.cells]
 refine⟨_,_,aJ hbsl w,?_⟩;have R1:=R.take hg;have H:=(R1.hp.new (.cells #[ci (au ⟨b,oo,av⟩)] i.e)).lit (l:=[ci (au ⟨b,oo,av⟩)]) (sz:=1) (n:=1) rfl;have H1:Hp k (w.alloc (.cells #[ci (au ⟨b,oo,av⟩)] i.e)) (rHP E (m,.adt T mm unf x)::slO i.e 1 (au ⟨w.heap.size,0,av⟩) 1 1 [ci (au ⟨b,oo,av⟩)]::((s.del m).rows.map (rHP E)++fz E.F::L)):=by
  refine H.perm ?_;refine(ce _ ?_).trans (.swap _ _ _);exact(bz _ (.swap _ _ _)).trans y5r
 have H2:=(H1.imp λq hq=>zJw e1 hq).swap;have H3:Hp k (w.alloc (.cells #[ci (au ⟨b,oo,av⟩)] i.e)) (slO i.e 1 (au ⟨w.heap.size,0,av⟩) [x].length 1 [ci (au ⟨b,oo,av⟩)]::((az [x].length).map (xP E.F T mm unf [x] [ci (au ⟨b,oo,av⟩)] av)++((s.del m).rows.map (rHP E)++fz E.F::L))):=by
  have H3:=H2.swap.imp (B:=xP E.F T mm unf [x] [ci (au ⟨b,oo,av⟩)] av 0) λq hq=>by
   unfold xP;rw[y5b (by simp)];exact⟨x,_,l0,rfl,rfl,hq⟩
  exact H3.swap
 obtain⟨E2,t1,t2,t3⟩:=zGe (l:=[x]) (by simpa[St.del]using R.nx) rfl (λp hp=>by rw[y6r.1 hp];exact⟨_,_,rfl⟩) H3;exact⟨E2,_,_,t1,t2,t3,hk⟩
def zOx (R:Rel k L E s w) {t1 t2 rt:Nat} {x y:V} {xr yr:aa} (hx:VR E x xr) (hy:VR E y yr) {K:V->St->Prop} (h:zNe P t1 t2 s x y K):
 ∃v w',(Builtin.append_ #[t1,t2] rt #[xr,yr]).run P w= .ok v w'/\Outc k L E K v w':=by
 unfold zNe at h;split at h<;>first|exact h.elim|skip
 rename_i n2;split at h<;>first|exact h.elim|skip
 rename_i t2' T2 m2 unf2 l2 hg2;obtain⟨i,hi,h⟩:=zL h;obtain⟨hb,h⟩:=zK h;simp only[y5o]at hb;have hby:0<i.by_:=by simpa[y8d]using hb.1.2
 have hsz:=y5e hb.2;obtain⟨z,q1,q2,q3,q4⟩:=fP hi;rw[hsz]at q1 q2;obtain⟨a2,c2,sub2,g1,g2,g3,H⟩:=zEz R hg2;simp only[VR]at hy;obtain⟨ly,hy,_⟩:=hy;rw[g1]at hy;cases hy;have hsrc:Src 1 w (.slice a2 l2.length c2) l2.length sub2:= .inl ⟨a2,c2,rfl,by obtain⟨q,hq,hs⟩:=H.sat;exact⟨q,aR hq,hs⟩⟩;have hone:∀v∈sub2,v.oneC=bu:=λv hv=>by obtain⟨_,_,rfl⟩:=g3 v hv;rfl
 split at h<;>first|exact h.elim|skip
 ·obtain⟨hlen,hk⟩:=h;simp only[VR,DR]at hx;obtain⟨rfl,_⟩:=hx;obtain⟨a',c',w',hrun,H1⟩:=(H.nil i.e 1).append (P:=P) (rt:=rt) q1 hb.1.1 hsrc hone q2 hby (by simpa using hlen);simp only[y6c,y7v]at hrun H1;have H2:=H1.swap.drop;obtain⟨E',r1,r2,r3⟩:=zGe (rows:=wX n2 s.rows) R.nx g2 g3 H2;exact⟨_,w',hrun,E',_,_,r1,r2,r3,hk⟩
 ·rename_i n hsh hsh2;split at h<;>first|exact h.elim|skip
  rename_i t1' T1 m1 unf1 l1 hg1;obtain⟨l1',he1,hlen,hk⟩:=h;rw[he1]at hg1;have R1:=R.take hg2;obtain⟨a1,c1,sub1,f1,f2,f3,H1⟩:=zEz R1 hg1;simp only[VR]at hx;obtain⟨lx,hx,_⟩:=hx;rw[f1]at hx;cases hx;obtain⟨a',c',w',hrun,H2⟩:=H1.append (P:=P) (rt:=rt) q1 hb.1.1 hsrc hone q2 hby hlen;have p1:(bc (xP E.F T2 m2 unf2 l1' sub1 av) (az l1'.length)++(bc (rHP E) (wX n (s.del n2).rows)++fz E.F::rHP E (n2,AObj.objs t2' T2 m2 unf2 l2 av)::L)).Perm
   (rHP E (n2,AObj.objs t2' T2 m2 unf2 l2 av)::(bc (xP E.F T2 m2 unf2 l1' sub1 av) (az l1'.length)++(bc (rHP E) (wX n (s.del n2).rows)++fz E.F::L))):=
   (bz _ ((bz _ (.swap _ _ _)).trans y5r)).trans y5r
  have H3:=(H2.cons p1).swap;have H4:Hp k w' (hS2 (slO t2' 1 a2 l2.length c2 sub2) (hS ((az l2.length).map (xP E.F T2 m2 unf2 l2 sub2 av)))::slO i.e 1 a' (l1'.length+l2.length) c' (sub1++sub2)::(bc (xP E.F T2 m2 unf2 l1' sub1 av) (az l1'.length)++(bc (rHP E) (wX n (s.del n2).rows)++fz E.F::L))):=
   H3.imp λq hq=>by
    rcases hq with⟨e,_⟩|⟨hd,h1,h2⟩
    ·cases e
    ·rw[g1]at h1;cases h1;obtain⟨a3,c3,e3,_,_,e4⟩:=rowHP_objs.1 h2;cases e3;exact e4
  have H5:=hp_star.1 (hp_star2.1 H4).drop;have H6:Hp k w' (slO i.e 1 a' (l1'++l2).length c' (sub1++sub2)::((az (l1'++l2).length).map (xP E.F T2 m2 unf2 (l1'++l2) (sub1++sub2) av)++((wX n (s.del n2).rows).map (rHP E)++fz E.F::L))):=by
   have H7:Hp k w' ((az l1'.length).map (xP E.F T2 m2 unf2 l1' sub1 av)++((az l2.length).map (xP E.F T2 m2 unf2 l2 sub2 av)++(slO i.e 1 a' (l1'.length+l2.length) c' (sub1++sub2)::((wX n (s.del n2).rows).map (rHP E)++fz E.F::L)))):=by
    refine H5.perm ?_;refine(bz _ (y5r.symm)).trans ?_;rw[<- y5i,<- y5i];exact cd _ y7h
   have H8:=yHd f2 H7;rw[y5a]at H8 ⊢;exact H8.perm y5r
  obtain⟨E',r1,r2,r3⟩:=zGe (rows:=wX n (s.del n2).rows) (by simpa[St.del]using R1.nx) (by rw[y5a,y5a,f2,g2]) (λp hp=>by
   rcases y6f.1 hp with h|h
   ·exact f3 p h
   ·exact g3 p h) H6
  rw[y5a]at r3;exact⟨_,w',hrun,E',_,_,r1,r2,r3,hk⟩
def z0q {H:Hnd} {E:Ev} {s:St} {w:ab} (R:Rel k L E s w) {ρS:y8} {ρ:Env} (he:EnvR E ρS ρ) {o:ao} {K:V->St->Prop} {t:aj} {x:ar} {lo hi:Option ar} (ho:o.op= .slice t x lo hi av) (h:se P H o ρS s K):
 ∃y,zNq P (ac (ev ρ) o) y/\Outc k L E K y w:=by
 simp only[se,ho]at h;split at h<;>first|exact h.elim|skip
 rename_i n hxs;have hx:=he.ev x;rw[hxs]at hx;have ro:∀{E':Ev} {s':St} {sz:Nat} {els:List (List D)} {l u:Option Int} {K':V->Prop},E.le E'->Rel k L E' s' w->DR E'.F (.ro sz els) (ev ρ x)->uT P t=au sz->zPz ρS lo=au l->zPz ρS hi=au u->yAz sz els l u K'->(∀v,K' v->K v s')->
  ∃y,zNq P (ac (ev ρ) o) y/\Outc k L E K y w:=by
  intro E' s' sz els l u K' hle R' hdr hs h1 h2 hsl hk;obtain⟨a,c,v,e1,hkv,hcut⟩:=hdr.ro_cut hsl;have hp:cA P o ρ (λy=>VR E' v y):=by
   simp only[cA,ho,e1,hs,gY he h1,gY he h2,zKo];exact z0y (λp n c hh=>hh E' rfl) hcut
  obtain⟨y,hy,hf⟩:=gL hp;exact⟨y,hf,E',v,s',hle,R',hy,hk v hkv⟩
 split at h<;>first|exact h.elim|skip
 ·rename_i T sz els hg;obtain⟨sz',hs,h⟩:=zL h;obtain⟨hb,hh⟩:=zK h;clear h;have e:=y5e hb;subst e;obtain⟨l,u,h1,h2,h⟩:=nP hh;clear hh;cases l with
  |none=>
   obtain⟨a,c,xs,sub,q1,q2,q3,H⟩:=R.ownOpen hg;have hx0:=hx;simp only[VR]at hx;obtain⟨sub',hx,_⟩:=hx;rw[q1]at hx;have hev:ev ρ x= .slice a els.length c:=((Prod.mk.inj (cg hx)).1).symm;have hnc:els.length<=c:=H.len.2;cases u with
   |none=>
    have hp:cA P o ρ (λy=>VR E (.own n) y):=by
     simp only[cA,ho,hev,hs,gY he h1,gY he h2,zKo,slN];exact⟨hnc,by rw[hev]at hx0;exact hx0⟩
    obtain⟨y,hy,hf⟩:=gL hp;exact⟨y,hf,E,_,s,Ev.le.refl _,R,hy,h⟩
   |some u=>
    obtain⟨⟨h3,h4⟩,hk⟩:=h;have hux:(els.take u.toNat).length=u.toNat:=by rw[y5t];omega
    have H2:Hp k w (slO T sz a (els.take u.toNat).length c (xs.take (u.toNat*sz))::((wX n s.rows).map (rHP E)++fz E.F::L)):=by
     refine H.imp λz hz=> ?_
     rw[hux];rcases hz with⟨rfl,z1,rfl,rfl,rfl⟩|⟨b,r,rfl,rfl,z2,z3,z4⟩
     ·left;exact⟨rfl,by omega,rfl,by simp,rfl⟩
     ·right;have hle:u.toNat*sz<=els.length*sz:=y6o _ (by omega);refine⟨b,xs.drop (u.toNat*sz)++r,rfl,?_,?_,?_,by omega⟩
      ·rw[<- y5i,y7g]
      ·rw[y5t];omega
      ·rw[<- y5i,y7g];exact z3
    obtain⟨E',r1,r2,r3⟩:=cR (els:=els.take u.toNat) R.nx (by rw[<- pD _ q3];exact q2.take _) (λel hel=>q3 el (y8x hel)) H2;have hp:cA P o ρ (λy=>VR E' (.own s.nx) y):=by
     simp only[cA,ho,hev,hs,gY he h1,gY he h2,zKo,slN];rw[hux]at r3;exact⟨⟨h3,by omega⟩,r3⟩
    obtain⟨y,hy,hf⟩:=gL hp;exact⟨y,hf,E',_,_,r1,r2,hy,hk⟩
  |some l=>
   have hfr:=zGc R (v:= .own n) (d:= .ro sz els) (s':=s.set n (.fro sz els)) (by simp only[z3f,hg]) hx;obtain⟨E',r1,r2,r3,r4,r5⟩:=hfr;exact ro r1 r3 r5 hs h1 h2 h (λv hv=>hv)
 ·rename_i sz els hg;obtain⟨sz',hs,h⟩:=zL h;obtain⟨hb,hh⟩:=zK h;clear h;have e:=y5e hb;subst e;obtain⟨l,u,h1,h2,h⟩:=nP hh;clear hh;have hfr:=zGc R (v:= .own n) (d:= .ro sz els) (s':=s) (by simp only[z3f,hg]) hx;obtain⟨E',r1,r2,r3,r4,r5⟩:=hfr;exact ro r1 r3 r5 hs h1 h2 h (λv hv=>hv)
def z0j {H:Hnd} (hH:HOk P H) (R:Rel k L E s w) {ρS:y8} {ρ:Env} (he:EnvR E ρS ρ) {o:ao} {K:V->St->Prop} (h:se P H o ρS s K):Does P (ac (ev ρ) o) w (Outc k L E K):=by
 cases ho:o.op
 case alloc e=>
  simp only[se,ho]at h;obtain⟨z,hz,h⟩:=zL h;obtain⟨hb,hk⟩:=zK h;obtain⟨l,hl,hv⟩:=VR.cells (E:=E) hb (zPl E z);simp only[ac,ho];refine yD (v:= .pointer (au ⟨w.heap.size,0,av⟩)) (w':=w.alloc (.cells z.cells e)) ?_ ?_
  ·simp only[Instr.alloc,bind,pure,run_bind,zero_run (dQ hz),cp,zOa]
  ·refine zFi (hd:=(.pointer (au ⟨w.heap.size,0,av⟩),[])) R ?_ (λhg=> ?_) hk
   ·simp only[rowHP];exact⟨_,l,rfl,VRL.mono (Ev.le.app _) hv,by rw[hl]⟩
   ·simp only[VR];exact⟨_,0,_,hg,rfl⟩
 case box e x=>
  simp only[se,ho]at h;obtain⟨hb,hk⟩:=zK h;obtain⟨l,hl,hv⟩:=VR.cells (E:=E) hb (he.ev x);obtain⟨E1,us,s1,hle1,R1,hv,hk⟩:=zDs hk R hv;simp only[ac,ho];refine yD (v:= .pointer (au ⟨w.heap.size,0,av⟩)) (w':=w.alloc (.cells (ev ρ x).cells e)) rfl (Outc.up hle1 ?_);refine zFi (hd:=(.pointer (au ⟨w.heap.size,0,av⟩),[])) R1 ?_ (λhg=> ?_) hk
  ·simp only[rowHP];exact⟨_,l,rfl,VRL.mono (Ev.le.app _) hv,by rw[hl]⟩
  ·simp only[VR];exact⟨_,0,_,hg,rfl⟩
 case buildSlice t len ps=>
  simp only[se,ho]at h;split at h
  ·rename_i m hm;split at h<;>first|exact h.elim|skip
   rename_i T mm unf x hg;obtain⟨i,hi,h⟩:=zL h;obtain⟨hb,hk⟩:=zK h;simp only[y5o]at hb;have hb1:=y5e hb.1;have hb2:=y5e hb.2;subst hb2;obtain⟨v,w',hr,hout⟩:=zWj R hi hb1 hg (hp:=zVt hm (zAm he ps.toList)) hk;simp only[ac,ho];refine yD ?_ hout;have hps:(ps.map λ(x:Nat×ar)=>(x.1,ev ρ x.2))=(ps.toList.map λp=>(p.1,ev ρ p.2)).toArray:=by apply co;simp
   rw[hps];exact hr
  obtain⟨i,hi,h⟩:=zL h;obtain⟨hb,h⟩:=zK h;split at h<;>first|exact h.elim|skip
  rename_i els s' hf;obtain⟨z,q1,q2,q3,q4⟩:=fP hi;obtain⟨inf,zv,p1,p2,p3,p4,p5,p6⟩:=kH q1;have hc0:DRL E.F (ba len i.z).flatten (zBl z (len*i.sz)).toList:=by
   rw[<- q2,show z.size=z.toList.length by simp];have:=sD (z:=z.toList) len;rw[xAn]at this;rw[this];exact zVz (q4 E.F) len
  obtain⟨E',cs',r1,r2,r3,r4,r5,r6,r7,r8⟩:=zXi R hf (zAm he ps.toList) (zFu q3) hc0;have hbsl:bsl P t len (ps.map λ(i,x)=>(i,ev ρ x))=au (i.e,cs'.toArray):=by
   unfold bsl;simp only[p1,p2];rw[y5b (by rw[p3];have:=y7i hb;omega)];have hz:(if len*inf.size=0 then au #[]else inf.zero.map Value.cells)=au (if len*inf.size=0 then #[]else z):=by
    split
    ·rfl
    ·rw[p5,y7e,p6]
   have hrow:zBl (if len*inf.size=0 then #[]else z) (len*inf.size)=zBl z (len*i.sz):=by
    rw[p3];by_cases h0:len*i.sz=0
    ·rw[y5d h0,h0];rfl
    ·rw[y5b h0]
   rw[hz];simp only;rw[hrow];simp only[p3];rw[xAn]at r8;have hps:(ps.map λ(x:Nat×ar)=>(x.1,ev ρ x.2)).toList=ps.toList.map λp=>(p.1,ev ρ p.2):=by simp
   rw[hps,r8];rfl
  simp only[ac,ho];refine yD (aJ hbsl w) ?_;have hlen:els.length=len:=by rw[r6,y8g]
  have hxl:cs'.length=els.length*i.sz:=by rw[r7.length,jN r5]
  have H:=(r3.hp.new (.cells cs'.toArray i.e)).lit hxl;obtain⟨E2,t1,t2,t3⟩:=cR r3.nx r7 r5 H;rw[hlen]at t3;exact⟨E2,_,_,r1.trans t1,t2,t3,h⟩
 case makeMap t r=>
  cases r with
  |some r=>simp only[se,ho]at h
  |none=>
   simp only[se,ho]at h;simp only[ac,ho];refine yD (v:= .map (au w.heap.size)) (w':=w.alloc (.map #[] 0)) rfl ?_;refine zFi (hd:=(.map (au w.heap.size),[])) R ?_ (λhg=> ?_) h
   ·simp only[rowHP];exact⟨_,[],0,rfl,by simp only[MR],yJy,rfl⟩
   ·simp only[VR];exact⟨_,_,hg,rfl⟩
 case makeSlice t l c=>
  simp only[se,ho]at h;split at h<;>first|exact h.elim|skip
  rename_i kl l' kc c' hl hc;obtain⟨i,hi,hbd,hk⟩:=zL h;obtain⟨z,q1,q2,q3,q4⟩:=fP hi;have el:=he.ev l;have ec:=he.ev c;rw[hl]at el;rw[hc]at ec;simp only[ac,ho,el.intv,ec.intv];refine yD (zMg q1 hbd w) ?_;have hrow:(madeCells z (c'.toNat*i.sz)).toList=(ba c'.toNat z.toList).flatten:=by
   have:=sD (z:=z.toList) c'.toNat;rw[xAn,show z.toList.length=i.sz by simp[q2]]at this;rw[<- this,<- zPx];rfl
  have hsplit:ba c'.toNat z.toList=ba l'.toNat z.toList++ba (c'.toNat-l'.toNat) z.toList:=by
   rw[List.replicate_append_replicate];congr 1;omega
  have hx:DRL E.F (ba l'.toNat i.z).flatten (ba l'.toNat z.toList).flatten:=zVz (q4 E.F) _;have hzl:z.toList.length=i.sz:=by simp[q2]
  have H:=R.hp.new (.cells (madeCells z (c'.toNat*i.sz)) i.e);have harr:madeCells z (c'.toNat*i.sz)=((ba l'.toNat z.toList).flatten++(ba (c'.toNat-l'.toNat) z.toList).flatten).toArray:=by
   apply co;rw[hrow,hsplit,xAb]
  rw[harr]at H ⊢;have H2:=H.slmk (n:=l'.toNat) (c:=c'.toNat) (sz:=i.sz) (by rw[jN (zFu hzl),y8g]) (by
   rw[y5a,jN (zFu hzl),jN (zFu hzl),y8g,y8g,<- y8e];congr 1;omega) (by omega)
  obtain⟨E2,t1,t2,t3⟩:=cR (els:=ba l'.toNat i.z) R.nx hx (zFu q3) (by rw[y8g];exact H2);rw[y8g]at t3;exact⟨E2,_,_,t1,t2,t3,hk⟩
 case store t x v=>
  simp only[se,ho]at h;have hx:=he.ev x;split at h<;>first|exact h.elim|skip
  ·rename_i n off hxs;rw[hxs]at hx;simp only[VR]at hx;obtain⟨b,oo,sub,e1,e2⟩:=hx;obtain⟨hnt,h⟩:=zK h;obtain⟨lv,hlv,hvv⟩:=VR.cells hnt (he.ev v);obtain⟨E1,us,s1,hle1,R1,hvv,h⟩:=zDs h R hvv;have e1:=hle1.get e1;split at h<;>first|exact h.elim|skip
   rename_i vs T hg;obtain⟨m,hm,h⟩:=zL h;obtain⟨hb,hk⟩:=zK h;simp only[y5o]at hb;obtain⟨⟨hb1,hb2⟩,hb3⟩:=hb;have hb1:=y5e hb1;have hb2:=y7i hb2;obtain⟨b',l,sub',q1,q2,q3⟩:=R1.cells hg;rw[e1]at q1;cases q1;have h1:=q2.length;have h2:=hvv.length;have hst:=uF (P:=P) (o:=0+off) hm hlv (by rw[h2,hb1]) (by omega) (zZj hb3 hvv) q3;simp only[ac,ho,e2];refine j7 hst ⟨E1,_,_,hle1,R1.setCells hg e1 (vs':=vs.take off++(us++vs.drop (off+m))) ?_,?_,hk⟩
   ·unfold spl;rw[y5i,y6c,h2,hb1];exact(q2.take off).append (hvv.append (q2.drop _))
   ·simp only[VR];exact⟨[],rfl,VRL.nil⟩
  ·rename_i n sz i f hxs;split at h
   ·rename_i xh hxh;rw[hxs]at hx;simp only[VR]at hx;obtain⟨b,oo,mm,c,sub,e1,e2⟩:=hx;obtain⟨w',hst,ho'⟩:=z0x R hxh h (he.ev v) e1;simp only[ac,ho,e2];exact j7 hst ho'
   split at h<;>first|exact h.elim|skip
   rename_i ds s' hd;split at h<;>first|exact h.elim|skip
   rename_i T sz' els hg;obtain⟨m,hm,h⟩:=zL h;obtain⟨hb,hi,hk⟩:=zK h;simp only[y5o]at hb;obtain⟨⟨hb1,hb2⟩,hb3⟩:=hb;have e:=y5e hb1;subst e;have hb2:=y5e hb2;have hb3:=y7i hb3;obtain⟨E',ys,q1,q2,q3,q4,q5,q6⟩:=zIg R hd (he.ev v);rw[hxs]at hx;simp only[VR]at hx;obtain⟨b,oo,mm,c,sub,e1,e2⟩:=hx;obtain⟨l,r1,r2,r3⟩:=q3.setOwn (ds:=ds) (f:=f) hg hi (by omega) (q1.get e1) q6;have hst:=uF (P:=P) (o:=oo+i*sz+f) hm q5 (by rw[q6.length,hb2]) (by rw[q6.length,hb2]at r2;exact r2) q6.one r1;simp only[ac,ho,e2];exact j7 hst ⟨E',_,_,q1,r3,by simp only[VR];exact⟨[],rfl,VRL.nil⟩,hk⟩;rename_i T els hg;obtain⟨m,hm,h⟩:=zL h;obtain⟨hb,hi,hk⟩:=zK h;simp only[y5o]at hb;obtain⟨⟨⟨hb1,hb2⟩,hb3⟩,hb4⟩:=hb;have hb1:=y5e hb1;have hb2:=y5e hb2;have hb3:=y5e hb3;have hb4:=y5e hb4;subst hb1 hb3 hb4;obtain⟨E',ys,q1,q2,q3,q4,q5,q6⟩:=zIg R hd (he.ev v);rw[hxs]at hx;simp only[VR]at hx;obtain⟨b,oo,mm,c,sub,e1,e2⟩:=hx;have hyl:=q6.length;obtain⟨y,rfl⟩:∃y,ys=[y]:=List.length_eq_one_iff.1 (by omega);obtain⟨l,r1,r2,r3,r4⟩:=q3.setMrk (ds:=ds) hg hi hb2 (q1.get e1) q6;have hst:=zQb (P:=P) (o:=oo+i) hm q5 (by rw[r4];simpa using r2) (q6.one y y5h) r1;simp only[ac,ho,e2];have ea:oo+i*1+0=oo+i:=by omega
   rw[ea];exact j7 hst ⟨E',_,_,q1,r3,by simp only[VR];exact⟨[],rfl,VRL.nil⟩,hk⟩
  ·rename_i n off i hxs;rw[hxs]at hx;simp only[VR]at hx;obtain⟨b,oo,sub,e1,e2⟩:=hx;have hv0:=he.ev v;split at h<;>first|exact h.elim|skip
   rename_i u hu;rw[hu]at hv0;have hv1:=hv0;simp only[VR,DR]at hv1;obtain⟨hv1,hv2⟩:=hv1;split at h<;>first|exact h.elim|skip
   rename_i vs T hg;obtain⟨m,hm,h⟩:=zL h;obtain⟨hb,hi,hk⟩:=zK h;have hb:=y5e hb;subst hb;rw[y5z]at hi;obtain⟨b',l,sub',q1,q2,q3⟩:=R.cells hg;rw[e1]at q1;cases q1;have h1:=q2.length;have hlv:(ev ρ v).cells=[u].toArray:=by
    rw[hv1];cases u<;>first|rfl|cases hv2
   have hst:=uF (P:=P) (o:=0+(off+i)) hm hlv rfl (by omega) (by intro z hz;rw[y6r.1 hz];exact hv2) q3;simp only[ac,ho,e2];refine j7 hst ⟨E,_,_,Ev.le.refl _,R.setCells hg e1 (vs':=vs.take off++(vs.drop off).set i (.d (.v u))) ?_,?_,hk⟩
   ·have e:vs.take off++(vs.drop off).set i (.d (.v u))=vs.take (off+i)++([.d (.v u)]++vs.drop (off+i+1)):=by
     rw[y8i,y5d (by rw[y5z];omega),y8l,List.take_add,y5i];rfl
    rw[e];unfold spl;rw[y5i,y6c];exact(q2.take _).append ((VRL.one (by simp only[VR,DR];exact⟨trivial,hv2⟩)).append (q2.drop _))
   ·simp only[VR];exact⟨[],rfl,VRL.nil⟩
   rename_i vs T hg;obtain⟨m,hm,h⟩:=zL h;obtain⟨hb,hi,hk⟩:=zK h;have hb:=y5e hb;subst hb;rw[y5z]at hi;obtain⟨b',l,sub',q1,q2,q3⟩:=R.vec hg;rw[e1]at q1;cases q1;have h1:=q2.length;have hlv:(ev ρ v).cells=[u].toArray:=by
    rw[hv1];cases u<;>first|rfl|cases hv2
   have hst:=uF (P:=P) (o:=0+(off+i)) hm hlv rfl (by omega) (by intro z hz;rw[y6r.1 hz];exact hv2) q3;simp only[ac,ho,e2];refine j7 hst ⟨E,_,_,Ev.le.refl _,R.setVec hg e1 (ds':=vs.take off++(vs.drop off).set i (.v u)) ?_,?_,hk⟩
   ·have e:vs.take off++(vs.drop off).set i (.v u)=vs.take (off+i)++([.v u]++vs.drop (off+i+1)):=by
     rw[y8i,y5d (by rw[y5z];omega),y8l,List.take_add,y5i];rfl
    rw[e];unfold spl;rw[y5i,y6c];exact(q2.take _).append ((show DRL E.F [.v u] [u]from(by simp only[DRL,DR];exact⟨_,_,rfl,⟨rfl,hv2⟩,rfl⟩)).append (q2.drop _))
   ·simp only[VR];exact⟨[],rfl,VRL.nil⟩
 case convert st d x=>
  simp only[se,ho]at h;split at h<;>first|exact h.elim|skip
  ·rename_i b hx;obtain⟨hb,h⟩:=zK h;obtain⟨e,he',hk⟩:=zL h;obtain⟨u1,u2⟩:=zSh he';have hv:=he.ev x;rw[hx]at hv;simp only[VR,DR]at hv;simp only[ac,ho,hv.1];have hrun:=Lib.run_convert_string_bytes (P:=P) w st d e b (mY hb) u1 u2;refine yD hrun ?_;exact z4e R b e hk
  ·rename_i n hx;split at h<;>first|exact h.elim|skip
   rename_i T sz els hg;obtain⟨hb,h⟩:=zK h;simp only[y5o]at hb;have hst:=y5e hb.1;have hsz:=y5e hb.2;obtain⟨e,he',h2⟩:=zL h;obtain⟨hTb,hpos,hk⟩:=zK h2;have hT:=y5e hTb;subst hst hsz hT;obtain⟨u1,u2⟩:=zSh he';have hv:=he.ev x;rw[hx]at hv;simp only[VR]at hv;obtain⟨l0,e1,a0,m0,c0,e2⟩:=hv;obtain⟨a,c,xs,sub,q1,q2,q3,H⟩:=R.ownOpen hg;rw[q1]at e1;rcases H.slcases with⟨_,h0,_⟩|⟨b,r,rfl,r1,r2,r3,H1⟩
   ·omega
   have hrun:=yHh (P:=P) (w:=w) (b:=b) (l:=xs++r) (T:=T) (t:=st) H1.get u1 u2 els.length c;have H2:=H1.upd (.cells (xs++r).toArray T ((xs++r).length,(xs++r).length+1));have H3:Hp k (World.setB w b (.cells (xs++r).toArray T ((xs++r).length,(xs++r).length+1))) (pt b (.cells (xs++r).toArray T ((xs++r).length,(xs++r).length+1))::fz E.F::((wX n s.rows).map (rHP E)++L)):=H2.cons y5r;obtain⟨y,hy,hd,hsub,H4⟩:=zWb H3;have hle:E.le ⟨un y E.F,E.tab⟩:=⟨z1z hd,y9r _⟩
   have H5:=wE (λr x=>rHP.mono hle r) (H4.perm (y5r (l₁:=(wX n s.rows).map (rHP E)) (l₂:=L) (a:=fz (un y E.F))).symm);have H6:Hp k (World.setB w b (.cells (xs++r).toArray T ((xs++r).length,(xs++r).length+1))) (rHP ⟨un y E.F,E.tab⟩ (n,.fro 1 els)::((wX n s.rows).map (rHP ⟨un y E.F,E.tab⟩)++fz (un y E.F)::L)):=by
    have:=(@uA k _ True _).2 ⟨trivial,H5⟩;refine this.imp λz hz=> .inr ⟨_,q1,?_⟩
    simp only[rowHP];refine⟨hz.2,?_⟩;simp only[DR];refine⟨_,c,rfl,r3,q3,.inr ⟨b,0,xs++r,T,((xs++r).length,(xs++r).length+1),rfl,?_,DRS_iff.2 ⟨xs,r,rfl,q2.mono hle.1⟩⟩⟩;rw[show y=one b _ from hy];simp[un,one]
   have R2:Rel k L ⟨un y E.F,E.tab⟩ (s.set n (.fro 1 els)) (World.setB w b (.cells (xs++r).toArray T ((xs++r).length,(xs++r).length+1))):=by
    refine⟨by simpa[St.set]using R.nx,H6.perm ?_⟩;have:=(((vD hg).2 (.fro 1 els)).map (rHP ⟨un y E.F,E.tab⟩)).append_right (fz (un y E.F)::L);simpa[St.set]using this.symm
   have e3:ev ρ x= .slice (au ⟨b,0,av⟩) els.length c:=(congrArg Prod.fst (cg e1)).symm;simp only[ac,ho];rw[e3];exact yD hrun ⟨_,_,_,hle,R2,by simp only[VR];exact⟨_,q1,_,_,_,rfl⟩,hk⟩
 case slice t x lo hi mx=>
  cases mx with
  |some m=>simp only[se,ho]at h
  |none=>
   obtain⟨y,hf,hout⟩:=z0q R he ho h;exact jT (hf w) hout
 case mapUpdate t x i v=>
  simp only[se,ho]at h;split at h<;>first|exact h.elim|skip
  rename_i n hx;obtain⟨ke,hke,h⟩:=zL h;obtain⟨kv,hkv,h⟩:=zL h;obtain⟨hb,h⟩:=zK h;simp only[y5o]at hb;split at h<;>first|exact h.elim|skip
  rename_i ds s1 hd;split at h<;>first|exact h.elim|skip
  rename_i es hg;obtain⟨hal,hk⟩:=h;obtain⟨E1,ys,q1,q2,q3,q4,q5,q6⟩:=zIg R hd (he.ev v);have hxv:=he.ev x;rw[hx]at hxv;simp only[VR]at hxv;obtain⟨bm,sub,e1,e2⟩:=hxv;have e1:=q1.get e1;rw[e2]at e1;obtain⟨ents,ck,r1,r2,rb,r3⟩:=q3.setMap (es':=uH kv ds es) hg e1;have hi:ev ρ i=kv:=rN hkv (he.ev i);obtain⟨kd,hu,hkt⟩:=zAa hb.1;have hval:=zXx hb.2 (he.ev v) q5;have run:∃ents' ck',MR E1.F (uH kv ds es) ents'/\vH ents' ck'/\(Instr.mapUpdate t (.map (au bm)) kv (ev ρ v)).run P w= .ok () (World.setB w bm (.map ents'.toArray ck')):=by
   rcases zBa hkt 0 r1 hal with⟨t1,t2,t3,t4,_⟩|⟨q,m,ds',ys',t1,t2,t3,t4,t5,t6,t7,t8,_⟩
   ·refine⟨ents++[{key:=kv,val:=ev ρ v,born:=ck}],ck+1,by rw[t3];exact zWe q6 (e:={key:=kv,val:=ev ρ v,born:=ck}) rfl hval r1,zTf rb rfl,?_⟩;simp only[Instr.mapUpdate,bind,run_bind,Cv.run_underlying (uC hke),qG r2 trivial,pure,cp,jK hu hkt,wL hu t1];rw[vR r2 trivial];simp
   ·refine⟨ents.set q {m with key:=kv,val:=ev ρ v},ck,t7 _ _ _ q6 rfl hval,zPh rb t2 rfl,?_⟩;have hq:(ents.toArray[0+q]?).map (·.key)=au kv:=by simp[t2,t3]
    simp only[Instr.mapUpdate,bind,run_bind,Cv.run_underlying (uC hke),qG r2 trivial,pure,cp,jK hu hkt,wL hu t1,hq,y7n,Instr.keyThatStays,zEi hkt,if_true];rw[vR r2 trivial];congr 4;rw[List.modify_toArray];congr 1;rw[y6c,List.modify_eq_set,t2];rfl
  obtain⟨ents',ck',u1,ub,u2⟩:=run;simp only[ac,ho,e2,hi];exact j7 u2 ⟨E1,.tup [],_,q1,r3 ents' ck' u1 ub,by simp only[VR];exact⟨[],rfl,VRL.nil⟩,hk⟩
 case mapEntry t x i=>
  simp only[se,ho]at h;split at h<;>first|exact h.elim|skip
  rename_i n hx;obtain⟨ke,hke,h⟩:=zL h;obtain⟨kv,hkv,h⟩:=zL h;obtain⟨hks,h⟩:=zK h;obtain⟨z,hz,h⟩:=zL h;split at h<;>first|exact h.elim|skip
  rename_i es hg;obtain⟨hal,b,h⟩:=h;obtain⟨ds,h⟩:=bC h;obtain⟨hlk,h⟩:=h;obtain⟨v,hm,hk⟩:=zL h;have hxv:=he.ev x;rw[hx]at hxv;simp only[VR]at hxv;obtain⟨bm,sub,e1,e2⟩:=hxv;rw[e2]at e1;obtain⟨ents,ck,r1,r2,rb,r3⟩:=R.setMapE (es':=uH kv ds es) (kv:=kv) hg e1;have hi:ev ρ i=kv:=rN hkv (he.ev i);obtain⟨kd,hu,hkt⟩:=zAa hks;have run:∃ents' ck' y born,MR E.F (uH kv ds es) ents'/\vH ents' ck'/\zLn ents' kv born/\VR E v y/\(Instr.mapEntry t (.map (au bm)) kv).run P w= .ok (.tuple #[y,.int .i64 born]) (World.setB w bm (.map ents'.toArray ck')):=by
   rcases zBa hkt 0 r1 hal with⟨t1,t2,t3,t4,t5⟩|⟨q,m,ds',ys',t1,t2,t3,t4,t5,t6,t7,t8,t9⟩
   ·rcases hlk with⟨l1,l2⟩|⟨l1,l2,l3⟩
    ·rw[t2]at l1;cases l1
    ·subst l2 l3;obtain⟨zv,ys,z1,z2,z3⟩:=yCo (F:=E.F) hz hm;refine⟨ents++[{key:=kv,val:=zv,born:=ck}],ck+1,zv,ck,by rw[t3];exact zWe z2 (e:={key:=kv,val:=zv,born:=ck}) rfl z3 r1,zTf rb rfl,⟨kd,hkt,ents.length,_,by have:=t5 {key:=kv,val:=zv,born:=ck} rfl;rwa [y6c]at this,by simp,rfl⟩,by rw[z3];exact zVc hm z2,?_⟩;simp only[Instr.mapEntry,bind,run_bind,Cv.run_underlying (uC hke),qG r2 trivial,pure,cp,jK hu hkt,wL hu t1,zero_run (dQ z1)];rw[vR r2 trivial];simp[goInt]
   ·rcases hlk with⟨l1,l2⟩|⟨l1,l2,l3⟩
    ·rw[t4]at l1;cases l1;refine⟨ents.set q {m with key:=kv},ck,m.val,m.born,t7 _ _ _ t5 rfl t6,zPh rb t2 rfl,⟨kd,hkt,q,{m with key:=kv},by have:=t9 {m with key:=kv} rfl;rwa [y6c]at this,by
      rw[List.getElem?_set_self (y5f.1 t2).1],rfl⟩,by rw[t6];exact zVc hm t5,?_⟩
     have hq:(ents.toArray[0+q]?).map (·.key)=au kv:=by simp[t2,t3]
     have hqb:((ents.toArray[0+q]?).map λx=>((x.born:Nat):Int))=au (m.born:Int):=by simp[t2]
     simp only[Instr.mapEntry,bind,run_bind,Cv.run_underlying (uC hke),qG r2 trivial,pure,cp,jK hu hkt,wL hu t1,hq,hqb,y7n,Instr.keyThatStays,zEi hkt,if_true];rw[vR r2 trivial];simp only[goInt,hqb,y7n];congr 3;rw[List.modify_toArray];congr 1;rw[y6c,List.modify_eq_set,t2];rfl
    ·rw[t4]at l1;cases l1
  obtain⟨ents',ck',y,born,u1,ub,us,uy,u2⟩:=run;simp only[ac,ho,e2,hi];exact yD u2 ⟨E,.tup [v,.d (.v (.int .i64 born))],_,Ev.le.refl _,r3 ents' ck' born u1 ub us,by simp only[VR,VRL,DR];exact⟨_,rfl,_,_,rfl,uy,_,_,rfl,⟨rfl,rfl⟩,rfl⟩,hk born⟩
 case entryStore t x st v=>
  simp only[se,ho]at h;split at h<;>first|exact h.elim|skip
  rename_i n hx;split at h<;>first|exact h.elim|skip
  rename_i ik b hst;obtain⟨ke,hke,h⟩:=zL h;obtain⟨hb,h⟩:=zK h;split at h<;>first|exact h.elim|skip
  rename_i ds s1 hd;split at h<;>first|exact h.elim|skip
  rename_i es kv b' hg;obtain⟨rfl,hal,hk⟩:=h;obtain⟨E1,ys,q1,q2,q3,q4,q5,q6⟩:=zIg R hd (he.ev v);have hxv:=he.ev x;rw[hx]at hxv;simp only[VR]at hxv;obtain⟨bm,sub,e1,e2⟩:=hxv;have e1:=q1.get e1;rw[e2]at e1;have hsv:=he.ev st;rw[hst]at hsv;simp only[VR,DR]at hsv;obtain⟨ents,ck,r1,r2,rb,⟨kd,hkt,q,m,u1,u2,u3⟩,r3⟩:=q3.setMapF (es':=uH kv ds es) hg e1;have hval:=zXx hb (he.ev v) q5;rcases zBa hkt 0 r1 hal with⟨t1,t2,t3,t4,t5⟩|⟨q',m',ds',ys',t1,t2,t3,t4,t5,t6,t7,t8,t9⟩
  ·rw[t1]at u1;cases u1
  ·rw[t1]at u1;simp only[cf,Prod.mk.injEq,y6c]at u1;obtain⟨rfl,_⟩:=u1;rw[t2]at u2;cases u2;have hfi:=yBb rb.1 t2;have run:(Instr.entryStore t (.map (au bm)) (ev ρ st) (ev ρ v)).run P w= .ok () (World.setB w bm (.map (ents.set q' {m with val:=ev ρ v}).toArray ck)):=by
    rw[hsv.1,<- u3];have hfa:ents.toArray.findIdx? (λe=>((e.born:Nat):Int)==((m.born:Nat):Int))=au q':=by simpa using hfi
    simp only[Instr.entryStore,bind,run_bind,qG r2 trivial,pure,cp,asInt,asIntOf,hfa];rw[vR r2 trivial];congr 2;rw[List.modify_toArray];congr 1;rw[List.modify_eq_set,t2];rfl
   simp only[ac,ho,e2];exact j7 run ⟨E1,.tup [],_,q1,r3 _ ck (t7 _ _ _ q6 t3 hval) (zPh rb t2 rfl),by simp only[VR];exact⟨[],rfl,VRL.nil⟩,hk⟩
 case range t x=>
  simp only[se,ho]at h;split at h<;>first|exact h.elim|skip
  rename_i b hx;obtain⟨hs,hk⟩:=zK h;have hv:=he.ev x;rw[hx]at hv;simp only[VR,DR]at hv;simp only[ac,ho,hv.1];refine yD (v:= .pointer (au ⟨w.heap.size,0,av⟩)) (w':=w.alloc (.stringIter b 0)) ?_ ?_
  ·simp only[Instr.range,bind,pure,run_bind,cq,Cv.run_underlying (mY hs)];rfl
  ·refine zFi (hd:=(.pointer (au ⟨w.heap.size,0,av⟩),[])) R ?_ (λhg=> ?_) hk
   ·simp only[rowHP];exact⟨_,rfl,rfl⟩
   ·simp only[VR];exact⟨_,0,_,hg,rfl⟩
 case next x isS=>
  cases isS with
  |false=>simp only[se,ho]at h
  |true=>
   simp only[se,ho]at h;split at h<;>first|exact h.elim|skip
   rename_i n hx;split at h<;>first|exact h.elim|skip
   rename_i b pos hg;have hv:=he.ev x;rw[hx]at hv;simp only[VR]at hv;obtain⟨bb,oo,sub,e1,e2⟩:=hv;obtain⟨hd,hh,e3,e4,_⟩:=R.row hg (by simp);rw[e1]at e3;cases e3;simp only[rowHP]at e4;obtain⟨b2,e4,_⟩:=e4;cases e4;have hS:=λpos'=>R.setIter (pos':=pos') hg e1
   have hget:=(hS 0).1;simp only[ac,ho,e2];rcases z7g h with⟨hb,hk⟩|⟨hb,hk⟩
   ·have hlt:pos<b.size:=by simpa[y8d]using hb
    refine yD (v:= .tuple #[.bool bu,.int .i64 (pos:Nat),.int .i32 (Utf8.decode b pos).1]) (w':=World.setB w bb (.stringIter b (pos+(Utf8.decode b pos).2))) ?_
     ⟨E,_,_,Ev.le.refl _,(hS _).2,?_,hk⟩
    ·simp only[Instr.next,bind,pure,run_bind,cq,cp,qG hget trivial,y5d hlt,vR hget trivial];rfl
    ·simp only[VR,VRL,DR];exact⟨_,rfl,_,_,rfl,⟨rfl,rfl⟩,_,_,rfl,⟨rfl,rfl⟩,_,_,rfl,⟨rfl,rfl⟩,rfl⟩
   ·have hlt:¬pos<b.size:=by
     intro h';have:ax pos b.size=bu:=by rw[y8d];exact h'
     rw[this]at hb;cases hb
    refine yD (v:= .tuple #[.bool bv]) (w':=w) ?_ ⟨E,_,_,Ev.le.refl _,R,?_,hk⟩
    ·simp only[Instr.next,bind,pure,run_bind,cq,cp,qG hget trivial,y5b hlt]
    ·simp only[VR,VRL,DR];exact⟨_,rfl,_,_,rfl,⟨rfl,rfl⟩,rfl⟩
 case call c=>
  simp only[se,ho]at h;split at h<;>first|exact h.elim|skip
  ·rename_i x hc;split at h<;>first|exact h.elim|skip
   rename_i f a b hx;have hv:=he.ev x;rw[hx]at hv;simp only[VR]at hv;obtain⟨as,bs,e1,e2,e3⟩:=hv;obtain⟨ys,e4,e5⟩:=bD he c.args;have hrun:(ac (ev ρ) o)=ag f (as++(ys++bs)).toArray:=by
    have hexec:ac (ev ρ) o=(resolve (ev ρ) c o.type).bind λd=>invoke d.target d.args:=by
     simp only[ac,ho];rfl
    rw[hexec];unfold resolve;rw[hc];simp only[e1,Deferred.ofValue,pure,cq,invoke,e4];congr 1;apply co;simp
   rw[hrun];exact z0l hH R h (e2.append (e5.append e3))
  ·rename_i hc;split at h<;>first|exact h.elim|skip
   rename_i t1 t2 hts;split at h<;>first|exact h.elim|skip
   rename_i x y hargs;obtain⟨ys,e1,e2⟩:=bD he c.args;rw[hargs]at e2;simp only[VRL]at e2;obtain⟨xr,_,rfl,hx,yr,_,rfl,hy,rfl⟩:=e2;have ht:c.argTypes= #[t1,t2]:=by apply co;simpa using hts
   rw[jM ho hc,e1,ht];cases hob:yEe s y with
   |false=>
    rw[hob]at h;obtain⟨v,w',hr,hout⟩:=zQd (rt:=o.type) R hx hy h;exact yD hr hout
   |true=>
    rw[hob]at h;obtain⟨v,w',hr,hout⟩:=zOx (rt:=o.type) R hx hy h;exact yD hr hout
  ·rename_i hc;split at h<;>first|exact h.elim|skip
   rename_i n y hargs;obtain⟨t,ht,h⟩:=zL h;obtain⟨ke,hke,h⟩:=zL h;obtain⟨kv,hkv,h⟩:=zL h;obtain⟨hks,h⟩:=zK h;split at h<;>first|exact h.elim|skip
   rename_i es hg;obtain⟨hal,hk⟩:=h;obtain⟨ys,e1,e2⟩:=bD he c.args;rw[hargs]at e2;simp only[VRL,VR]at e2;obtain⟨mv,_,rfl,⟨bm,sub,e3,rfl⟩,yv,_,rfl,hy,rfl⟩:=e2;obtain rfl:=rN hkv hy;obtain⟨ents,ck,r1,r2,rb,r3⟩:=R.setMap (es':=zBi yv es) hg e3;obtain⟨kd,hu,hkt⟩:=zAa hks;have run:∃ents' ck',MR E.F (zBi yv es) ents'/\vH ents' ck'/\(Builtin.delete_ c.argTypes o.type #[.map (au bm),yv]).run P w= .ok (.tuple #[]) (World.setB w bm (.map ents'.toArray ck')):=by
    rcases zBa hkt 0 r1 hal with⟨t1,t2,t3,t4,_⟩|⟨q,m,ds',ys',t1,t2,t3,t4,t5,t6,t7,t8,_⟩
    ·refine⟨ents,ck,by rw[t4];exact r1,rb,?_⟩;simp only[Builtin.delete_,ht,y7d,y7m,y7b,bind,run_bind,Cv.run_underlying (uC hke),qG r2 trivial,pure,cp,jK hu hkt,wL hu t1];rw[vR r2 trivial]
    ·refine⟨ents.eraseIdx q,ck,t8,z2f rb,?_⟩;simp only[Builtin.delete_,ht,y7d,y7m,y7b,bind,run_bind,Cv.run_underlying (uC hke),qG r2 trivial,pure,cp,jK hu hkt,wL hu t1];rw[vR r2 trivial];simp
   obtain⟨ents',ck',u1,ub,u2⟩:=run;rw[jM ho hc,e1];exact yD u2 ⟨E,.tup [],_,Ev.le.refl _,r3 ents' ck' u1 ub,by simp only[VR];exact⟨[],rfl,VRL.nil⟩,hk⟩
 all_goals(simp only[se,ho]at h)
def zEw {n c:Nat} {x:AObj} (h:aw n c=bv):∀{l:List (Nat×AObj)},tL n (rH c x l)=tL n l
 |[]=>rfl
 |(m,o)::l=>by
  simp only[rH];cases hb:aw m c
  ·simp only[cond_false,tL];cases hm:aw m n
   ·simp only[cond_false];exact zEw h
   ·rfl
  ·have:=y5e hb;subst this;have h':aw m n=bv:=by
    cases hm:aw m n
    ·rfl
    ·have:=y5e hm;subst this;rw[Nat.beq_refl]at h;cases h
   simp only[cond_true,tL,h',cond_false]
def bM {n:Nat} {x:AObj}:∀{l:List (Nat×AObj)},tL n l≠av->tL n (rH n x l)=au x
 |[],h=>absurd rfl h
 |(m,o)::l,h=>by
  simp only[tL,rH]at h ⊢;cases hb:aw m n
  ·rw[hb]at h;simp only[tL,hb,cond_false]at h ⊢;exact bM h
  ·simp only[tL,hb,cond_true]
def zQu {n:Nat} {x y:AObj}:∀{l:List (Nat×AObj)},rH n y (rH n x l)=rH n y l
 |[]=>rfl
 |(m,o)::l=>by
  simp only[rH];cases hb:aw m n
  ·simp only[cond_false,rH,hb];rw[zQu]
  ·simp only[cond_true,rH,hb]
def yOp {l:List aa} {o:Nat} {y:aa} (h:o<l.length):spl l o [y]=l.set o y:=by
 unfold spl;rw[y8i,y5d h];simp
def Rel.holClose {k:Ko} {L:List HP} {w:ab} {E:Ev} {s:St} (R:Rel k L E s w) {q:Bool} {n c T sz i f t2 sz2:Nat} {els lv:List (List D)} (hg:s.get n=au (.hol q T sz els i f bu (au c))) (hc:s.get c=au (.own t2 sz2 lv)) (hne:aw n c=bv) (hi:i<els.length) (hf:f<sz) {y:aa} (hv:VR E (.own n) y):
 ∃E',E.le E'/\E'.tab=E.tab/\Rel k L E' ((s.set c (.fro sz2 lv)).set n (.fro sz (zX els i f [.ro sz2 lv]))) w/\DR E'.F (.ro sz (zX els i f [.ro sz2 lv])) y:=by
 obtain⟨E1,q1,q2,R1⟩:=R.freeze hc;have g1:(s.set c (.fro sz2 lv)).get n=au (.hol q T sz els i f bu (au c)):=by
  simp only[St.get,St.set]at hg ⊢;rw[zEw hne,hg]
 have g2:(s.set c (.fro sz2 lv)).get c=au (.fro sz2 lv):=by
  simp only[St.get,St.set]at hc ⊢;exact bM (by rw[hc];simp)
 obtain⟨hdc,xc,c1,c2,_⟩:=R1.row g2 (by simp);simp only[rowHP]at c2;have R2:Rel k L E1 ((s.set c (.fro sz2 lv)).set n (.own T sz (zX els i f [.ro sz2 lv]))) w:=by
  refine R1.unfocus g1 ((R1.focus g1).imp λx hx=> ?_);rcases hx with⟨e,_⟩|⟨hd,h1,h2⟩
  ·cases e
  refine .inr ⟨hd,h1,?_⟩;simp only[rowHP]at h2 ⊢;obtain⟨a,kk,ys,xs,e1,e2,e3,⟨z,l,e4,e5,e6⟩,e7⟩:=h2;rw[c1]at e4;cases e4;obtain⟨f1,f2⟩:=aQ i f [.ro sz2 lv] e3 hi (by simp only[y5g,y6v];omega);have hlen:(zX els i f [.ro sz2 lv]).length=els.length:=by simp[zX]
  have hyl:ys.length=els.length*sz:=by rw[e2.length,jN e3]
  have hin:i*sz+sz<=els.length*sz:=by
   have:=y6o sz (show i+1<=els.length by omega);rwa [y8a]at this
  refine⟨a,kk,xs,by rw[hlen];exact e1,?_,f2,by rw[hlen];exact e7⟩;rw[f1,e6,cond_true,<- yOp (by omega)];exact zFc e2 (by simp only[DRL];exact⟨_,_,rfl,c2.2,rfl⟩) _
 have g3:((s.set c (.fro sz2 lv)).set n (.own T sz (zX els i f [.ro sz2 lv]))).get n=au (.own T sz (zX els i f [.ro sz2 lv])):=by
  simp only[St.get,St.set]at g1 ⊢;exact bM (by rw[g1];simp)
 obtain⟨E2,r1,r2,R3⟩:=R2.freeze g3;have e:((s.set c (.fro sz2 lv)).set n (.own T sz (zX els i f [.ro sz2 lv]))).set n (.fro sz (zX els i f [.ro sz2 lv]))=(s.set c (.fro sz2 lv)).set n (.fro sz (zX els i f [.ro sz2 lv])):=by
  simp only[St.set,zQu]
 rw[e]at R3;have g4:((s.set c (.fro sz2 lv)).set n (.fro sz (zX els i f [.ro sz2 lv]))).get n=au (.fro sz (zX els i f [.ro sz2 lv])):=by
  simp only[St.get,St.set]at g1 ⊢;exact bM (by rw[g1];simp)
 obtain⟨hdn,xn,n1,n2,_⟩:=R3.row g4 (by simp);simp only[rowHP]at n2;simp only[VR]at hv;obtain⟨l,v1,_⟩:=hv;rw[r2,q2,v1]at n1;cases n1;exact⟨E2,q1.trans r1,r2.trans q2,R3,n2.2⟩
@[reducible] def NM:=List (Nat×Nat)
def z7 (p:Nat):NM->Option Nat
 |[]=>av
 |(q,n)::l=>bif aw q p then au n else z7 p l
def lEq:aa->aa->Prop
 | .int k a,.int k' b=>bif keq k k' then a=b else False
 | .bool a,.bool b=>a=b
 | .string a,.string b=>a=b
 | .pointer av,.pointer av=>True
 | .slice av 0 0,.slice av 0 0=>True
 | .map av,.map av=>True
 | .nilFunc,.nilFunc=>True
 | .nilIface,.nilIface=>True
 |_,_=>False
def yDs {x y:aa} (h:lEq x y):x=y:=by
 unfold lEq at h;split at h<;>first|exact h.elim|rfl|(subst h;rfl)|skip
 obtain⟨hk,rfl⟩:=zK h;rw[zRv hk]
def dEq:D->D->Prop
 | .v x,.v y=>lEq x y
 | .ro sz els,.ro sz' els'=>bif aw sz sz' then els=els' else False
 | .ro _ els,.v (.slice av 0 0)=>els=[]
 |_,_=>False
def ySg {F:PH} {p q:D} {y:aa} (h:dEq p q) (hq:DR F q y):DR F p y:=by
 unfold dEq at h;split at h<;>first|exact h.elim|skip
 ·rw[yDs h];exact hq
 ·obtain⟨hb,rfl⟩:=zK h;rw[y5e hb];exact hq
 ·subst h;simp only[DR]at hq ⊢;exact⟨av,0,hq.1,y5x _,by simp,.inl trivial⟩
def zNm (p n:Nat) (π:NM) (K:NM->Prop):Prop:=
 match z7 p π with
 |some m=>bif aw m n then K π else False
 |none=>K ((p,n)::π)
mutual
def mtV:V->V->NM->St->(NM->St->Prop)->Prop
 | .top,_,π,s,K=>K π s
 | .d p,a,π,s,K=>match a with
   | .d q=>dEq p q/\K π s
   | .own n=>match p with
     | .ro sz els=>match s.get n with
       |some (.own _ sz' els')=>bif aw sz sz' then els=els'/\K π (s.set n (.fro sz' els'))else False
       |some (.fro sz' els')=>bif aw sz sz' then els=els'/\K π s else False
       |some (.hol bu T sz' els' i f b (au c))=>match s.get c with
        |some (.own _ sz2 lv)=>bif aw sz sz' && !(aw n c)then(b=bu/\i<els'.length/\f<sz/\els=zX els' i f [.ro sz2 lv])/\K π ((s.set c (.fro sz2 lv)).set n (.fro sz' els))else False
        |_=>False
       |_=>False
     |_=>False
   |_=>False
 | .nm p o,a,π,s,K=>match a with
   | .nm n o'=>bif aw o o' then zNm p n π λπ=>K π s else False
   |_=>False
 | .el p sz i f,a,π,s,K=>match a with
   | .el n sz' i' f'=>bif aw sz sz' && aw f f' then i=i'/\zNm p n π λπ=>K π s else False
   |_=>False
 | .own p,a,π,s,K=>match a with
   | .own n=>zNm p n π λπ=>K π s
   | .d (.v (.slice av 0 0))=>match z7 p π with
     |none=>K ((p,s.nx)::π) (s.new .nilo)
     |some _=>False
   |_=>False
 | .mp p,a,π,s,K=>match a with
   | .mp n=>zNm p n π λπ=>K π s
   |_=>False
 | .agg l,a,π,s,K=>match a with
   | .agg l'=>mtL l l' π s K
   |_=>False
 | .tup l,a,π,s,K=>match a with
   | .tup l'=>mtL l l' π s K
   |_=>False
 | .fn f x y,a,π,s,K=>match a with
   | .fn f' x' y'=>bif aw f f' then mtL x x' π s λπ s=>mtL y y' π s K else False
   |_=>False
 | .ifc t x,a,π,s,K=>match a with
   | .ifc t' x'=>bif aw t t' then mtV x x' π s K else False
   |_=>False
 |_,_,_,_,_=>False
def mtL:List V->List V->NM->St->(NM->St->Prop)->Prop
 |[],l,π,s,K=>match l with
  |[]=>K π s
  |_=>False
 |v::vs,l,π,s,K=>match l with
  |u::us=>mtV v u π s λπ s=>mtL vs us π s K
  |[]=>False
end
def Loc (π:NM) (tab tl:List Hd):Prop:=∀p n,z7 p π=au n->∃hd,tab[n]?=au hd/\tl[p]?=au hd
def Ext (π π':NM):Prop:=∀p n,z7 p π=au n->z7 p π'=au n
def WfM (π:NM) (tab:List Hd):Prop:=∀p n,z7 p π=au n->∃hd,tab[n]?=au hd
def Ext.refl (π:NM):Ext π π:=λ_ _ h=>h
def Ext.trans {a b c:NM} (h:Ext a b) (h':Ext b c):Ext a c:=λp n e=>h' p n (h p n e)
def WfM.mono {π:NM} {E E':Ev} (h:WfM π E.tab) (hle:E.le E'):WfM π E'.tab:=λp n e=>let⟨hd,q⟩:=h p n e;⟨hd,hle.get q⟩
def PV (E:Ev) (π:NM) (v:V) (y:aa):Prop:=∀E2 π2,E.le E2->Ext π π2->∀tl,Loc π2 E2.tab tl->VR ⟨E2.F,tl⟩ v y
def PVL (E:Ev) (π:NM) (v:List V) (y:List aa):Prop:=∀E2 π2,E.le E2->Ext π π2->∀tl,Loc π2 E2.tab tl->VRL ⟨E2.F,tl⟩ v y
def PV.mono {E E':Ev} {π π':NM} {v:V} {y:aa} (h:PV E π v y) (hle:E.le E') (hx:Ext π π'):PV E' π' v y:=λE2 π2 a b tl c=>h E2 π2 (hle.trans a) (hx.trans b) tl c
def PVL.mono {E E':Ev} {π π':NM} {v:List V} {y:List aa} (h:PVL E π v y) (hle:E.le E') (hx:Ext π π'):PVL E' π' v y:=λE2 π2 a b tl c=>h E2 π2 (hle.trans a) (hx.trans b) tl c
def pQ {p n:Nat} {π:NM} {tab:List Hd} {K:NM->Prop} (h:zNm p n π K) (hw:WfM π tab) {hd:Hd} (hn:tab[n]? =au hd):∃π',Ext π π'/\WfM π' tab/\z7 p π'=au n/\K π':=by
 unfold zNm at h;split at h
 ·rename_i m hm;obtain⟨hb,hk⟩:=zK h;have:=y5e hb;subst this;exact⟨π,Ext.refl _,hw,hm,hk⟩
 ·rename_i hm;refine⟨_,λq m e=> ?_,λq m e=> ?_,by simp[z7],h⟩
  ·simp only[z7];cases hb:aw p q
   ·exact e
   ·have:=y5e hb;subst this;rw[hm]at e;cases e
  ·simp only[z7]at e;cases hb:aw p q
   ·rw[hb]at e;exact hw q m e
   ·rw[hb]at e;cases e;exact⟨hd,hn⟩
variable {k:Ko} {L:List HP} {w:ab}
structure MtOk (k:Ko) (L:List HP) (w:ab) (E:Ev) (π:NM) (E':Ev) (π':NM) (s':St):Prop where
 le:E.le E'
 ext:Ext π π'
 wf:WfM π' E'.tab
 rel:Rel k L E' s' w
def MtOk.trans {E E1 E2:Ev} {π π1 π2:NM} {s1 s2:St} {L1 L2:List HP} (a:MtOk k L1 w E π E1 π1 s1) (b:MtOk k L2 w E1 π1 E2 π2 s2):MtOk k L2 w E π E2 π2 s2:=⟨a.le.trans b.le,a.ext.trans b.ext,b.wf,b.rel⟩
def Rel.newNil {E:Ev} {s:St} (R:Rel k L E s w):∃E',E.le E'/\Rel k L E' (s.new .nilo) w/\E'.tab[s.nx]? =au (.slice av 0 0,[]):=by
 have hle:E.le ⟨E.F,E.tab++[(.slice av 0 0,[])]⟩:=Ev.le.app _;have hget:(E.tab++[((.slice av 0 0,[]):Hd)])[s.nx]? =au (.slice av 0 0,[]):=by rw[<- R.nx];simp
 refine⟨_,hle,⟨by simp[St.new,R.nx],?_⟩,hget⟩;have H2:=wE (λr x=>rHP.mono hle r) R.hp;have:=(@uA k w True _).2 ⟨trivial,H2⟩;exact this.imp λx hx=> .inr ⟨_,hget,by simp only[rowHP];exact⟨hx.2,trivial,trivial⟩⟩
mutual
theorem z3g:∀{v a:V} {π:NM} {s:St} {K:NM->St->Prop} {E:Ev} {y:aa},mtV v a π s K->Rel k L E s w->WfM π E.tab->VR E a y->∃E' π' s',MtOk k L w E π E' π' s'/\PV E' π' v y/\K π' s'
 | .top,a,π,s,K,E,y,h,R,hw,hv=>by
   simp only[mtV]at h;exact⟨E,π,s,⟨Ev.le.refl _,Ext.refl _,hw,R⟩,λ_ _ _ _ _ _=>by simp only[VR],h⟩
 | .d p,a,π,s,K,E,y,h,R,hw,hv=>by
   simp only[mtV]at h;split at h<;>first|exact h.elim|skip
   ·rename_i q;obtain⟨h1,h⟩:=h;simp only[VR]at hv;exact⟨E,π,s,⟨Ev.le.refl _,Ext.refl _,hw,R⟩,λE2 _ a _ _ _=>by simp only[VR];exact(ySg h1 hv).mono a.1,h⟩
   ·rename_i n;split at h<;>first|exact h.elim|skip
    rename_i sz els;split at h<;>first|exact h.elim|skip
    ·rename_i t sz' els' hg;obtain⟨hb,rfl,hk⟩:=zK h;have e:=y5e hb;subst e;obtain⟨E',q1,q2,q3,q4,q5⟩:=zGc R (v:= .own n) (d:= .ro sz els) (s':=s.set n (.fro sz els)) (by simp only[z3f,hg]) hv;exact⟨E',π,_,⟨q1,Ext.refl _,by rw[q2];exact hw,q3⟩,λE2 _ a _ _ _=>by simp only[VR];exact q5.mono a.1,hk⟩
    ·rename_i sz' els' hg;obtain⟨hb,rfl,hk⟩:=zK h;have e:=y5e hb;subst e;obtain⟨E',q1,q2,q3,q4,q5⟩:=zGc R (v:= .own n) (d:= .ro sz els) (s':=s) (by simp only[z3f,hg]) hv;exact⟨E',π,_,⟨q1,Ext.refl _,by rw[q2];exact hw,q3⟩,λE2 _ a _ _ _=>by simp only[VR];exact q5.mono a.1,hk⟩
    ·rename_i T sz' els' i f b c hg;split at h<;>first|exact h.elim|skip
     rename_i t2 sz2 lv hg2;obtain⟨hb,⟨rfl,hi,hf,rfl⟩,hk⟩:=zK h;simp only[y5o,y8o]at hb;have e:=y5e hb.1;subst e;obtain⟨E',q1,q2,q3,q4⟩:=R.holClose hg hg2 hb.2 hi hf hv;exact⟨E',π,_,⟨q1,Ext.refl _,by rw[q2];exact hw,q3⟩,λE2 _ a _ _ _=>by simp only[VR];exact q4.mono a.1,hk⟩
 | .nm p o,a,π,s,K,E,y,h,R,hw,hv=>by
   simp only[mtV]at h;split at h<;>first|exact h.elim|skip
   rename_i n o';obtain⟨hb,hk⟩:=zK h;have e:=y5e hb;subst e;simp only[VR]at hv;obtain⟨b,oo,l,h1,rfl⟩:=hv;obtain⟨π',q1,q2,q3,q4⟩:=pQ hk hw h1;refine⟨E,π',s,⟨Ev.le.refl _,q1,q2,R⟩,λE2 π2 a b' tl hl=> ?_,q4⟩;simp only[VR];obtain⟨hd,e1,e2⟩:=hl p n (b' p n q3);rw[a.get h1]at e1;cases e1;exact⟨b,oo,l,e2,rfl⟩
 | .el p sz i f,a,π,s,K,E,y,h,R,hw,hv=>by
   simp only[mtV]at h;split at h<;>first|exact h.elim|skip
   rename_i n sz' i' f';obtain⟨hb,rfl,hk⟩:=zK h;simp only[y5o]at hb;have e:=y5e hb.1;subst e;have e:=y5e hb.2;subst e;simp only[VR]at hv;obtain⟨b,oo,m,c,l,h1,rfl⟩:=hv;obtain⟨π',q1,q2,q3,q4⟩:=pQ hk hw h1;refine⟨E,π',s,⟨Ev.le.refl _,q1,q2,R⟩,λE2 π2 a b' tl hl=> ?_,q4⟩;simp only[VR];obtain⟨hd,e1,e2⟩:=hl p n (b' p n q3);rw[a.get h1]at e1;cases e1;exact⟨b,oo,m,c,l,e2,rfl⟩
 | .own p,a,π,s,K,E,y,h,R,hw,hv=>by
   simp only[mtV]at h;split at h<;>first|exact h.elim|skip
   ·rename_i n;simp only[VR]at hv;obtain⟨l,h1,h2⟩:=hv;obtain⟨π',q1,q2,q3,q4⟩:=pQ h hw h1;refine⟨E,π',s,⟨Ev.le.refl _,q1,q2,R⟩,λE2 π2 a b' tl hl=> ?_,q4⟩;simp only[VR];obtain⟨hd,e1,e2⟩:=hl p n (b' p n q3);rw[a.get h1]at e1;cases e1;exact⟨l,e2,h2⟩
   ·split at h<;>first|exact h.elim|skip
    rename_i hm;obtain⟨E',q1,q2,q3⟩:=R.newNil;simp only[VR,DR]at hv;obtain⟨rfl,_⟩:=hv;have hpl:z7 p ((p,s.nx)::π)=au s.nx:=by simp[z7]
    refine⟨E',_,_,⟨q1,λq m e=> ?_,λq m e=> ?_,q2⟩,λE2 π2 a b' tl hl=> ?_,h⟩
    ·simp only[z7];cases hb:aw p q
     ·exact e
     ·have:=y5e hb;subst this;rw[hm]at e;cases e
    ·simp only[z7]at e;cases hb:aw p q
     ·rw[hb]at e;obtain⟨hd,h'⟩:=hw q m e;exact⟨hd,q1.get h'⟩
     ·rw[hb]at e;cases e;exact⟨_,q3⟩
    ·simp only[VR];obtain⟨hd,e1,e2⟩:=hl p _ (b' p _ hpl);rw[a.get q3]at e1;cases e1;exact⟨[],e2,_,_,_,rfl⟩
 | .mp p,a,π,s,K,E,y,h,R,hw,hv=>by
   simp only[mtV]at h;split at h<;>first|exact h.elim|skip
   rename_i n;simp only[VR]at hv;obtain⟨b,l,h1,h2⟩:=hv;obtain⟨π',q1,q2,q3,q4⟩:=pQ h hw h1;refine⟨E,π',s,⟨Ev.le.refl _,q1,q2,R⟩,λE2 π2 a b' tl hl=> ?_,q4⟩;simp only[VR];obtain⟨hd,e1,e2⟩:=hl p n (b' p n q3);rw[a.get h1]at e1;cases e1;exact⟨b,l,e2,h2⟩
 | .agg l,a,π,s,K,E,y,h,R,hw,hv=>by
   simp only[mtV]at h;split at h<;>first|exact h.elim|skip
   simp only[VR]at hv;obtain⟨ys,rfl,hv⟩:=hv;obtain⟨E',π',s',q1,q2,q3⟩:=tQ h R hw hv;exact⟨E',π',s',q1,λE2 π2 a b tl c=>by simp only[VR];exact⟨ys,rfl,q2 E2 π2 a b tl c⟩,q3⟩
 | .tup l,a,π,s,K,E,y,h,R,hw,hv=>by
   simp only[mtV]at h;split at h<;>first|exact h.elim|skip
   simp only[VR]at hv;obtain⟨ys,rfl,hv⟩:=hv;obtain⟨E',π',s',q1,q2,q3⟩:=tQ h R hw hv;exact⟨E',π',s',q1,λE2 π2 a b tl c=>by simp only[VR];exact⟨ys,rfl,q2 E2 π2 a b tl c⟩,q3⟩
 | .fn f x z,a,π,s,K,E,y,h,R,hw,hv=>by
   simp only[mtV]at h;split at h<;>first|exact h.elim|skip
   rename_i f' x' z';obtain⟨hb,hk⟩:=zK h;have e:=y5e hb;subst e;simp only[VR]at hv;obtain⟨as,bs,rfl,h1,h2⟩:=hv;obtain⟨E',π',s',q1,q2,q3⟩:=tQ hk R hw h1;obtain⟨E2,π2,s2,r1,r2,r3⟩:=tQ q3 q1.rel q1.wf (h2.mono q1.le);exact⟨E2,π2,s2,q1.trans r1,λE3 π3 a b tl c=>by simp only[VR];exact⟨as,bs,rfl,q2.mono r1.le r1.ext E3 π3 a b tl c,r2 E3 π3 a b tl c⟩,r3⟩
 | .ifc t x,a,π,s,K,E,y,h,R,hw,hv=>by
   simp only[mtV]at h;split at h<;>first|exact h.elim|skip
   rename_i t' x';obtain⟨hb,hk⟩:=zK h;have e:=y5e hb;subst e;simp only[VR]at hv;obtain⟨z,rfl,h1⟩:=hv;obtain⟨E',π',s',q1,q2,q3⟩:=z3g hk R hw h1;exact⟨E',π',s',q1,λE3 π3 a b tl c=>by simp only[VR];exact⟨z,rfl,q2 E3 π3 a b tl c⟩,q3⟩
 | .re sz els i f,a,π,s,K,E,y,h,R,hw,hv=>by simp only[mtV]at h
 | .sub n i,a,π,s,K,E,y,h,R,hw,hv=>by simp only[mtV]at h
theorem tQ:∀{v a:List V} {π:NM} {s:St} {K:NM->St->Prop} {E:Ev} {y:List aa},mtL v a π s K->Rel k L E s w->WfM π E.tab->VRL E a y->∃E' π' s',MtOk k L w E π E' π' s'/\PVL E' π' v y/\K π' s'
 |[],a,π,s,K,E,y,h,R,hw,hv=>by
  simp only[mtL]at h;split at h<;>first|exact h.elim|skip
  simp only[VRL]at hv;exact⟨E,π,s,⟨Ev.le.refl _,Ext.refl _,hw,R⟩,λ_ _ _ _ _ _=>by simpa only[VRL]using hv,h⟩
 |v::vs,a,π,s,K,E,y,h,R,hw,hv=>by
  simp only[mtL]at h;split at h<;>first|exact h.elim|skip
  simp only[VRL]at hv;obtain⟨x,xs,rfl,h1,h2⟩:=hv;obtain⟨E',π',s',q1,q2,q3⟩:=z3g h R hw h1;obtain⟨E2,π2,s2,r1,r2,r3⟩:=tQ q3 q1.rel q1.wf (h2.mono q1.le);exact⟨E2,π2,s2,q1.trans r1,λE3 π3 a b tl c=>by simp only[VRL];exact⟨_,_,rfl,q2.mono r1.le r1.ext E3 π3 a b tl c,r2 E3 π3 a b tl c⟩,r3⟩
end
mutual
def tM (π:NM):V->V
 | .top=> .top
 | .d d=> .d d
 | .nm n o=>match z7 n π with
   |some m=> .nm m o
   |none=> .top
 | .el n sz i f=>match z7 n π with
   |some m=> .el m sz i f
   |none=> .top
 | .re sz els i f=> .re sz els i f
 | .na _ _ _=> .top
 | .own n=>match z7 n π with
   |some m=> .own m
   |none=> .top
 | .mp n=>match z7 n π with
   |some m=> .mp m
   |none=> .top
 | .sub n i=>match z7 n π with
   |some m=> .sub m i
   |none=> .top
 | .agg l=> .agg (zUv π l)
 | .tup l=> .tup (zUv π l)
 | .fn f a b=> .fn f (zUv π a) (zUv π b)
 | .ifc t x=> .ifc t (tM π x)
def zUv (π:NM):List V->List V
 |[]=>[]
 |v::l=>tM π v::zUv π l
end
def oN (π:NM):Option Nat->Option Nat
 |some m=>z7 m π
 |none=>av
def zKh (π:NM):AObj->AObj
 | .cells vs t=> .cells (zUv π vs) t
 | .hol q t sz els i f b m=> .hol q t sz els i f b (oN π m)
 |o=>o
def zFy (unf:Nat->AObj) (π:NM) (nx:Nat):List Nat->List (Nat×AObj)
 |[]=>[]
 |j::js=>(nx+j,zKh π (unf (j+1)))::zFy unf π nx js
def b9 (n nx m:Nat):NM:=(0,n)::(az (m-1)).map λj=>(j+1,nx+j)
def zNl (s:St) (n m:Nat) (unf:Nat->AObj):AObj×St:=
 (zKh (b9 n s.nx m) (unf 0),⟨zFy unf (b9 n s.nx m) s.nx (az (m-1))++s.rows,s.nx+(m-1)⟩)
def St.getg (s:St) (n:Nat):Option AObj:=
 match s.get n with
 |some .gone=>av
 |o=>o
def lX {s:St} {n:Nat} {o:AObj} (h:s.getg n=au o):s.get n=au o/\o≠.gone:=by
 unfold St.getg at h;split at h
 ·cases h
 ·rename_i hne;exact⟨h,λe=>hne (e▸h)⟩
def rL (m:Nat):NM->Bool
 |[]=>bu
 |(p,_)::l=>bif ax p m then rL m l else bv
def aA {m:Nat}:∀{π:NM},rL m π=bu->∀p n,z7 p π=au n->p<m
 |[],h,p,n,e=>by cases e
 |(q,r)::l,h,p,n,e=>by
  simp only[rL]at h;cases hb:ax q m
  ·rw[hb]at h;cases h
  ·rw[hb]at h;simp only[z7]at e;cases hq:aw q p
   ·rw[hq]at e;exact aA h p n e
   ·have:=y5e hq;subst this;simpa[y8d]using hb
def z0w (f:Nat->NM->St->(NM->St->Prop)->Prop):List Nat->NM->St->(NM->St->Prop)->Prop
 |[],π,s,K=>K π s
 |j::js,π,s,K=>f j π s λπ s=>z0w f js π s K
def mtO:AObj->Nat->AObj->NM->St->(NM->St->Prop)->Prop
 | .gone,_,_,π,s,K=>K π s
 | .hol _ t sz els i f b m,n,o,π,s,K=>match o with
   | .hol _ t' sz' els' i' f' b' m'=>bif aw t t' && aw sz sz' then(els=els'/\i=i'/\f=f'/\b=b')/\(match m,m' with
     |some p,au c=>zNm p c π λπ=>K π s
     |_,_=>False)else False
   | .own t' sz' els'=>bif aw t t' && aw sz sz' then(els=els'/\b=bv)/\(match m with
     |some p=>(match z7 p π with
      |none=>K ((p,s.nx)::π) (s.new .nilo)
      |some _=>False)
     |none=>False)else False
   |_=>False
 | .cells vs t,n,o,π,s,K=>match o with
   | .cells vs' t'=>bif aw t t' then mtL vs vs' π s K else False
   | .adt T m unf x=>bif ay 1 m then(match zNl s n m (unf x)with
     |(.cells vs' t',s')=>bif aw t t' then mtL vs vs' π s' K else False
     |_=>False)else False
   |_=>False
 | .own t sz els,n,o,π,s,K=>match o with
   | .own t' sz' els'=>bif aw t t' && aw sz sz' then els=els'/\K π s else False
   | .nilo=>els=[]/\K π s
   |_=>False
 | .vec ds t,n,o,π,s,K=>match o with
   | .cells vs t'=>bif aw t t' then ds.map V.d=vs/\K π s else False
   |o=>AObj.vec ds t=o/\K π s
 | .map es,n,o,π,s,K=>match o with
   | .map es'=>es=es'/\K π s
   |_=>False
 | .iter b p,n,o,π,s,K=>match o with
   | .iter b' p'=>b=b'/\p=p'/\K π s
   |_=>False
 | .adt T m unf x,n,o,π,s,K=>match o with
   | .cells vs t=>bif ay 1 m then z0w (λj π s K=>match z7 j π with
      |some n'=>match(match j with|0=>au (AObj.cells vs t)|_=>s.getg n')with
       |some o'=>mtO (unf x j) n' o' π (match j with|0=>s|_=>s.delF n' o') K
       |none=>False
      |none=>False) (az m) [(0,n)] s (λπ' s=>bif rL m π' then K π s else False)else False
   |o=>AObj.adt T m unf x=o/\K π s
 | .fro sz els,n,o,π,s,K=>match o with
   | .own t sz' els'=>bif aw sz sz' then els=els'/\K π s else False
   |o=>AObj.fro sz els=o/\K π s
 | .objs t T m unf l hole,n,o,π,s,K=>match o with
   | .nilo=>l=[]/\hole=av/\K π s
   |o=>AObj.objs t T m unf l hole=o/\K π s
 |o',n,o,π,s,K=>o'=o/\K π s
def mtR:Nat->List AObj->NM->St->(NM->St->Prop)->Prop
 |_,[],π,s,K=>K π s
 |p,.gone::os,π,s,K=>mtR (p+1) os π s K
 |p,o::os,π,s,K=>match z7 p π with
  |some n=>match s.getg n with
   |some o'=>mtO o n o' π (s.delF n o') λπ s=>mtR (p+1) os π s K
   |none=>False
  |none=>False
variable {k:Ko} {L:List HP} {w:ab}
def PRow (E:Ev) (π:NM) (n:Nat) (o:AObj):HP:=λh=>∀E2 π2,E.le E2->Ext π π2->∀tl,Loc π2 E2.tab tl->∃hd,E2.tab[n]? =au hd/\rowHP E2.F o tl hd h
def PRow.mono {E E':Ev} {π π':NM} (hle:E.le E') (hx:Ext π π') {n:Nat} {o:AObj} {h:PH} (e:PRow E π n o h):PRow E' π' n o h:=λE2 π2 a b tl c=>e E2 π2 (hle.trans a) (hx.trans b) tl c
def z8v:AObj->Bool
 | .cells _ _=>bu
 | .hol _ _ _ _ _ _ _ _=>bu
 |_=>bv
def rowHP.tab {F:PH} {o:AObj} (ho:z8v o=bv) {tab tab':List Hd} {hd:Hd} {h:PH} (e:rowHP F o tab hd h):rowHP F o tab' hd h:=by
 cases o<;>first|(cases ho;done)|(simp only[rowHP]at e ⊢;exact e)
def gC {E:Ev} {π:NM} {n:Nat} {o:AObj} (ho:z8v o=bv) (hg:o≠.gone) {h:PH} (e:rHP E (n,o) h):PRow E π n o h:=by
 rcases e with⟨e,_⟩|⟨hd,h1,h2⟩
 ·exact absurd e hg
 ·intro E2 π2 a b tl c;exact⟨hd,a.get h1,(h2.mono a.1 _ a.2).tab ho⟩
mutual
theorem VR.ren {π:NM} {F:PH} {tl tab:List Hd} (hr:∀p n hd,z7 p π=au n->tl[p]? =au hd->tab[n]? =au hd):∀{v:V} {y:aa},VR ⟨F,tl⟩ v y->VR ⟨F,tab⟩ (tM π v) y
 | .top,y,h=>by simp only[tM,VR]
 | .d d,y,h=>by simpa only[tM,VR]using h
 | .nm n o,y,h=>by
   simp only[tM];split
   ·rename_i m hm;simp only[VR]at h ⊢;obtain⟨b,oo,l,h1,h2⟩:=h;exact⟨b,oo,l,hr _ _ _ hm h1,h2⟩
   ·simp only[VR]
 | .el n sz i f,y,h=>by
   simp only[tM];split
   ·rename_i m hm;simp only[VR]at h ⊢;obtain⟨b,oo,mm,c,l,h1,h2⟩:=h;exact⟨b,oo,mm,c,l,hr _ _ _ hm h1,h2⟩
   ·simp only[VR]
 | .re sz els i f,y,h=>by simpa only[tM,VR]using h
 | .na n o i,y,h=>by simp only[tM,VR]
 | .own n,y,h=>by
   simp only[tM];split
   ·rename_i m hm;simp only[VR]at h ⊢;obtain⟨l,h1,h2⟩:=h;exact⟨l,hr _ _ _ hm h1,h2⟩
   ·simp only[VR]
 | .mp n,y,h=>by
   simp only[tM];split
   ·rename_i m hm;simp only[VR]at h ⊢;obtain⟨b,l,h1,h2⟩:=h;exact⟨b,l,hr _ _ _ hm h1,h2⟩
   ·simp only[VR]
 | .sub n i,y,h=>by
   simp only[tM];split
   ·rename_i m hm;simp only[VR]at h ⊢;obtain⟨hd,l,b,oo,h1,h2⟩:=h;exact⟨hd,l,b,oo,hr _ _ _ hm h1,h2⟩
   ·simp only[VR]
 | .agg l,y,h=>by
   simp only[tM,VR]at h ⊢;obtain⟨ys,h1,h2⟩:=h;exact⟨ys,h1,VRL.ren hr h2⟩
 | .tup l,y,h=>by
   simp only[tM,VR]at h ⊢;obtain⟨ys,h1,h2⟩:=h;exact⟨ys,h1,VRL.ren hr h2⟩
 | .fn f a b,y,h=>by
   simp only[tM,VR]at h ⊢;obtain⟨as,bs,h1,h2,h3⟩:=h;exact⟨as,bs,h1,VRL.ren hr h2,VRL.ren hr h3⟩
 | .ifc t x,y,h=>by
   simp only[tM,VR]at h ⊢;obtain⟨z,h1,h2⟩:=h;exact⟨z,h1,VR.ren hr h2⟩
theorem VRL.ren {π:NM} {F:PH} {tl tab:List Hd} (hr:∀p n hd,z7 p π=au n->tl[p]? =au hd->tab[n]? =au hd):∀{vs:List V} {l:List aa},VRL ⟨F,tl⟩ vs l->VRL ⟨F,tab⟩ (zUv π vs) l
 |[],l,h=>by simpa only[zUv,VRL]using h
 |v::vs,l,h=>by
  simp only[zUv,VRL]at h ⊢;obtain⟨x,xs,h1,h2,h3⟩:=h;exact⟨x,xs,h1,VR.ren hr h2,VRL.ren hr h3⟩
end
def rowHP.ren {π:NM} {F:PH} {tl tab:List Hd} (hr:∀p n hd,z7 p π=au n->tl[p]? =au hd->tab[n]? =au hd) {o:AObj} {hd:Hd} {h:PH} (e:rowHP F o tl hd h):rowHP F (zKh π o) tab hd h:=by
 cases o<;>simp only[zKh]<;>first|exact e.tab rfl|skip
 ·simp only[rowHP]at e ⊢;obtain⟨b,l,h1,h2,h3⟩:=e;exact⟨b,l,h1,h2.ren hr,h3⟩
 ·rename_i q t sz els i f b m;simp only[rowHP]at e ⊢;obtain⟨a,k,ys,xs,h1,h2,h3,h4,h5⟩:=e;refine⟨a,k,ys,xs,h1,h2,h3,?_,h5⟩;cases m with
  |none=>exact h4
  |some m=>
   obtain⟨y,l,e1,e2,e3⟩:=h4;simp only[oN];cases hm:z7 m π with
   |none=>exact⟨y,e2,e3⟩
   |some m'=>exact⟨y,l,hr _ _ _ hm e1,e2,e3⟩
def yCi {n nx m j:Nat} (hj:j+1<m):z7 (j+1) (b9 n nx m)=au (nx+j):=by
 unfold b9;simp only[z7,aw,cond_false];have:∀(a c:Nat),a<=j->j<a+c->z7 (j+1) ((List.range' a c).map λj=>(j+1,nx+j))=au (nx+j):=by
  intro a c
  induction c generalizing a with
  |zero=>intro h1 h2;omega
  |succ c ih=>
   intro h1 h2;simp only[List.range'_succ,y5p,z7];cases hb:aw (a+1) (j+1)
   ·have hne:a≠j:=λe=>by subst e;simp at hb
    exact ih (a+1) (by omega) (by omega)
   ·have:=y5e hb;have e:a=j:=by omega
    subst e;rfl
 rw[List.range_eq_range'];exact this 0 (m-1) (by omega) (by omega)
def zQj {n nx m p q:Nat} (h:z7 p (b9 n nx m)=au q):(p=0/\q=n)\/∃j,p=j+1/\q=nx+j/\j+1<m:=by
 unfold b9 at h;simp only[z7]at h;cases hb:aw 0 p
 ·rw[hb]at h;right;simp only[cond_false]at h;rw[List.range_eq_range']at h;have:∀(a c:Nat),z7 p ((List.range' a c).map λj=>(j+1,nx+j))=au q->∃j,p=j+1/\q=nx+j/\j<a+c:=by
   intro a c
   induction c generalizing a with
   |zero=>intro h;simp[z7]at h
   |succ c ih=>
    intro h;simp only[List.range'_succ,y5p,z7]at h;cases hb:aw (a+1) p
    ·rw[hb]at h;obtain⟨j,h1,h2,h3⟩:=ih (a+1) h;exact⟨j,h1,h2,by omega⟩
    ·rw[hb]at h;simp only[cond_true,cf]at h;exact⟨a,(y5e hb).symm,h.symm,by omega⟩
  obtain⟨j,h1,h2,h3⟩:=this 0 (m-1) h;exact⟨j,h1,h2,by omega⟩
 ·rw[hb]at h;left;simp only[cond_true,cf]at h;exact⟨(y5e hb).symm,h.symm⟩
def Rel.unfold {E:Ev} {s:St} {n m:Nat} {T:Type} {unf:T->Nat->AObj} {x:T} (R:Rel k (rHP E (n,.adt T m unf x)::L) E s w) (hm:1<=m):
 ∃E',E.le E'/\Rel k (rHP E' (n,(zNl s n m (unf x)).1)::L) E' (zNl s n m (unf x)).2 w:=by
 have H:=R.out;obtain⟨hd,tab1,h1,h2,h3,H⟩:∃hd tab1,E.tab[n]? =au hd/\tab1[0]? =au hd/\tab1.length=m/\
  Hp k w (hS ((az m).map λj=>λh=>∃hd',tab1[j]? =au hd'/\rowHP E.F (unf x j) tab1 hd' h)::(s.rows.map (rHP E)++fz E.F::L)):=by
  obtain⟨hk,hs,hh⟩:=H;cases hh with
  |cons ha hsub hdj hr=>
   rcases ha with⟨e,_⟩|⟨hd,q1,q2⟩
   ·cases e
   ·simp only[rowHP]at q2;obtain⟨tab1,q3,q4,q5⟩:=q2;exact⟨hd,tab1,q1,q3,q4,hk,_,.cons q5 hsub hdj hr⟩
 let E':Ev:=⟨E.F,E.tab++tab1.drop 1⟩
 have hle:E.le E':=⟨FLe.refl _,y9e _ _⟩
 have hren:∀p q hd',z7 p (b9 n s.nx m)=au q->tab1[p]? =au hd'->E'.tab[q]? =au hd':=by
  intro p q hd' hp ht;rcases zQj hp with⟨rfl,rfl⟩|⟨j,rfl,rfl,hj⟩
  ·rw[h2]at ht;cases ht;exact hle.get h1
  ·show(E.tab++tab1.drop 1)[s.nx+j]? =au hd';rw[<- R.nx,y7f (by omega),y7p];rw[show E.tab.length+j-E.tab.length=j by omega,xAj];exact ht
 have H2:=(hp_star.1 H)
 have hrange:az m=0::(az (m-1)).map (·+1):=by
  have:m=(m-1)+1:=by omega
  rw[this,List.range_succ_eq_map];simp
 rw[hrange]at H2;simp only[y5p,y7q,y6t]at H2;refine⟨E',hle,Rel.inn (by show(E.tab++tab1.drop 1).length=s.nx+(m-1);rw[y5a,y5z,R.nx,h3]) ?_⟩;have hrows:∀l:List Nat,(∀j∈l,j+1<m)->(zFy (unf x) (b9 n s.nx m) s.nx l)=l.map λj=>(s.nx+j,zKh (b9 n s.nx m) (unf x (j+1))):=by
  intro l
  induction l with
  |nil=>intro _;rfl
  |cons j l ih=>intro h;simp only[zFy,y5p];rw[ih λj hj=>h j (y5j _ hj)]
 have hr2:=hrows (az (m-1)) (λj hj=>by have:=y8b.1 hj;omega);show Hp k w (rHP E' (n,zKh (b9 n s.nx m) (unf x 0))::((zFy (unf x) (b9 n s.nx m) s.nx (az (m-1))++s.rows).map (rHP E')++fz E.F::L));rw[hr2,y5l,y7q,y5i];have H3:Hp k w ((az (m-1)).map ((λj=>λh=>∃hd',tab1[j]? =au hd'/\rowHP E.F (unf x j) tab1 hd' h)∘(·+1))++((λh=>∃hd',tab1[0]? =au hd'/\rowHP E.F (unf x 0) tab1 hd' h)::(s.rows.map (rHP E)++fz E.F::L))):=H2.perm y5r.symm
 have H4:=wE (g:=(rHP E')∘λj=>(s.nx+j,zKh (b9 n s.nx m) (unf x (j+1)))) (λj y hy=>by
  obtain⟨hd',e1,e2⟩:=hy;right;have hj:j+1<m:=by
   have:=(y5f.1 e1).1;simp only at this;omega
  exact⟨hd',hren _ _ _ (yCi hj) e1,e2.ren hren⟩) H3
 have H5:=H4.perm y5r;have H6:=H5.imp (B:=rHP E' (n,zKh (b9 n s.nx m) (unf x 0))) (λy hy=>by
  obtain⟨hd',e1,e2⟩:=hy;right;rw[h2]at e1;cases e1;exact⟨hd,hle.get h1,e2.ren hren⟩)
 have H7:Hp k w (s.rows.map (rHP E)++(rHP E' (n,zKh (b9 n s.nx m) (unf x 0))::((az (m-1)).map ((rHP E')∘λj=>(s.nx+j,zKh (b9 n s.nx m) (unf x (j+1))))++fz E.F::L))):=by
  refine H6.perm ?_;refine List.Perm.trans ?_ y5r.symm;refine .cons _ ?_;rw[<- y5i,<- y5i];exact y7h.append_right _
 have H8:=wE (λr y=>rHP.mono hle r) H7;refine H8.perm ?_;refine y5r.trans (.cons _ ?_);rw[<- y5i,<- y5i];exact y7h.append_right _
def yCa {n p q:Nat} (h:z7 p [(0,n)]=au q):p=0/\q=n:=by
 simp only[z7]at h;cases hb:aw 0 p
 ·rw[hb]at h;cases h
 ·rw[hb]at h;simp only[cond_true,cf]at h;exact⟨(y5e hb).symm,h.symm⟩
def yRz (o':AObj):Prop:=∀{k:Ko} {L:List HP} {w:ab} {n:Nat} {o:AObj} {π:NM} {s:St} {K:NM->St->Prop} {E:Ev},mtO o' n o π s K->Rel k (rHP E (n,o)::L) E s w->WfM π E.tab->o≠.gone->
 ∃E' π' s',MtOk k (PRow E' π' n o'::L) w E π E' π' s'/\K π' s'
def PJ (g:Nat->AObj) (E:Ev) (π:NM) (j:Nat):HP:=λh=>∃n,z7 j π=au n/\PRow E π n (g j) h
def PJ.mono {g:Nat->AObj} {E E':Ev} {π π':NM} (hle:E.le E') (hx:Ext π π') {j:Nat} {h:PH} (e:PJ g E π j h):PJ g E' π' j h:=by
 obtain⟨n,h1,h2⟩:=e;exact⟨n,hx _ _ h1,h2.mono hle hx⟩
def Rel.mapL {α:Type} {f g:α->HP} (h:∀a x,f a x->g a x) {l:List α} {E:Ev} {s:St} (R:Rel k (l.map f++L) E s w):Rel k (l.map g++L) E s w:=by
 refine⟨R.nx,?_⟩;have H:Hp k w (l.map f++(s.rows.map (rHP E)++fz E.F::L)):=by
  refine R.hp.perm ?_;rw[show s.rows.map (rHP E)++fz E.F::(l.map f++L)=(s.rows.map (rHP E)++[fz E.F])++(l.map f++L)by simp,<- y5i,show l.map f++(s.rows.map (rHP E)++fz E.F::L)=(l.map f++(s.rows.map (rHP E)++[fz E.F]))++L by simp];exact y7h.append_right _
 have H2:=wE h H;refine H2.perm ?_;rw[show s.rows.map (rHP E)++fz E.F::(l.map g++L)=((s.rows.map (rHP E)++[fz E.F])++l.map g)++L by simp,show l.map g++(s.rows.map (rHP E)++fz E.F::L)=(l.map g++(s.rows.map (rHP E)++[fz E.F]))++L by simp];exact y7h.append_right _
def Rel.frontL {E:Ev} {s:St} {A:List HP} (R:Rel k (A++L) E s w):Hp k w (A++(s.rows.map (rHP E)++fz E.F::L)):=by
 refine R.hp.perm ?_;rw[show s.rows.map (rHP E)++fz E.F::(A++L)=(s.rows.map (rHP E)++[fz E.F])++(A++L)by simp,<- y5i,show A++(s.rows.map (rHP E)++fz E.F::L)=(A++(s.rows.map (rHP E)++[fz E.F]))++L by simp];exact y7h.append_right _
def zYw {g:Nat->AObj} (hg:∀j,yRz (g j)) {c:Option AObj}:∀{js:List Nat} {done:List Nat} {π:NM} {s:St} {K:NM->St->Prop} {E:Ev},(0∉js)->
 z0w (λj π s K=>match z7 j π with
  |some n'=>match(match j with|0=>c|_=>s.getg n')with
   |some o'=>mtO (g j) n' o' π (match j with|0=>s|_=>s.delF n' o') K
   |none=>False
  |none=>False) js π s K->Rel k (done.map (PJ g E π)++L) E s w->WfM π E.tab->
 ∃E' π' s',MtOk k ((js.reverse++done).map (PJ g E' π')++L) w E π E' π' s'/\K π' s'
 |[],done,π,s,K,E,h0,h,R,hw=>⟨E,π,s,⟨Ev.le.refl _,Ext.refl _,hw,by simpa using R⟩,h⟩
 |j::js,done,π,s,K,E,h0,h,R,hw=>by
  simp only[z0w]at h;split at h<;>first|exact h.elim|skip
  rename_i n' hn';cases j with
  |zero=>exact absurd y5h h0
  |succ j=>
   simp only at h;split at h<;>first|exact h.elim|skip
   rename_i o' ho';obtain⟨ho',hgone⟩:=lX ho'
   ·have R1:=R.takeF ho';obtain⟨E1,π1,s1,q1,q2⟩:=hg (j+1) h R1 hw hgone;have R2:Rel k (((j+1)::done).map (PJ g E1 π1)++L) E1 s1 w:=by
     have R3:=q1.rel.impL (B:=PJ g E1 π1 (j+1)) λx hx=>⟨n',q1.ext _ _ hn',hx⟩
     have R4:Rel k (done.map (PJ g E π)++(PJ g E1 π1 (j+1)::L)) E1 s1 w:=⟨R3.nx,R3.hp.perm (by
      refine bz _ (.cons _ ?_);exact y5r.symm)⟩
     have R5:=R4.mapL (g:=PJ g E1 π1) λa x hx=>hx.mono q1.le q1.ext
     exact⟨R5.nx,R5.hp.perm (by
      refine bz _ (.cons _ ?_);exact y5r)⟩
    obtain⟨E2,π2,s2,r1,r2⟩:=zYw hg (λhm=>h0 (y5j _ hm)) q2 R2 q1.wf;refine⟨E2,π2,s2,⟨q1.le.trans r1.le,q1.ext.trans r1.ext,r1.wf,?_⟩,r2⟩;have:=r1.rel;simpa using this
def yHe {E:Ev}:∀{ds:List D} {l:List aa},VRL E (ds.map V.d) l->DRL E.F ds l
 |[],l,h=>by simpa only[y8t,VRL,DRL]using h
 |d::ds,l,h=>by
  simp only[y5p,VRL,VR]at h;obtain⟨x,xs,h1,h2,h3⟩:=h;simp only[DRL];exact⟨x,xs,h1,h2,yHe h3⟩
def yUz:∀o',yRz o':=by
 intro o'
 induction o' with
 |gone=>
  intro k L w n o π s K E h R hw hg;simp only[mtO]at h;have H:=R.out;refine⟨E,π,s,⟨Ev.le.refl _,Ext.refl _,hw,?_⟩,h⟩;obtain⟨hd,x,q1,_,_⟩:∃hd x,E.tab[n]? =au hd/\rowHP E.F o E.tab hd x/\Sub x w:=by
   obtain⟨x,hx,hs⟩:=H.sat;rcases hx with⟨e,_⟩|⟨hd,h1,h2⟩
   ·exact absurd e hg
   ·exact⟨hd,x,h1,h2,hs⟩
  refine Rel.inn R.nx (((@uA k w True _).2 ⟨trivial,H.drop⟩).imp λx hx=> ?_);intro E2 π2 a b tl c;exact⟨hd,a.get q1,by simp only[rowHP];exact hx.2⟩
 |hol q t sz els i f b m=>
  intro k L w n o π s K E h R hw hg;simp only[mtO]at h;split at h<;>first|exact h.elim|skip
  ·rename_i q' t' sz' els' i' f' b' m';have hh:=zK h;clear h;obtain⟨hb,⟨rfl,rfl,rfl,rfl⟩,h⟩:=hh;simp only[y5o]at hb;have e1:=y5e hb.1;have e2:=y5e hb.2;subst e1 e2;split at h<;>first|exact h.elim|skip
   rename_i p c;obtain⟨hdc,hc⟩:∃hd,E.tab[c]? =au hd:=by
    obtain⟨x,hx,_⟩:=R.out.sat;rcases hx with⟨e,_⟩|⟨hd,h1,h2⟩
    ·cases e
    simp only[rowHP]at h2;obtain⟨A,k',ys,xs,e1,e2,e3,⟨y,l,e4,_⟩,_⟩:=h2;exact⟨_,e4⟩
   obtain⟨π',q1,q2,q3,q4⟩:=pQ h hw hc;refine⟨E,π',s,⟨Ev.le.refl _,q1,q2,R.impL λx hx=> ?_⟩,q4⟩;rcases hx with⟨e,_⟩|⟨hd,h1,h2⟩
   ·cases e
   intro E2 π2 a b' tl hl;refine⟨hd,a.get h1,?_⟩;simp only[rowHP]at h2 ⊢;obtain⟨A,k',ys,xs,e1,e2,e3,⟨y,l,e4,e5⟩,e6⟩:=h2;obtain⟨hd',r1,r2⟩:=hl p c (b' p c q3);rw[a.get e4]at r1;cases r1;exact⟨A,k',ys,xs,e1,e2.mono a.1,e3,⟨y,l,r2,e5⟩,e6⟩
  ·rename_i t' sz' els';have hh:=zK h;clear h;obtain⟨hb,⟨rfl,rfl⟩,h⟩:=hh;simp only[y5o]at hb;have e1:=y5e hb.1;have e2:=y5e hb.2;subst e1 e2;split at h<;>first|exact h.elim|skip
   rename_i p;split at h<;>first|exact h.elim|skip
   rename_i hm;obtain⟨E',r1,r2,r3⟩:=R.newNil;have hpl:z7 p ((p,s.nx)::π)=au s.nx:=by simp[z7]
   refine⟨E',_,_,⟨r1,λq m e=> ?_,λq m e=> ?_,r2.impL λx hx=> ?_⟩,h⟩
   ·simp only[z7];cases hb:aw p q
    ·exact e
    ·have:=y5e hb;subst this;rw[hm]at e;cases e
   ·simp only[z7]at e;cases hb:aw p q
    ·rw[hb]at e;obtain⟨hd,h'⟩:=hw q m e;exact⟨hd,r1.get h'⟩
    ·rw[hb]at e;cases e;exact⟨_,r3⟩
   rcases hx with⟨e,_⟩|⟨hd,h1,h2⟩
   ·cases e
   intro E2 π2 a b' tl hl;refine⟨hd,a.get (r1.get h1),?_⟩;simp only[rowHP]at h2 ⊢;obtain⟨A,k',xs,e1,e2,e3,e4⟩:=h2;obtain⟨hd',z1,z2⟩:=hl p _ (b' p _ hpl);rw[a.get r3]at z1;cases z1;exact⟨A,k',xs,xs,e1,(e2.mono r1.1).mono a.1,e3,⟨_,_,z2,⟨av,0,0,rfl⟩,rfl⟩,e4⟩
 |nilo=>
  intro k L w n o π s K E h R hw hg;simp only[mtO]at h;obtain⟨rfl,h⟩:=h;exact⟨E,π,s,⟨Ev.le.refl _,Ext.refl _,hw,R.impL λx hx=>gC rfl (by simp) hx⟩,h⟩
 |fro sz els=>
  intro k L w n o π s K E h R hw hg;simp only[mtO]at h;split at h
  ·rename_i t sz' els';obtain⟨hb,e9,hK⟩:=zK h;subst e9;have e:=y5e hb;subst e;have H:Hp k w (rHP E (n,.own t sz els)::fz E.F::(s.rows.map (rHP E)++L)):=R.out.cons y5r;obtain⟨x,hx,hd,hsub,H⟩:=zWb H;rcases hx with⟨e,_⟩|⟨hv,h1,h2⟩
   ·cases e
   simp only[rowHP]at h2;obtain⟨a,c,xs,h3,h4,h5,h6⟩:=h2;have hle:E.le ⟨un x E.F,E.tab⟩:=⟨z1z hd,y9r _⟩
   have hdr:DR (un x E.F) (.ro sz els) hv.1:=by
    simp only[DR];refine⟨a,c,h3,(zLb h6).2,h5,?_⟩;rcases h6 with⟨rfl,q2,rfl,rfl,rfl⟩|⟨b,r,rfl,rfl,q3,q4,q5⟩
    ·exact .inl (y6d q2)
    ·refine .inr ⟨b,0,xs++r,t,(0,0),rfl,?_,DRS_iff.2 ⟨xs,r,rfl,h4.mono hle.1⟩⟩;simp[un,one]
   have H1:Hp k w (s.rows.map (rHP E)++fz (un x E.F)::L):=H.perm y5r.symm;have H2:=wE (λr x=>rHP.mono hle r) H1;have H3:=yGo H2;refine⟨⟨un x E.F,E.tab⟩,π,s,⟨hle,Ext.refl _,hw,Rel.inn R.nx (H3.imp λy hy=> ?_)⟩,hK⟩;intro E2 π2 a1 b1 tl c1;refine⟨hv,a1.get h1,?_⟩;simp only[rowHP];exact⟨hy,hdr.mono a1.1⟩
  ·obtain⟨rfl,h⟩:=h;exact⟨E,π,s,⟨Ev.le.refl _,Ext.refl _,hw,R.impL λx hx=>gC rfl (by simp) hx⟩,h⟩
 |objs t T m unf l hole ih=>
  intro k L w n o π s K E h R hw hg;simp only[mtO]at h;split at h
  ·obtain⟨rfl,rfl,h⟩:=h;refine⟨E,π,s,⟨Ev.le.refl _,Ext.refl _,hw,R.impL λx hx=>gC (o:= .objs t T m unf [] av) rfl (by simp) ?_⟩,h⟩;rcases hx with⟨e,_⟩|⟨hd,h1,h2⟩
   ·cases e
   ·simp only[rowHP]at h2;obtain⟨rfl,e1,e2⟩:=h2;refine .inr ⟨hd,h1,rowHP_objs.2 ⟨av,0,e1,by rw[e2];rfl,λp hp=>(by rw[e2]at hp;exact(nomatch hp)),pe,pe,by rw[e2];exact z7k t 1,rfl,?_,?_⟩⟩
    ·intro b;exact .inl rfl
    ·funext b;rfl
  ·obtain⟨rfl,h⟩:=h;exact⟨E,π,s,⟨Ev.le.refl _,Ext.refl _,hw,R.impL λx hx=>gC rfl (by simp) hx⟩,h⟩
 |vec ds t=>
  intro k L w n o π s K E h R hw hg;simp only[mtO]at h;split at h
  ·obtain⟨hb,e9,hK⟩:=zK h;subst e9;have e:=y5e hb;subst e;refine⟨E,π,s,⟨Ev.le.refl _,Ext.refl _,hw,R.impL λx hx=>gC (o:= .vec ds t) rfl (by simp) ?_⟩,hK⟩;rcases hx with⟨e,_⟩|⟨hd,h1,h2⟩
   ·cases e
   ·simp only[rowHP]at h2;obtain⟨b,l,e1,e2,e3⟩:=h2;refine .inr ⟨hd,h1,?_⟩;simp only[rowHP];exact⟨b,l,e1,yHe e2,e3⟩
  ·obtain⟨rfl,h⟩:=h;exact⟨E,π,s,⟨Ev.le.refl _,Ext.refl _,hw,R.impL λx hx=>gC rfl (by simp) hx⟩,h⟩
 |map es=>
  intro k L w n o π s K E h R hw hg;simp only[mtO]at h;split at h<;>first|exact h.elim|skip
  obtain⟨rfl,h⟩:=h;exact⟨E,π,s,⟨Ev.le.refl _,Ext.refl _,hw,R.impL λx hx=>gC rfl (by simp) hx⟩,h⟩
 |mapS es kv x=>
  intro k L w n o π s K E h R hw hg;simp only[mtO]at h;obtain⟨rfl,h⟩:=h;exact⟨E,π,s,⟨Ev.le.refl _,Ext.refl _,hw,R.impL λx hx=>gC rfl (by simp) hx⟩,h⟩
 |mrk t els=>
  intro k L w n o π s K E h R hw hg;simp only[mtO]at h;obtain⟨rfl,h⟩:=h;exact⟨E,π,s,⟨Ev.le.refl _,Ext.refl _,hw,R.impL λx hx=>gC rfl (by simp) hx⟩,h⟩
 |iter b p=>
  intro k L w n o π s K E h R hw hg;simp only[mtO]at h;split at h<;>first|exact h.elim|skip
  obtain⟨rfl,rfl,h⟩:=h;exact⟨E,π,s,⟨Ev.le.refl _,Ext.refl _,hw,R.impL λx hx=>gC rfl (by simp) hx⟩,h⟩
 |own t sz els=>
  intro k L w n o π s K E h R hw hg;simp only[mtO]at h;split at h<;>first|exact h.elim|skip
  ·obtain⟨hb,rfl,hk⟩:=zK h;simp only[y5o]at hb;have e1:=y5e hb.1;have e2:=y5e hb.2;subst e1 e2;exact⟨E,π,s,⟨Ev.le.refl _,Ext.refl _,hw,R.impL λx hx=>gC rfl (by simp) hx⟩,hk⟩
  ·obtain⟨rfl,h⟩:=h;refine⟨E,π,s,⟨Ev.le.refl _,Ext.refl _,hw,R.impL λx hx=> ?_⟩,h⟩;rcases hx with⟨e,_⟩|⟨hd,h1,h2⟩
   ·cases e
   ·intro E2 π2 a b tl c;simp only[rowHP]at h2;refine⟨hd,a.get h1,?_⟩;simp only[rowHP];exact⟨av,0,[],h2.2.1,by simp[DRL],by simp,.inl ⟨rfl,rfl,rfl,rfl,h2.1⟩⟩
 |cells vs t=>
  intro k L w n o π s K E h R hw hg;have key:∀{E:Ev} {s:St} {vs':List V} {π:NM},Rel k (rHP E (n,.cells vs' t)::L) E s w->WfM π E.tab->mtL vs vs' π s K->∃E' π' s',MtOk k (PRow E' π' n (.cells vs t)::L) w E π E' π' s'/\K π' s':=by
   intro E s vs' π R hw h;have H:=R.out;obtain⟨b,l,sub,h1,h2,H⟩:∃b l sub,E.tab[n]? =au (.pointer (au ⟨b,0,av⟩),sub)/\VRL E vs' l/\Hp k w (pt b (.cells l.toArray t)::(s.rows.map (rHP E)++fz E.F::L)):=by
    obtain⟨hk,hs,hh⟩:=H;cases hh with
    |cons ha hsub hdj hr=>
     rcases ha with⟨e,_⟩|⟨⟨hv,sub⟩,q1,q2⟩
     ·cases e
     ·simp only[rowHP]at q2;obtain⟨b,l,rfl,q3,rfl⟩:=q2;exact⟨b,l,sub,q1,q3,hk,_,.cons rfl hsub hdj hr⟩
   have R1:Rel k (pt b (.cells l.toArray t)::L) E s w:=Rel.inn R.nx H;obtain⟨E',π',s',q1,q2,q3⟩:=tQ h R1 hw h2;refine⟨E',π',s',⟨q1.le,q1.ext,q1.wf,q1.rel.impL λx hx=> ?_⟩,q3⟩;intro E2 π2 a b' tl c;refine⟨_,a.get (q1.le.get h1),?_⟩;simp only[rowHP];exact⟨b,l,rfl,q2 E2 π2 a b' tl c,hx⟩
  simp only[mtO]at h;split at h<;>first|exact h.elim|skip
  ·obtain⟨hb,hk⟩:=zK h;have e:=y5e hb;subst e;exact key R hw hk
  ·rename_i T m unf x;obtain⟨hb,h⟩:=zK h;obtain⟨E1,q1,q2⟩:=R.unfold (y7i hb);revert q2 h;generalize zNl s n m (unf x)=u;obtain⟨u1,u2⟩:=u;intro h q2;simp only at h q2;split at h<;>first|exact h.elim|skip
   rename_i vs' t' s' heq;cases heq;obtain⟨hb,hk⟩:=zK h;have e:=y5e hb;subst e;obtain⟨E',π',s2,r1,r2⟩:=key q2 (hw.mono q1) hk;exact⟨E',π',s2,⟨q1.trans r1.le,r1.ext,r1.wf,r1.rel⟩,r2⟩
 |adt T m unf x ih=>
  intro k L w n o π s K E h R hw hg;unfold mtO at h;split at h
  ·rename_i vs t;obtain⟨hb,h⟩:=zK h;have hm:=y7i hb;have hrange:az m=0::(az (m-1)).map (·+1):=by
    have:m=(m-1)+1:=by omega
    rw[this,List.range_succ_eq_map];simp
   obtain⟨hd,hd1⟩:∃hd,E.tab[n]? =au hd:=by
    obtain⟨x,hx,_⟩:=R.out.sat;rcases hx with⟨e,_⟩|⟨hd,h1,_⟩
    ·cases e
    ·exact⟨hd,h1⟩
   have hw0:WfM [(0,n)] E.tab:=λp q e=>by
    obtain⟨_,rfl⟩:=yCa e;exact⟨hd,hd1⟩
   rw[hrange]at h;simp only[z0w]at h;have hpl:z7 0 [(0,n)]=au n:=rfl;rw[hpl]at h;simp only at h;obtain⟨E1,π1,s1,q1,q2⟩:=ih x 0 h R hw0 (by simp);have R2:Rel k ([0].map (PJ (unf x) E1 π1)++L) E1 s1 w:=q1.rel.impL λy hy=>⟨n,q1.ext _ _ hpl,hy⟩
   obtain⟨E2,π2,s2,r1,r2⟩:=zYw (λj=>ih x j) (c:=au (AObj.cells vs t)) (by simp) q2 R2 q1.wf;have hle:=q1.le.trans r1.le;obtain⟨hlt,r2⟩:=zK r2;refine⟨E2,π,s2,⟨hle,Ext.refl _,hw.mono hle,?_⟩,r2⟩;have H:=r1.rel.frontL;have H2:Hp k w ((az m).map (PJ (unf x) E2 π2)++(s2.rows.map (rHP E2)++fz E2.F::L)):=by
    refine H.perm (cd _ (List.Perm.map _ ?_));rw[hrange];refine(List.reverse_perm _).append_right _|>.trans ?_
    exact y7h
   refine Rel.inn r1.rel.nx ((hp_star.2 H2).imp λy hy=> ?_);intro E3 π3 a b tl c;have hall:∀j,j<m->∃n,z7 j π2=au n:=by
    intro j hj;have hs:∀{l:List HP} {y:PH},hS l y->∀A∈l,∃z,A z:=by
     intro l
     induction l with
     |nil=>intro y _ A hA;cases hA
     |cons B l ih=>
      intro y hy A hA;cases l with
      |nil=>rcases y6r.1 hA with rfl;exact⟨y,hy⟩
      |cons C l=>
       obtain⟨g,g',h1,h2,_,_⟩:=hy;rcases y5w.1 hA with rfl|hA
       ·exact⟨g,h1⟩
       ·exact ih h2 A hA
    obtain⟨z,n,hz,_⟩:=hs hy (PJ (unf x) E2 π2 j) (y6n.2 ⟨j,y8b.2 hj,rfl⟩);exact⟨n,hz⟩
   let tab1:List Hd:=(az m).map λj=>(E3.tab[(z7 j π2).getD 0]?).getD (af,[])
   have htab:∀j n,j<m->z7 j π2=au n->∃hd,E3.tab[n]? =au hd/\tab1[j]? =au hd:=by
    intro j n hj hn;obtain⟨hd,h'⟩:=r1.wf j n hn;refine⟨hd,a.get h',?_⟩;show((az m).map _)[j]? =_;rw[y6q,y9c hj];simp only[y7e,hn,y7n,a.get h']
   have hloc:Loc π2 E3.tab tab1:=λp q e=>htab p q (aA hlt p q e) e
   refine⟨hd,a.get (hle.get hd1),?_⟩;simp only[rowHP];refine⟨tab1,?_,by simp[tab1],?_⟩
   ·have h0:z7 0 π2=au n:=r1.ext _ _ (q1.ext _ _ hpl);obtain⟨hd',e1,e2⟩:=htab 0 n (by omega) h0;rw[a.get (hle.get hd1)]at e1;cases e1;exact e2
   ·refine zDb ?_ hy;rintro j z ⟨nj,hj,hz⟩;obtain⟨hd',e1,e2⟩:=hz E3 π2 a (Ext.refl _) tab1 hloc;obtain⟨hd2,e3,e4⟩:=hloc j nj hj;rw[e1]at e3;cases e3;exact⟨hd',e4,e2⟩
  ·obtain⟨rfl,h⟩:=h;exact⟨E,π,s,⟨Ev.le.refl _,Ext.refl _,hw,R.impL λx hx=>gC rfl (by simp) hx⟩,h⟩
variable {k:Ko} {L:List HP} {w:ab}
def uV:Nat->List AObj->List (Nat×AObj)
 |_,[]=>[]
 |p,o::os=>(p,o)::uV (p+1) os
def PQ (E:Ev) (π:NM) (r:Nat×AObj):HP:=λh=>(r.2= .gone/\h=pe)\/∃n,z7 r.1 π=au n/\PRow E π n r.2 h
def PQ.mono {E E':Ev} {π π':NM} (hle:E.le E') (hx:Ext π π') (r:Nat×AObj) {h:PH} (e:PQ E π r h):PQ E' π' r h:=by
 rcases e with e|⟨n,h1,h2⟩
 ·exact .inl e
 ·exact .inr ⟨n,hx _ _ h1,h2.mono hle hx⟩
def zUy:∀{os:List AObj} {p:Nat} {π:NM} {s:St} {K:NM->St->Prop} {E:Ev} {L:List HP},mtR p os π s K->Rel k L E s w->WfM π E.tab->
 ∃E' π' s',MtOk k ((uV p os).map (PQ E' π')++L) w E π E' π' s'/\K π' s'
 |[],p,π,s,K,E,L,h,R,hw=>⟨E,π,s,⟨Ev.le.refl _,Ext.refl _,hw,R⟩,h⟩
 |o::os,p,π,s,K,E,L,h,R,hw=>by
  have fin:∀{E1:Ev} {π1:NM} {s1:St},MtOk k (PQ E1 π1 (p,o)::L) w E π E1 π1 s1->mtR (p+1) os π1 s1 K->∃E' π' s',MtOk k ((uV p (o::os)).map (PQ E' π')++L) w E π E' π' s'/\K π' s':=by
   intro E1 π1 s1 q1 q2;obtain⟨E2,π2,s2,r1,r2⟩:=zUy q2 q1.rel q1.wf;refine⟨E2,π2,s2,⟨q1.le.trans r1.le,q1.ext.trans r1.ext,r1.wf,?_⟩,r2⟩;have R3:=r1.rel;have R4:Rel k (PQ E1 π1 (p,o)::((uV (p+1) os).map (PQ E2 π2)++L)) E2 s2 w:=⟨R3.nx,R3.hp.perm (by
    refine bz _ (.cons _ ?_);exact y5r)⟩
   exact R4.impL λx hx=>hx.mono r1.le r1.ext
  cases o with
  |gone=>
   simp only[mtR]at h;refine fin ⟨Ev.le.refl _,Ext.refl _,hw,?_⟩ h;exact Rel.inn R.nx (((@uA k w True _).2 ⟨trivial,R.hp⟩).imp λx hx=> .inl ⟨rfl,hx.2⟩)
  |_=>
   simp only[mtR]at h;split at h<;>first|exact h.elim|skip
   rename_i n hn;split at h<;>first|exact h.elim|skip
   rename_i o' ho';obtain⟨ho',hg⟩:=lX ho';obtain⟨E1,π1,s1,q1,q2⟩:=yUz _ h (R.takeF ho') hw hg;exact fin ⟨q1.le,q1.ext,q1.wf,q1.rel.impL λx hx=> .inr ⟨n,q1.ext _ _ hn,hx⟩⟩ q2
structure Alt where
 o:Type
 res:o->V
 post:o->List AObj
 rel:o->Prop
structure Con where
 ι:Type
 pat:ι->List V
 pre:ι->List AObj
 cnd:ι->Prop
 alts:ι->List Alt
def zEp (m nx:Nat):Nat->NM->NM
 |0,π=>π
 |q+1,π=>zEp m nx q ((m+q,nx+q)::π)
def qX (π:NM):Nat->List AObj->List (Nat×AObj)
 |_,[]=>[]
 |p,.gone::os=>qX π (p+1) os
 |p,o::os=>match z7 p π with
  |some n=>(n,zKh π o)::qX π (p+1) os
  |none=>qX π (p+1) os
def yVa (m:Nat) (π:NM) (s:St) (os:List AObj):St:=⟨qX (zEp m s.nx (os.length-m) π) 0 os++s.rows,s.nx+(os.length-m)⟩
def yVr (m:Nat) (π:NM) (s:St) (K:V->St->Prop) (a:Alt):Prop:=
 ∀o,a.rel o->bif ay m (a.post o).length then K (tM (zEp m s.nx ((a.post o).length-m) π) (a.res o)) (yVa m π s (a.post o))else False
def yIa (m:Nat) (π:NM) (s:St) (K:V->St->Prop):List Alt->Prop
 |[]=>True
 |[a]=>yVr m π s K a
 |a::l=>yVr m π s K a/\yIa m π s K l
def zSg {m:Nat} {π:NM} {s:St} {K:V->St->Prop}:∀{l:List Alt},yIa m π s K l->∀a∈l,yVr m π s K a
 |[],_,a,ha=>by cases ha
 |[b],h,a,ha=>by rcases y6r.1 ha with rfl;exact h
 |b::c::l,h,a,ha=>by
  rcases y5w.1 ha with rfl|ha
  ·exact h.1
  ·exact zSg h.2 a ha
def Con.call (C:Con) (args:List V) (s:St) (K:V->St->Prop):Prop:=
 ∃i:C.ι,mtL (C.pat i) args [] s λπ s=>mtR 0 (C.pre i) π s λπ s=>bif rL (C.pre i).length π then C.cnd i/\yIa (C.pre i).length π s K (C.alts i)else False
def Con.ok (P:ae) (f:ap) (C:Con):Prop:=∀i,C.cnd i->∀(k:Ko) (L:List HP) (E:Ev) (w:ab) (ys:List aa),Rel k L E ⟨uV 0 (C.pre i),(C.pre i).length⟩ w->VRL E (C.pat i) ys->
 Does P (ag f ys.toArray) w λy w'=>∃a∈C.alts i,∃o,a.rel o/\∃E',E.le E'/\VR E' (a.res o) y/\Rel k L E' ⟨uV 0 (a.post o),(a.post o).length⟩ w'
def zSw {m nx:Nat} {p n:Nat}:∀{q:Nat} {π:NM},z7 p (zEp m nx q π)=au n->z7 p π=au n\/(m<=p/\n=nx+(p-m))
 |0,π,h=> .inl h
 |q+1,π,h=>by
  simp only[zEp]at h;rcases zSw (q:=q) h with h|h
  ·simp only[z7]at h;cases hb:aw (m+q) p
   ·rw[hb]at h;exact .inl h
   ·rw[hb]at h;have:=y5e hb;simp only[cond_true,cf]at h;exact .inr ⟨by omega,by omega⟩
  ·exact .inr h
def mP {π:NM} {E E2:Ev} (hF:E.F=E2.F) (hr:∀p n hd,z7 p π=au n->E.tab[p]? =au hd->E2.tab[n]? =au hd) {M:List HP}:∀{os:List AObj} {p:Nat},Hp k w ((uV p os).map (rHP E)++M)->Hp k w ((qX π p os).map (rHP E2)++M)
 |[],p,H=>H
 |o::os,p,H=>by
  simp only[uV,y5p,y6t]at H;have drop:Hp k w ((qX π (p+1) os).map (rHP E2)++M):=mP hF hr H.drop;have main:∀n,z7 p π=au n->Hp k w (rHP E2 (n,zKh π o)::((qX π (p+1) os).map (rHP E2)++M)):=by
   intro n hn;have H1:Hp k w ((uV (p+1) os).map (rHP E)++(rHP E (p,o)::M)):=H.perm y5r.symm;have H2:=mP hF hr H1;refine(H2.perm y5r).imp λx hx=> ?_
   rcases hx with⟨e,e2⟩|⟨hd,h1,h2⟩
   ·left;simp only at e;subst e;exact⟨rfl,e2⟩
   ·right;exact⟨hd,hr _ _ _ hn h1,hF▸h2.ren hr⟩
  cases o with
  |gone=>simpa only[qX]using drop
  |_=>
   simp only[qX];split
   ·rename_i n hn;exact main n hn
   ·exact drop
def Con.call_sound {P:ae} {f:ap} {C:Con} (hC:C.ok P f) {args:List V} {s:St} {K:V->St->Prop} {E:Ev} {ys:List aa} (h:C.call args s K) (R:Rel k L E s w) (hv:VRL E args ys):
 Does P (ag f ys.toArray) w (Outc k L E K):=by
 obtain⟨i,h⟩:=h;have hw0:WfM [] E.tab:=λp n e=>by cases e
 obtain⟨E1,π1,s1,q1,q2,q3⟩:=tQ h R hw0 hv;obtain⟨E2,π2,s2,r1,r2⟩:=zUy q3 q1.rel q1.wf;obtain⟨hlt,hc,ha⟩:=zK r2;have hlt:=aA hlt
 let m:=(C.pre i).length
 let tl:List Hd:=(az m).map λp=>(E2.tab[(z7 p π2).getD 0]?).getD (af,[])
 have hloc:Loc π2 E2.tab tl:=by
  intro p n hp;obtain⟨hd,h'⟩:=r1.wf p n hp;refine⟨hd,h',?_⟩;show((az m).map _)[p]? =_;rw[y6q,y9c (hlt p n hp)];simp only[y7e,hp,y7n,h']
 have htl:tl.length=m:=by simp[tl]
 have H:=r1.rel.frontL;have H1:=wE (g:=rHP ⟨E2.F,tl⟩) (λr x hx=>by
  rcases hx with⟨e1,e2⟩|⟨n,h1,h2⟩
  ·exact .inl ⟨e1,e2⟩
  ·right;obtain⟨hd,h3,h4⟩:=h2 E2 π2 (Ev.le.refl _) (Ext.refl _) tl hloc;obtain⟨hd',h5,h6⟩:=hloc _ _ h1;rw[h3]at h5;cases h5;exact⟨hd,h6,h4⟩) H
 have R0:Rel k (s2.rows.map (rHP E2)++L) ⟨E2.F,tl⟩ ⟨uV 0 (C.pre i),(C.pre i).length⟩ w:=⟨htl,H1.perm (bz _ y5r)⟩
 have hv0:VRL ⟨E2.F,tl⟩ (C.pat i) ys:=q2 E2 π2 r1.le r1.ext tl hloc;refine(hC i hc k _ _ w ys R0 hv0).mono ?_;rintro y w' ⟨a,ha',o,hrel,E3,hle,hvr,R3⟩;obtain⟨hm,hk⟩:=zK (zSg ha a ha' o hrel);have hm:=y7i hm
 let q:=(a.post o).length
 have hlen:E3.tab.length=q:=R3.nx
 let E4:Ev:=⟨E3.F,E2.tab++E3.tab.drop m⟩
 have hle4:E2.le E4:=⟨hle.1,y9e _ _⟩
 have hren:∀p n hd,z7 p (zEp m s2.nx (q-m) π2)=au n->E3.tab[p]? =au hd->E4.tab[n]? =au hd:=by
  intro p n hd hp ht;rcases zSw hp with hp|⟨h1,rfl⟩
  ·obtain⟨hd',h5,h6⟩:=hloc _ _ hp;have:=zLe hle.2 h6;rw[ht]at this;cases this;exact hle4.get h5
  ·show(E2.tab++E3.tab.drop m)[s2.nx+(p-m)]? =au hd;rw[<- r1.rel.nx,y7f (by omega),y7p];rw[show m+(E2.tab.length+(p-m)-E2.tab.length)=p by omega];exact ht
 refine⟨E4,_,_,(q1.le.trans r1.le).trans hle4,?_,hvr.ren (F:=E3.F) hren,hk⟩;refine⟨by show(E2.tab++E3.tab.drop m).length=s2.nx+(q-m);rw[y5a,y5z,r1.rel.nx,hlen],?_⟩;have H2:=mP (E:=E3) (E2:=E4) rfl hren R3.hp;have H3:Hp k w' (s2.rows.map (rHP E2)++((qX (zEp m s2.nx (q-m) π2) 0 (a.post o)).map (rHP E4)++fz E3.F::L)):=by
  refine H2.perm ?_;rw[<- y5i];refine List.Perm.trans ?_ (y7h.append_right _);rw[y5i];exact bz _ y5r.symm
 have H4:=wE (g:=rHP E4) (λr x=>rHP.mono hle4 r) H3;refine H4.perm ?_;show(s2.rows.map (rHP E4)++((qX (zEp m s2.nx (q-m) π2) 0 (a.post o)).map (rHP E4)++fz E3.F::L)).Perm ((qX (zEp m s2.nx (q-m) π2) 0 (a.post o)++s2.rows).map (rHP E4)++fz E4.F::L);rw[<- y5i,y5l];exact y7h.append_right _
variable {P:ae} {k:Ko} {L:List HP}
def kS (P:ae) (ρ:y8) (op:Op):Nat:=
 match op with
 | .convert s d _=>bif yJo P s && zCs P d then 1 else bif zCs P s && zFp P d then 2 else bif yJo P s && zFp P d then 2 else 0
 | .indexAddr _ x _=>match sev ρ x with
   | .own _=>1
   |_=>0
 | .slice _ x _ _ _=>match sev ρ x with
   | .own _=>2
   |_=>0
 | .binOp _ _ x _ _=>match sev ρ x with
   | .own _=>1
   |_=>0
 | .call c=>match c.callee with
   | .builtin .len=>match evs ρ c.args.toList with
     |[.own _]=>1
     |[.mp _]=>1
     |_=>0
   | .builtin .cap=>0
   | .builtin .min=>0
   | .builtin .max=>0
   |_=>2
 |op=>zWa P op
def opS (P:ae) (H:Hnd) (o:ao) (ρ:y8) (s:St) (K:V->St->Prop):Prop:=
 match kS P ρ o.op with
 |0=>sq P o ρ λv=>K v s
 |1=>sr P o ρ s λv=>K v s
 |_=>se P H o ρ s K
def yBy {H:Hnd} (hH:HOk P H) {E:Ev} {s:St} {w:ab} (R:Rel k L E s w) {ρS:y8} {ρ:Env} (he:EnvR E ρS ρ) {o:ao} {K:V->St->Prop} (h:opS P H o ρS s K):Does P (ac (ev ρ) o) w (Outc k L E K):=by
 unfold opS at h;split at h
 ·obtain⟨v,y,hk,hv,hf⟩:=zWw he h;exact jT (hf w) ⟨E,v,s,Ev.le.refl _,R,hv,hk⟩
 ·obtain⟨v,y,hk,hv,hf⟩:=zNc R he h;exact jT hf ⟨E,v,s,Ev.le.refl _,R,hv,hk⟩
 ·exact z0j hH R he h
def zMf (ops:List ao) (g:Option (Nat×Bool)) (ρ:y8) (Y N:y8->Prop):Prop:=
 match g with
 |none=>Y ρ
 |some (j,want)=>
  match z9i ops j with
  |none=>N ρ
  |some d=>
   match ρ d with
   | .d (.v (.bool c))=>gd c want (Y (lD ρ (au d) (.d (.v (.bool want))))) (N (lD ρ (au d) (.d (.v (.bool !want)))))
   | .tup []=>N ρ
   |_=>False
def yBn {ρ:y8} {d:Nat} {v:V} (h:ρ d=v):lD ρ (au d) v=ρ:=by
 funext i;simp only[lD];cases hb:aw i d
 ·rfl
 ·have:=y5e hb;subst this;exact h.symm
def pX {ops:List ao} {o:ao} {a:Act} {E:Ev} {ρS:y8} (he:EnvR E ρS (yK a)) {Y N:y8->Prop} (h:zMf ops o.guard ρS Y N):
 if cr o (yielded ops.toArray a.tmps)then Y ρS else N ρS:=by
 unfold zMf at h;unfold cr;split at h
 ·rename_i hg;rw[hg];exact h
 ·rename_i j want hg;rw[hg];have hy:=zDw ops a.tmps j;split at h
  ·rename_i hd;rw[hd]at hy;simp only[hy];simpa using h
  ·rename_i d hd;rw[hd]at hy;simp only[hy];have hv:yK a d=(a.tmps[d]?).getD af:=by simp[yK,y6y]
   have hed:=he d;rw[hv]at hed;split at h<;>first|exact h.elim|skip
   ·rename_i c hc;rw[hc]at hed;simp only[VR,DR]at hed;cases ht:a.tmps[d]? with
    |none=>rw[ht]at hed;exact absurd hed.1 (by simp[af])
    |some v=>
     rw[ht]at hed;simp only[y7n]at hed;rw[hed.1];simp only[];have hs:∀b,c=b->lD ρS (au d) (.d (.v (.bool b)))=ρS:=λb hb=>yBn (by rw[hc,hb])
     cases c<;>cases want<;>simp only[gd,Bool.not_true,xAd]at h<;>rw[hs _ rfl]at h<;>simpa using h
   ·rename_i hc;rw[hc]at hed;simp only[VR,VRL]at hed;obtain⟨ys,e1,rfl⟩:=hed;cases ht:a.tmps[d]? with
    |none=>simpa using h
    |some v=>
     rw[ht]at e1;simp only[y7n]at e1;subst e1;simpa using h
def zXw (P:ae) (H:Hnd) (ops:List ao):List ao->y8->St->(y8->St->Prop)->Prop
 |[],ρ,s,K=>K ρ s
 |o::rest,ρ,s,K=>zMf ops o.guard ρ (λρ=>opS P H o ρ s λv s'=>zXw P H ops rest (lD ρ o.dst v) s' K) (λρ=>zXw P H ops rest (lD ρ o.dst (.tup [])) s K)
def zCm (E:Ev):VR E (.tup []) af:=by
 simp only[VR];exact⟨[],rfl,VRL.nil⟩
def zKa {H:Hnd} (hH:HOk P H) {ops:List ao} {n:Nat} {A:Nat->Bool} {e0:Env} {Q:Exit->Act->ab->Prop} {E0:Ev} {K:y8->St->Prop}
 (hQ:∀a w E ρS s,Good n A e0 a->E0.le E->Rel k L E s w->EnvR E ρS (yK a)->K ρS s->Q .normal a w):
 ∀(l:List ao) (a:Act) (w:ab) (E:Ev) (ρS:y8) (s:St),zKd n A l->Good n A e0 a->E0.le E->Rel k L E s w->EnvR E ρS (yK a)->zXw P H ops l ρS s K->wpList P ops.toArray Q l a w
 |[],a,w,E,ρS,s,_,hg,hle,R,he,h=>hQ a w E ρS s hg hle R he h
 |o::l,a,w,E,ρS,s,hf,hgd,hle,R,he,h=>by
  have hdst:=hf o y5h;have hf':zKd n A l:=λo' ho'=>hf o' (y5j _ ho')
  have hg:=pX he h;have nx:∀{v:aa} {w:ab} {E':Ev} {v':V} {s':St},E.le E'->Rel k L E' s' w->VR E' v' v->zXw P H ops l (lD ρS o.dst v') s' K->wpList P ops.toArray Q l (a.put o.dst v) w:=λ{v w E' v' s'} hle' R' hv hh=>
   zKa hH hQ l _ _ E' _ s' hf' (hgd.put hdst v) (hle.trans hle') R' (by rw[hgd.envOf_put hdst];exact(he.mono hle').put _ hv) hh
  unfold wpList;split
  ·rename_i hw;rw[y5d hw]at hg;left;refine zDa ?_;have:=yBy hH R he hg;rw[wG]at this;refine this.mono ?_;rintro v w' ⟨E',v',s',h1,h2,h3,h4⟩;exact nx h1 h2 h3 h4
  ·rename_i hw;rw[y5b hw]at hg;exact nx (Ev.le.refl _) R (zCm E) hg
def zJt {P:ae} {E:Ev} {t sz i f:Nat} {els:List (List D)} {b o:Nat} {l:List aa} {T:aj} {fr:Nat×Nat} {ds:List D} {v:V} (hu:∀el∈els,el.length=sz) (h5:DRS E.F els (l.drop o))
 (hp:zE els i f ds.length=au ds) (hm:mkD P t ds=au v):∃y,VR E v y/\∀w:ab,w.heap[b]? =au (.cells l.toArray T fr)->mT P t ⟨b,o+i*sz+f,av⟩ w y:=by
 obtain⟨xs,r,e,hx⟩:=DRS_iff.1 h5;unfold zE at hp;split at hp<;>first|(cases hp;done)|skip
 rename_i el hel;obtain⟨hb,hp⟩:=yT hp;have hb:=y7i hb;have hmem:=y5m hel;have hi:i<els.length:=(y5f.1 hel).1;rw[hu el hmem]at hb;have hpart:=(hx.drop (i*sz+f)).take ds.length;have hfp:=zHy hu hel hb;rw[hfp,cg hp]at hpart;have hlen:xs.length=els.length*sz:=by rw[hx.length,jN hu]
 have hin:i*sz+sz<=els.length*sz:=by
  have:=y6o sz (show i+1<=els.length by omega);rwa [y8a]at this
 have hmemory:(l.drop (o+i*sz+f)).take ds.length=(xs.drop (i*sz+f)).take ds.length:=by
  rw[y8s,<- y8l,e,y7t (by omega),y5y (by rw[y5z];omega)]
 unfold mkD at hm;split at hm
 ·rename_i n hn;obtain⟨hq,hm⟩:=yT hm;have:=y5e hq;cases hm;refine⟨.agg ((xs.drop (i*sz+f)).take ds.length).toArray,by simp only[VR];exact⟨_,rfl,hpart.vrl⟩,λw e2=> ?_⟩;refine zAs hn e2 (by rw[<- this];exact hmemory) ?_;rw[hpart.length,this]
 ·obtain⟨hq,hm⟩:=yT hm;split at hm<;>first|(cases hm;done)|skip
  rename_i d;cases hm;simp only[y5g,y6v,DRL]at hpart hmemory;obtain⟨y,ys,e4,h4,h5⟩:=hpart;subst h5;refine⟨y,by simpa only[VR]using h4,λw e2=>wP hq e2 ?_⟩;have:((l.drop (o+i*sz+f)).take 1)[0]? =au y:=by rw[hmemory,e4];rfl
  rw[y9d,y5d (by omega),y7p]at this;simpa using this
def zKv (ρ:y8) (s:St):Op->Bool
 | .load _ x=>match sev ρ x with
   | .re _ _ _ _=>bu
   | .el n _ _ _=>match s.get n with
     |some (.fro _ _)=>bu
     |_=>bv
   |_=>bv
 |_=>bv
def yBe {E:Ev} {s:St} {w:ab} (R:Rel k L E s w) {ρS:y8} {ρ:Env} (he:EnvR E ρS ρ) {o:ao} {K:V->Prop} (hst:zKv ρS s o.op=bu) (h:sr P o ρS s K):
 ∃v y,K v/\VR E v y/\∀(E':Ev) (s':St) (w':ab),E.le E'->Rel k L E' s' w'->(ac (ev ρ) o).run P w'= .ok (.value y) w':=by
 cases ho:o.op<;>rw[ho]at hst<;>first|(cases hst;done)|skip
 case load t x=>
  simp only[sr,ho]at h;simp only[zKv]at hst;have hv:=he.ev x;split at hst<;>first|(cases hst;done)|skip
  ·rename_i sz els i f hx;rw[hx]at hv h;simp only[VR]at hv;simp only at h;obtain⟨e0,e1,b,oo,l,T,fr,e2,e3,e4⟩:=hv;obtain⟨ds,hp,h⟩:=bC h;obtain⟨v,hm,hk⟩:=zL h;obtain⟨y,hy,hh⟩:=zJt (b:=b) (T:=T) (fr:=fr) e1 e4 hp hm;refine⟨v,y,hk,hy,λE' s' w' hle R'=> ?_⟩;simp only[ac,ho,e2];exact yF (hh w' (R'.frozen _ _ (hle.1 _ _ e3)))
  ·rename_i n sz i f hx;rw[hx]at hv h;simp only[VR]at hv;simp only at h;split at hst<;>first|(cases hst;done)|skip
   rename_i sz0 els0 hg;obtain⟨b,oo,m,c,l,e1,e2⟩:=hv;simp only[zCr,aT,hg]at h;obtain⟨⟨sz',els⟩,hd,h⟩:=zL h;simp only[sE,hg,cf,Prod.mk.injEq]at hd;obtain⟨rfl,rfl⟩:=hd;obtain⟨hb,h⟩:=zK h;have:=y5e hb;simp only at this;subst this;obtain⟨ds,hp,h⟩:=bC h;obtain⟨v,hm,hk⟩:=zL h;obtain⟨hd,x',q1,q2,q3⟩:=R.row hg (by simp);rw[e1]at q1;cases q1;simp only[rowHP,DR]at q2;obtain⟨_,a,c',q4,q5,q6,q7⟩:=q2;cases q4;rcases q7 with rfl|⟨b',o',l',T,fr,q8,q9,q10⟩
   ·simp[zE]at hp
   cases q8;obtain⟨y,hy,hh⟩:=zJt (b:=b) (T:=T) (fr:=fr) q6 q10 hp hm;refine⟨v,y,hk,hy,λE' s' w' hle R'=> ?_⟩;simp only[ac,ho,e2];exact yF (hh w' (R'.frozen _ _ (hle.1 _ _ q9)))
def yXb:V->V->Prop
 | .d (.v x),.d (.v y)=>lEq x y
 | .nm n o,.nm n' o'=>bif aw n n' && aw o o' then True else False
 | .own n,.own n'=>bif aw n n' then True else False
 | .mp n,.mp n'=>bif aw n n' then True else False
 | .el n sz i f,.el n' sz' i' f'=>bif aw n n' && aw sz sz' && aw f f' then i=i' else False
 |_,_=>False
def hZ {E E':Ev} (hle:E.le E') {v v':V} {y y':aa} (h:yXb v' v) (hy:VR E v y) (hy':VR E' v' y'):y'=y:=by
 unfold yXb at h;split at h<;>first|exact h.elim|skip
 ·simp only[VR,DR]at hy hy';rw[hy.1,hy'.1,yDs h]
 ·obtain⟨hb,_⟩:=zK h;simp only[y5o]at hb;have e1:=y5e hb.1;have e2:=y5e hb.2;subst e1 e2;simp only[VR]at hy hy';obtain⟨b,oo,l,h1,rfl⟩:=hy;obtain⟨b',oo',l',h1',rfl⟩:=hy';rw[hle.get h1]at h1';cases h1';rfl
 ·obtain⟨hb,_⟩:=zK h;have e1:=y5e hb;subst e1;simp only[VR]at hy hy';obtain⟨l,h1,_⟩:=hy;obtain⟨l',h1',_⟩:=hy';rw[hle.get h1]at h1';cases h1';rfl
 ·obtain⟨hb,_⟩:=zK h;have e1:=y5e hb;subst e1;simp only[VR]at hy hy';obtain⟨b,l,h1,_⟩:=hy;obtain⟨b',l',h1',_⟩:=hy';rw[hle.get h1]at h1';cases h1';rfl
 ·obtain⟨hb,rfl⟩:=zK h;simp only[y5o]at hb;have e1:=y5e hb.1.1;have e2:=y5e hb.1.2;have e3:=y5e hb.2;subst e1 e2 e3;simp only[VR]at hy hy';obtain⟨b,oo,m,c,l,h1,rfl⟩:=hy;obtain⟨b',oo',m',c',l',h1',rfl⟩:=hy';rw[hle.get h1]at h1';cases h1';rfl
mutual
def vEq:V->V->Prop
 | .agg l,v=>match v with
   | .agg l'=>yBc l l'
   |_=>False
 | .tup l,v=>match v with
   | .tup l'=>yBc l l'
   |_=>False
 |u,v=>yXb u v
def yBc:List V->List V->Prop
 |[],l=>match l with
  |[]=>True
  |_=>False
 |u::us,l=>match l with
  |v::vs=>vEq u v/\yBc us vs
  |[]=>False
end
mutual
theorem z6u {E E':Ev} (hle:E.le E'):∀{v' v:V} {y y':aa},vEq v' v->VR E v y->VR E' v' y'->y'=y
 | .agg l,v,y,y',h,hy,hy'=>by
   simp only[vEq]at h;split at h<;>first|exact h.elim|skip
   simp only[VR]at hy hy';obtain⟨ys,rfl,h1⟩:=hy;obtain⟨ys',rfl,h2⟩:=hy';rw[zMu hle h h1 h2]
 | .tup l,v,y,y',h,hy,hy'=>by
   simp only[vEq]at h;split at h<;>first|exact h.elim|skip
   simp only[VR]at hy hy';obtain⟨ys,rfl,h1⟩:=hy;obtain⟨ys',rfl,h2⟩:=hy';rw[zMu hle h h1 h2]
 | .top,v,y,y',h,hy,hy'=>hZ hle (by simpa only[vEq]using h) hy hy'
 | .d _,v,y,y',h,hy,hy'=>hZ hle (by simpa only[vEq]using h) hy hy'
 | .nm _ _,v,y,y',h,hy,hy'=>hZ hle (by simpa only[vEq]using h) hy hy'
 | .el _ _ _ _,v,y,y',h,hy,hy'=>hZ hle (by simpa only[vEq]using h) hy hy'
 | .re _ _ _ _,v,y,y',h,hy,hy'=>hZ hle (by simpa only[vEq]using h) hy hy'
 | .own _,v,y,y',h,hy,hy'=>hZ hle (by simpa only[vEq]using h) hy hy'
 | .mp _,v,y,y',h,hy,hy'=>hZ hle (by simpa only[vEq]using h) hy hy'
 | .sub _ _,v,y,y',h,hy,hy'=>hZ hle (by simpa only[vEq]using h) hy hy'
 | .fn _ _ _,v,y,y',h,hy,hy'=>hZ hle (by simpa only[vEq]using h) hy hy'
 | .ifc _ _,v,y,y',h,hy,hy'=>hZ hle (by simpa only[vEq]using h) hy hy'
theorem zMu {E E':Ev} (hle:E.le E'):∀{v' v:List V} {y y':List aa},yBc v' v->VRL E v y->VRL E' v' y'->y'=y
 |[],v,y,y',h,hy,hy'=>by
  simp only[yBc]at h;split at h<;>first|exact h.elim|skip
  simp only[VRL]at hy hy';rw[hy,hy']
 |u::us,v,y,y',h,hy,hy'=>by
  simp only[yBc]at h;split at h<;>first|exact h.elim|skip
  simp only[VRL]at hy hy';obtain⟨x,xs,rfl,h1,h2⟩:=hy;obtain⟨x',xs',rfl,h1',h2'⟩:=hy';rw[z6u hle h.1 h1 h1',zMu hle h.2 h2 h2']
end
@[reducible] def zNk:=Nat×(St->Prop)
def zKc (bf:List Nat) (i:Nat):List zNk->List zNk
 |[]=>[]
 |m::l=>bif Bef bf i m.1 then zKc bf i l else m::zKc bf i l
def yTr:List zNk->St->Prop->Prop
 |[],_,X=>X
 |m::ms,s,X=>m.2 s/\yTr ms s X
def yVc (P:ae) (ops:List ao) (ρ:y8) (i:Nat):Bool:=
 match ops[i]? with
 |some o=>match kS P ρ o.op with
  |2=>bv
  |_=>bu
 |none=>bu
def zTo:Op->Bool
 | .slice _ _ _ _ av=>bu
 |_=>bv
def z1g {o:Op} (h:zTo o=bu):∃t x lo hi,o= .slice t x lo hi av:=by
 unfold zTo at h;split at h
 ·exact⟨_,_,_,_,rfl⟩
 ·cases h
def eD (P:ae) (H:Hnd) (ops:List ao) (bf:List Nat):Nat->Array Bool->List zNk->y8->St->(y8->St->Prop)->Prop
 |0,listed,_,ρ,s,K=>
  match ct .any ops.toArray listed with
  |[]=>K ρ s
  |_=>False
 |fuel+1,listed,M,ρ,s,K=>
  match ct .any ops.toArray listed with
  |[]=>K ρ s
  |r::rs=>
   match(r::rs).find? (yVc P ops ρ)with
   |some i=>
    match ops[i]? with
    |none=>False
    |some o=>zMf ops o.guard ρ
      (λρ'=>match kS P ρ' o.op with
        |0=>sq P o ρ' λv=>eD P H ops bf fuel (listed.setIfInBounds i bu) M (lD ρ' o.dst v) s K
        |1=>sr P o ρ' s λv=>eD P H ops bf fuel (listed.setIfInBounds i bu) ((i,λs'=>bif zKv ρ' s o.op then True else sr P o ρ' s' λv'=>vEq v' v)::M) (lD ρ' o.dst v) s K
        |_=>False)
      (λρ'=>eD P H ops bf fuel (listed.setIfInBounds i bu) M (lD ρ' o.dst (.tup [])) s K)
   |none=>yLy (r::rs) λi=>
    match ops[i]? with
    |none=>False
    |some o=>zMf ops o.guard ρ
      (λρ'=>se P H o ρ' s λv s'=>bif zTo o.op then eD P H ops bf fuel (listed.setIfInBounds i bu) (zKc bf i M) (lD ρ' o.dst v) s' K else yTr (zKc bf i M) s' (eD P H ops bf fuel (listed.setIfInBounds i bu) (zKc bf i M) (lD ρ' o.dst v) s' K))
      (λρ'=>eD P H ops bf fuel (listed.setIfInBounds i bu) (zKc bf i M) (lD ρ' o.dst (.tup [])) s K)
inductive MonRel (k:Ko) (L:List HP) (E:Ev):List zNk->List Mon->Prop
 |nil:MonRel k L E [] []
 |cons {i:Nat} {f:St->Prop} {g:ab->Prop} {M:List zNk} {N:List Mon}:(∀E' s' w',E.le E'->Rel k L E' s' w'->f s'->g w')->MonRel k L E M N->MonRel k L E ((i,f)::M) ((i,g)::N)
def MonRel.mono {E E':Ev} (hle:E.le E') {M:List zNk} {N:List Mon} (h:MonRel k L E M N):MonRel k L E' M N:=by
 induction h with
 |nil=>exact .nil
 |cons h _ ih=>exact .cons (λE2 s w a=>h E2 s w (hle.trans a)) ih
def MonRel.keep {E:Ev} {bf:List Nat} {i:Nat} {M:List zNk} {N:List Mon} (h:MonRel k L E M N):MonRel k L E (zKc bf i M) (jB bf i N):=by
 induction h with
 |nil=>exact .nil
 | @cons j f g M N h _ ih=>
   simp only[zKc,jB,List.filter_cons]at ih ⊢;cases hb:Bef bf i j
   ·simpa using .cons h ih
   ·simpa using ih
def MonRel.all {E E':Ev} (hle:E.le E') {M:List zNk} {N:List Mon} (h:MonRel k L E M N) {s:St} {w:ab} (R:Rel k L E' s w) {X:Prop} (hm:yTr M s X):zOc N w/\X:=by
 induction h with
 |nil=>exact⟨λm hm=>(by cases hm),hm⟩
 |cons h _ ih=>
  obtain⟨h1,h2⟩:=hm;obtain⟨h3,h4⟩:=ih h2;refine⟨λm hm=> ?_,h4⟩;rcases y5w.1 hm with rfl|hm
  ·exact h _ _ _ hle R h1
  ·exact h3 m hm
def zYh {H:Hnd} (hH:HOk P H) {ops:List ao} {n:Nat} {A:Nat->Bool} {e0:Env} {Q:Act->ab->Prop} {E0:Ev} {K:y8->St->Prop} (hok:rS ops (uE ops [])=bu) (hf:zKd n A ops)
 (hQ:∀a w E ρS s,Good n A e0 a->E0.le E->Rel k L E s w->EnvR E ρS (yK a)->K ρS s->Q a w):
 ∀(fuel:Nat) (listed:Array Bool) (M:List zNk) (N:List Mon) (a:Act) (w:ab) (E:Ev) (ρS:y8) (s:St),sC ops (qE listed)->zOc N w->MonRel k L E M N->Good n A e0 a->E0.le E->Rel k L E s w->EnvR E ρS (yK a)->
  eD P H ops (uE ops []) fuel listed M ρS s K->zEa P ops.toArray (uE ops []) Q fuel N listed a w:=by
 intro fuel
 induction fuel with
 |zero=>
  intro listed M N a w E ρS s hc hM hMR hgd hle R he h;unfold eD at h;split at h
  ·rename_i hr;exact⟨hr,hQ a w E ρS s hgd hle R he h⟩
  ·exact h.elim
 |succ fuel ih=>
  intro listed M N a w E ρS s hc hM hMR hgd hle R he h;unfold eD at h;split at h
  ·rename_i hr;exact⟨λ_=>hQ a w E ρS s hgd hle R he h,λi hi=>by rw[hr]at hi;cases hi⟩
  ·rename_i r rs hr;have hne:ct .any ops.toArray listed≠[]:=by rw[hr];simp
   split at h
   ·rename_i i hfind;have hi:i∈ct .any ops.toArray listed:=by rw[hr];exact List.mem_of_find?_eq_some hfind
    split at h<;>first|exact h.elim|skip
    rename_i o ho;have hput:∀v,yK (a.put o.dst v)=Cv.put (yK a) o.dst v:=λv=>hgd.envOf_put (mK hf ho) v
    have hg:=pX he h;have nx:∀{M:List zNk} {N:List Mon} {v:V} {y:aa},zOc N w->MonRel k L E M N->VR E v y->eD P H ops (uE ops []) fuel (listed.setIfInBounds i bu) M (lD ρS o.dst v) s K->
     zEa P ops.toArray (uE ops []) Q fuel N (listed.setIfInBounds i bu) (a.put o.dst y) w:=λ{M N v y} hM hMR hv hh=>
     ih _ _ _ _ _ _ _ _ (v7 hc hi) hM hMR (hgd.put (mK hf ho) _) hle R (by rw[hput];exact he.put _ hv) hh
    by_cases hw:cr o (yielded ops.toArray a.tmps)=bu
    ·rw[y5d hw]at hg;split at hg<;>first|exact hg.elim|skip
     ·obtain⟨v,y,hk,hv,hfree⟩:=zWw he hg;rw[wG]at hfree;have hs:∀w,sY P ops.toArray o y a w:=λw=> .inl ⟨hw,hfree w⟩
      exact gD hok ho fuel N listed a w hc hi (hs w) hM (mH hs fuel _ _ _ (nx hM hMR hv hk))
     ·cases hst:zKv ρS s o.op
      ·obtain⟨v,y,hk,hv,hrun⟩:=zNc R he hg;rw[wG]at hrun;simp only[hst,cond_false]at hk;have hs:sY P ops.toArray o y a w:= .inl ⟨hw,hrun⟩;refine gD hok ho fuel N listed a w hc hi hs hM (nx ?_ (.cons ?_ hMR) hv hk)
       ·intro m hm;rcases y5w.1 hm with rfl|hm
        ·exact hs
        ·exact hM m hm
       ·intro E' s' w' hle' R' hst;obtain⟨v',y',hk',hv',hrun'⟩:=zNc R' (he.mono hle') hst;rw[wG]at hrun';have:=z6u hle' hk' hv hv';subst this;exact .inl ⟨hw,hrun'⟩
      ·obtain⟨v,y,hk,hv,hrun⟩:=yBe R he hst hg;rw[wG]at hrun;simp only[hst,cond_true]at hk;have hs:sY P ops.toArray o y a w:= .inl ⟨hw,hrun E s w (Ev.le.refl _) R⟩;refine gD hok ho fuel N listed a w hc hi hs hM (nx ?_ (.cons ?_ hMR) hv hk)
       ·intro m hm;rcases y5w.1 hm with rfl|hm
        ·exact hs
        ·exact hM m hm
       ·intro E' s' w' hle' R' _;exact .inl ⟨hw,hrun E' s' w' hle' R'⟩
    ·rw[y5b hw]at hg;have hs:∀w,sY P ops.toArray o af a w:=λw=> .inr ⟨by simpa using hw,rfl⟩
     exact gD hok ho fuel N listed a w hc hi (hs w) hM (mH hs fuel _ _ _ (nx hM hMR (zCm E) hg))
   ·refine⟨λh0=>absurd h0 hne,λi hi=> ?_⟩;have h1:=zMp h i (by rw[<- hr];exact hi);split at h1<;>first|exact h1.elim|skip
    rename_i o ho;have hput:∀v,yK (a.put o.dst v)=Cv.put (yK a) o.dst v:=λv=>hgd.envOf_put (mK hf ho) v
    have hg:=pX he h1;unfold zKj;simp only[y7d,ho];by_cases hw:cr o (yielded ops.toArray a.tmps)=bu
    ·rw[y5d hw]at hg ⊢;cases hsl:zTo o.op with
     |true=>
      obtain⟨t,x,lo,hi',ho'⟩:=z1g hsl;obtain⟨y,hfr,E',v,s',hle',R',hv,hh⟩:=z0q R he ho' hg;rw[wG]at hfr;rw[hsl]at hh;have hM':zOc (jB (uE ops []) i N) w:=λm hm=>hM m (by simp only[jB,y7c]at hm;exact hm.1)
      exact jT (hfr w) ⟨hM',ih _ _ _ _ _ _ _ _ (v7 hc hi) hM' (hMR.keep.mono hle') (hgd.put (mK hf ho) _) (hle.trans hle') R' (by rw[hput];exact(he.mono hle').put _ hv) hh⟩
     |false=>
     have hdoes:=z0j hH R he hg;rw[wG]at hdoes;refine hdoes.mono ?_;rintro y w' ⟨E',v,s',hle',R',hv,hh⟩;rw[hsl]at hh;obtain⟨hM',hh⟩:=(hMR.keep (bf:=uE ops []) (i:=i)).all hle' R' hh;exact⟨hM',ih _ _ _ _ _ _ _ _ (v7 hc hi) hM' (hMR.keep.mono hle') (hgd.put (mK hf ho) _) (hle.trans hle') R' (by rw[hput];exact(he.mono hle').put _ hv) hh⟩
    ·rw[y5b hw]at hg ⊢;have hM':zOc (jB (uE ops []) i N) w:=λm hm=>hM m (by simp only[jB,y7c]at hm;exact hm.1)
     exact⟨hM',ih _ _ _ _ _ _ _ _ (v7 hc hi) hM' hMR.keep (hgd.put (mK hf ho) _) hle R (by rw[hput];exact he.put _ (zCm E)) hg⟩
variable {P:ae} {k:Ko} {L:List HP}
structure SAnn where
 ι:Type
 slots:ι->List (Nat×V)
 rows:ι->List AObj
 keep:Nat->Bool:=λ_=>bu
 un:Nat:=0
 slots0:ι->List (Nat×V):=λ_=>[]
 rows0:ι->List AObj:=λ_=>[]
 lits:List (Nat×aa):=[]
 opn:List Nat:=[]
 fr:Nat->Bool:=λ_=>bv
def SAnn.ent (x:SAnn):SAnn:={x with slots:=x.slots0,rows:=x.rows0}
def lmC:Code->Nat
 | .region i _ _=>i
 | .seq a _=>lmC a
 | .block _ a=>lmC a
 | .loop a=>lmC a
 | .cond _ a _=>lmC a
 |_=>0
def y3c:Code->Nat
 | .region i _ _=>4*i
 | .cond c a b=>4*lmC (.cond c a b)+1
 | .seq a b=>4*lmC a+2
 | .block id _=>4*id+3
 |_=>0
def yQp (n:Nat):List (Nat×SAnn)->Option SAnn
 |[]=>av
 |(m,x)::l=>bif aw m n then au x else yQp n l
def z9a (t:Nat):List (Nat×V)->Option V
 |[]=>av
 |(u,v)::l=>bif aw u t then au v else z9a t l
def zLq (ρ:y8):List (Nat×V)->List V
 |[]=>[]
 |(t,_)::l=>ρ t::zLq ρ l
def zYm:List (Nat×V)->List V
 |[]=>[]
 |(_,v)::l=>v::zYm l
def z6w:AObj->Bool
 | .own _ _ _=>bu
 | .nilo=>bu
 | .fro _ _=>bu
 | .objs _ _ _ _ _ _=>bu
 |_=>bv
def wC (fr:Nat->Bool) (π:NM):Nat->List AObj->NM
 |_,[]=>[]
 |p,o::os=>bif z6w o then wC fr π (p+1) os else bif fr p then wC fr π (p+1) os else match z7 p π with
  |some n=>(p,n)::wC fr π (p+1) os
  |none=>wC fr π (p+1) os
def tG (fr:Nat->Bool) (N:Nat) (π:NM):Nat->List AObj->NM
 |_,[]=>[]
 |p,o::os=>bif z6w o then(p,N+p)::tG fr N π (p+1) os else bif fr p then(p,N+p)::tG fr N π (p+1) os else match z7 p π with
  |some n=>(p,n)::tG fr N π (p+1) os
  |none=>tG fr N π (p+1) os
def zTv (N:Nat) (st:NM):Nat->NM
 |0=>[]
 |p+1=>(p,(z7 p st).getD (N+p))::zTv N st p
def zNv {N:Nat} {st:NM} {p q:Nat}:∀{m:Nat},z7 p (zTv N st m)=au q->q=N+p\/z7 p st=au q
 |0,h=>by cases h
 |m+1,h=>by
  simp only[zTv,z7]at h;cases hb:aw m p
  ·rw[hb]at h;exact zNv h
  ·rw[hb]at h;have:=y5e hb;subst this;simp only[cond_true,cf]at h;cases hs:z7 m st with
   |none=>rw[hs]at h;exact .inl h.symm
   |some n=>rw[hs]at h;exact .inr (by rw[<- h];rfl)
def nZ {fr:Nat->Bool} {π:NM} {p q:Nat}:∀{os:List AObj} {p0:Nat},z7 p (wC fr π p0 os)=au q->z7 p π=au q
 |[],p0,h=>by cases h
 |o::os,p0,h=>by
  simp only[wC]at h;cases ho:z6w o<;>rw[ho]at h
  ·cases hf:fr p0<;>rw[hf]at h
   ·simp only[cond_false]at h;split at h
    ·rename_i n hn;simp only[z7]at h;cases hb:aw p0 p
     ·rw[hb]at h;exact nZ h
     ·rw[hb]at h;cases h;rw[<- y5e hb];exact hn
    ·exact nZ h
   ·exact nZ h
  ·exact nZ h
def zBe {fr:Nat->Bool} {N:Nat} {π:NM} {p q:Nat}:∀{os:List AObj} {p0:Nat},z7 p (tG fr N π p0 os)=au q->q=N+p\/z7 p (wC fr π p0 os)=au q
 |[],p0,h=>by cases h
 |o::os,p0,h=>by
  simp only[tG,wC]at h ⊢;cases ho:z6w o<;>rw[ho]at h
  ·cases hf:fr p0<;>rw[hf]at h
   ·simp only[cond_false]at h ⊢;split at h
    ·rename_i n hn;simp only[z7]at h ⊢;cases hb:aw p0 p
     ·rw[hb]at h;exact zBe h
     ·rw[hb]at h;exact .inr h
    ·exact zBe h
   ·simp only[cond_true,cond_false,z7]at h ⊢;cases hb:aw p0 p
    ·rw[hb]at h;exact zBe h
    ·rw[hb]at h;cases h;left;rw[y5e hb]
  ·simp only[cond_true,z7]at h ⊢;cases hb:aw p0 p
   ·rw[hb]at h;exact zBe h
   ·rw[hb]at h;cases h;left;rw[y5e hb]
def lT (ren:NM) (slots:List (Nat×V)) (as:List Nat) (ρ:y8):y8:=λt=>
 match z9a t slots with
 |some v=>tM ren v
 |none=>bif m8 t as then .top else ρ t
mutual
def zJc (N:Nat):V->Bool
 | .nm n _=>ax n N
 | .el n _ _ _=>ax n N
 | .own n=>ax n N
 | .na n _ _=>ax n N
 | .mp n=>ax n N
 | .sub n _=>ax n N
 | .agg l=>zZe N l
 | .tup l=>zZe N l
 | .fn _ a b=>zZe N a && zZe N b
 | .ifc _ x=>zJc N x
 |_=>bu
def zZe (N:Nat):List V->Bool
 |[]=>bu
 |v::l=>zJc N v && zZe N l
end
def yUd (N:Nat):AObj->Bool
 | .cells vs _=>zZe N vs
 | .hol _ _ _ _ _ _ _ (au m)=>ax m N
 |_=>bu
def zFo (N:Nat):List (Nat×AObj)->Bool
 |[]=>bu
 |(n,o)::l=>ax n N && yUd N o && zFo N l
def qY (keep:Nat->Bool):List (Nat×AObj)->List (Nat×AObj)
 |[]=>[]
 |(n,o)::l=>bif keep n then(n,o)::qY keep l else qY keep l
def zMw:List (Nat×AObj)->St->Prop
 |[],_=>True
 |[(n,o)],s=>match s.getg n with
  |some o'=>o'=o
  |none=>False
 |(n,o)::l,s=>match s.getg n with
  |some o'=>o'=o/\zMw l (s.del n)
  |none=>False
def zOo (N:Nat) (ren:NM) (rows:List AObj) (kept:List (Nat×AObj)):St:=⟨qX ren 0 rows++kept,N+rows.length⟩
def zSa (next:y8->St->Prop) (Q:Exit->y8->St->Prop):Exit->y8->St->Prop
 | .normal,ρ,s=>next ρ s
 |e,ρ,s=>Q e ρ s
def yKo (id:Nat) (Q:Exit->y8->St->Prop):Exit->y8->St->Prop
 | .exit id',ρ,s=>bif aw id' id then Q .normal ρ s else Q (.exit id') ρ s
 |e,ρ,s=>Q e ρ s
def zRh (x:SAnn) (i:x.ι) (π0:NM) (ρ:y8) (s:St) (K:NM->St->Prop):Prop:=
 mtL (zYm (x.slots i)) (zLq ρ (x.slots i)) π0 s λπ s=>mtR 0 (x.rows i) π s λπ s=>bif rL (x.rows i).length π then K π s else False
def yIm (f:(Exit->y8->St->Prop)->y8->St->Prop) (Q:Exit->y8->St->Prop):Nat->y8->St->Prop
 |0,_,_=>False
 |n+1,ρ,s=>f (zSa (yIm f Q n) Q) ρ s
def zNj (n:Nat) (s:St):St:=
 match s.get n with
 |some (.adt _ m unf x)=>bif ay 1 m then⟨(n,(zNl (s.del n) n m (unf x)).1)::(zNl (s.del n) n m (unf x)).2.rows,(zNl (s.del n) n m (unf x)).2.nx⟩else s
 |_=>s
def zLo:List Nat->St->St
 |[],s=>s
 |n::l,s=>zLo l (zNj n s)
def zSp {w:ab} {E:Ev} {s:St} (R:Rel k L E s w) (n:Nat):∃E',E.le E'/\Rel k L E' (zNj n s) w:=by
 unfold zNj;split
 ·rename_i T m unf x hg;cases hb:ay 1 m
  ·exact⟨E,Ev.le.refl _,R⟩
  ·obtain⟨E',h1,h2⟩:=(R.take hg).unfold (y7i hb);refine⟨E',h1,⟨h2.nx,?_⟩⟩;have:=h2.out;simpa using this
 ·exact⟨E,Ev.le.refl _,R⟩
def zBr {w:ab}:∀(l:List Nat) {E:Ev} {s:St} (R:Rel k L E s w),∃E',E.le E'/\Rel k L E' (zLo l s) w
 |[],E,s,R=>⟨E,Ev.le.refl _,R⟩
 |n::l,E,s,R=>by
  obtain⟨E1,h1,h2⟩:=zSp R n;obtain⟨E2,h3,h4⟩:=zBr l h2;exact⟨E2,h1.trans h3,h4⟩
def z3y:List Nat->y8->St->St
 |[],_,s=>s
 |t::ts,ρ,s=>z3y ts ρ (match ρ t with
  | .nm n 0=>zNj n s
  |_=>s)
def zSs {w:ab} {ρ:y8}:∀(l:List Nat) {E:Ev} {s:St} (R:Rel k L E s w),∃E',E.le E'/\Rel k L E' (z3y l ρ s) w
 |[],E,s,R=>⟨E,Ev.le.refl _,R⟩
 |t::ts,E,s,R=>by
  obtain⟨E1,h1,h2⟩:∃E',E.le E'/\Rel k L E' (match ρ t with
   | .nm n 0=>zNj n s
   |_=>s) w:=by
   split
   ·exact zSp R _
   ·exact⟨E,Ev.le.refl _,R⟩
  obtain⟨E2,h3,h4⟩:=zSs ts h2;exact⟨E2,h1.trans h3,h4⟩
def yZi (t:Nat) (x:aa) (ρ:y8) (K:y8->Prop):Prop:=match ρ t with
 | .d (.v y)=>y=x/\K (λu=>bif aw u t then .d (.v x)else ρ u)
 |_=>False
def z2t:List (Nat×aa)->y8->(y8->Prop)->Prop
 |[],_,_=>False
 |(t,x)::l,ρ,K=>yZi t x ρ K\/z2t l ρ K
def scode (P:ae) (H:Hnd) (J:List (Nat×SAnn)):List SAnn->Code->(Exit->y8->St->Prop)->y8->St->Prop
 |_,.skip,Q,ρ,s=>Q .normal ρ s
 |an,.seq a b,Q,ρ,s=>match yQp (y3c a) J with
  |none=>scode P H J (an.take (nL a)) a (zSa (λρ s=>scode P H J (an.drop (nL a)) b Q ρ s) Q) ρ s
  |some x=>match x.opn with
   |t0::ts=>scode P H J (an.take (nL a)) a (zSa (λρ s=>scode P H J (an.drop (nL a)) b Q ρ (z3y (t0::ts) ρ s)) Q) ρ s
   |[]=>match x.lits with
   |l0::ls=>scode P H J (an.take (nL a)) a (zSa (λρ s=>z2t (l0::ls) ρ λρ=>scode P H J (an.drop (nL a)) b Q ρ s) Q) ρ s
   |[]=>∃i0,zRh x.ent i0 [] ρ s λπ s1=>∃(I:x.ι->Prop),(bif zFo s1.nx (qY x.keep s1.rows)then
    scode P H J (an.take (nL a)) a (zSa (λρ' s'=>∃i',zRh x i' (wC x.fr π 0 (x.rows0 i0)) ρ' s' λ_ s2=>I i'/\zMw (qY x.keep s1.rows) s2) Q)
     (lT (zTv s1.nx (wC x.fr π 0 (x.rows0 i0)) (x.rows0 i0).length) (x.slots0 i0) [] ρ) (zOo s1.nx (zTv s1.nx (wC x.fr π 0 (x.rows0 i0)) (x.rows0 i0).length) (x.rows0 i0) (qY x.keep s1.rows))/\
    ∀i,I i->scode P H J (an.drop (nL a)) b Q (lT (zTv s1.nx (wC x.fr π 0 (x.rows0 i0)) (x.rows i).length) (x.slots i) (asg a) ρ) (zOo s1.nx (zTv s1.nx (wC x.fr π 0 (x.rows0 i0)) (x.rows i).length) (x.rows i) (qY x.keep s1.rows))else False)
 |an,.cond c a b,Q,ρ,s=>
  match sev ρ c with
  | .d (.v (.bool t))=>cnd t (scode P H J (an.take (nL a)) a Q ρ s) (scode P H J (an.drop (nL a)) b Q ρ s)
  |_=>False
 |an,.block id a,Q,ρ,s=>scode P H J an a (yKo id Q) ρ s
 |an,.loop a,Q,ρ,s=>
  match an with
  |[]=>False
  |x::rest=>bif ax 0 x.un then yIm (λQ ρ s=>scode P H J rest a Q ρ s) Q x.un ρ s else ∃i0,zRh x i0 [] ρ s λπ s1=>∃(I:x.ι->Prop) (μ:x.ι->Nat),I i0/\(bif zFo s1.nx (qY x.keep s1.rows)then
    ∀i,I i->scode P H J rest a (zSa (λρ' s'=>∃i',zRh x i' (wC x.fr π 0 (x.rows i0)) ρ' s' λ_ s2=>I i'/\μ i'<μ i/\zMw (qY x.keep s1.rows) s2) Q)
     (lT (tG x.fr s1.nx π 0 (x.rows i0)) (x.slots i) (asg a) ρ) (zOo s1.nx (tG x.fr s1.nx π 0 (x.rows i0)) (x.rows i) (qY x.keep s1.rows))else False)
 |_,.exit id,Q,ρ,s=>Q (.exit id) ρ s
 |_,.ret,Q,ρ,s=>Q .ret ρ s
 |_,.region _ ops d,Q,ρ,s=>bif d then eD P H ops.toList (uE ops.toList []) ops.toList.length (cn ops.toList.length bv) [] ρ s (Q .normal)
    else zXw P H ops.toList ops.toList ρ s (Q .normal)
 |_,_,_,_,_=>False
def z6x (k:Ko) (L:List HP) (n:Nat) (A:Nat->Bool) (e0:Env) (E0:Ev) (Q:Exit->y8->St->Prop):Exit->Act->ab->Prop:=λe a w=>
 Good n A e0 a/\∃E ρS s,E0.le E/\Rel k L E s w/\EnvR E ρS (yK a)/\Q e ρS s
mutual
theorem VR.low {F:PH} {tab tab':List Hd} {N:Nat} (h:∀n,n<N->∀hd,tab[n]? =au hd->tab'[n]? =au hd):∀{v:V} {y:aa},zJc N v=bu->VR ⟨F,tab⟩ v y->VR ⟨F,tab'⟩ v y
 | .top,y,hl,e=>by simp only[VR]
 | .d d,y,hl,e=>by simpa only[VR]using e
 | .nm n o,y,hl,e=>by
   simp only[zJc,y8d]at hl;simp only[VR]at e ⊢;obtain⟨b,oo,l,h1,h2⟩:=e;exact⟨b,oo,l,h n hl _ h1,h2⟩
 | .el n sz i f,y,hl,e=>by
   simp only[zJc,y8d]at hl;simp only[VR]at e ⊢;obtain⟨b,oo,m,c,l,h1,h2⟩:=e;exact⟨b,oo,m,c,l,h n hl _ h1,h2⟩
 | .re sz els i f,y,hl,e=>by simpa only[VR]using e
 | .na n o i,y,hl,e=>by
   simp only[zJc,y8d]at hl;simp only[VR]at e ⊢;obtain⟨b,oo,l,h1,h2⟩:=e;exact⟨b,oo,l,h n hl _ h1,h2⟩
 | .own n,y,hl,e=>by
   simp only[zJc,y8d]at hl;simp only[VR]at e ⊢;obtain⟨l,h1,h2⟩:=e;exact⟨l,h n hl _ h1,h2⟩
 | .mp n,y,hl,e=>by
   simp only[zJc,y8d]at hl;simp only[VR]at e ⊢;obtain⟨b,l,h1,h2⟩:=e;exact⟨b,l,h n hl _ h1,h2⟩
 | .sub n i,y,hl,e=>by
   simp only[zJc,y8d]at hl;simp only[VR]at e ⊢;obtain⟨hd,l,b,oo,h1,h2⟩:=e;exact⟨hd,l,b,oo,h n hl _ h1,h2⟩
 | .agg l,y,hl,e=>by
   simp only[zJc]at hl;simp only[VR]at e ⊢;obtain⟨ys,h1,h2⟩:=e;exact⟨ys,h1,VRL.low h hl h2⟩
 | .tup l,y,hl,e=>by
   simp only[zJc]at hl;simp only[VR]at e ⊢;obtain⟨ys,h1,h2⟩:=e;exact⟨ys,h1,VRL.low h hl h2⟩
 | .fn f a b,y,hl,e=>by
   simp only[zJc,y5o]at hl;simp only[VR]at e ⊢;obtain⟨as,bs,h1,h2,h3⟩:=e;exact⟨as,bs,h1,VRL.low h hl.1 h2,VRL.low h hl.2 h3⟩
 | .ifc t x,y,hl,e=>by
   simp only[zJc]at hl;simp only[VR]at e ⊢;obtain⟨z,h1,h2⟩:=e;exact⟨z,h1,VR.low h hl h2⟩
theorem VRL.low {F:PH} {tab tab':List Hd} {N:Nat} (h:∀n,n<N->∀hd,tab[n]? =au hd->tab'[n]? =au hd):∀{vs:List V} {l:List aa},zZe N vs=bu->VRL ⟨F,tab⟩ vs l->VRL ⟨F,tab'⟩ vs l
 |[],l,hl,e=>by simpa only[VRL]using e
 |v::vs,l,hl,e=>by
  simp only[zZe,y5o]at hl;simp only[VRL]at e ⊢;obtain⟨x,xs,h1,h2,h3⟩:=e;exact⟨x,xs,h1,VR.low h hl.1 h2,VRL.low h hl.2 h3⟩
end
def rowHP.low {F:PH} {tab tab':List Hd} {N:Nat} (h:∀n,n<N->∀hd,tab[n]? =au hd->tab'[n]? =au hd) {o:AObj} (hl:yUd N o=bu) {hd:Hd} {x:PH} (e:rowHP F o tab hd x):rowHP F o tab' hd x:=by
 cases o<;>first|exact e.tab rfl|skip
 ·simp only[rowHP]at e ⊢;obtain⟨b,l,h1,h2,h3⟩:=e;exact⟨b,l,h1,h2.low h hl,h3⟩
 ·rename_i q t sz els i f b m;simp only[rowHP]at e ⊢;obtain⟨a,k,ys,xs,h1,h2,h3,h4,h5⟩:=e;refine⟨a,k,ys,xs,h1,h2,h3,?_,h5⟩;cases m with
  |none=>exact h4
  |some m=>
   simp only[yUd,y8d]at hl;obtain⟨y,l,e1,e2⟩:=h4;exact⟨y,l,h m hl _ e1,e2⟩
def zQl {E:Ev} {ρS:y8} {ρ:Env} (he:EnvR E ρS ρ):∀l:List (Nat×V),VRL E (zLq ρS l) (l.map λp=>ρ p.1)
 |[]=>by simp[zLq,VRL]
 |(t,v)::l=>by simp only[zLq,y5p,VRL];exact⟨_,_,rfl,he t,zQl he l⟩
def zZc {F:PH} {tl:List Hd} {ρ:Env}:∀{l:List (Nat×V)},VRL ⟨F,tl⟩ (zYm l) (l.map λp=>ρ p.1)->∀{t:Nat} {v:V},z9a t l=au v->VR ⟨F,tl⟩ v (ρ t)
 |[],_,t,v,h=>by cases h
 |(u,x)::l,hv,t,v,h=>by
  simp only[zYm,y5p,VRL]at hv;obtain⟨y,ys,e,h1,h2⟩:=hv;cases e;simp only[z9a]at h;cases hb:aw u t
  ·rw[hb]at h;exact zZc h2 h
  ·rw[hb]at h;cases h;rw[<- y5e hb];exact h1
def zUd {w:ab} {E3 E4:Ev} (hF:E3.F=E4.F) {N:Nat} (hlow:∀n,n<N->∀hd,E3.tab[n]? =au hd->E4.tab[n]? =au hd):∀{kept:List (Nat×AObj)} {s:St} {M:List HP},zMw kept s->zFo N kept=bu->
 Hp k w (s.rows.map (rHP E3)++M)->Hp k w (kept.map (rHP E4)++M)
 |[],s,M,_,_,H=>by
  have:∀(l:List (Nat×AObj)),Hp k w (l.map (rHP E3)++M)->Hp k w M:=by
   intro l
   induction l with
   |nil=>intro H;exact H
   |cons a l ih=>intro H;exact ih H.drop
  exact this _ H
 |(n,o)::kept,s,M,hk,hl,H=>by
  simp only[zFo,y5o,y8d]at hl;have hget:s.get n=au o/\zMw kept (s.del n):=by
   cases kept with
   |nil=>
    simp only[zMw]at hk;split at hk<;>first|exact hk.elim|skip
    rename_i o' ho;subst hk;exact⟨(lX ho).1,trivial⟩
   |cons a l=>
    simp only[zMw]at hk;split at hk<;>first|exact hk.elim|skip
    rename_i o' ho;obtain⟨rfl,hk⟩:=hk;exact⟨(lX ho).1,hk⟩
  have H1:Hp k w (rHP E3 (n,o)::((s.del n).rows.map (rHP E3)++M)):=by
   refine H.perm ?_;have:=((vD hget.1).1.map (rHP E3)).append_right M;simpa[St.del]using this
  have H2:Hp k w ((s.del n).rows.map (rHP E3)++(rHP E3 (n,o)::M)):=H1.perm y5r.symm;have H3:=zUd hF hlow hget.2 hl.2 H2;refine(H3.perm y5r).imp λx hx=> ?_
  rcases hx with⟨e,e2⟩|⟨hd,h1,h2⟩
  ·exact .inl ⟨e,e2⟩
  ·exact .inr ⟨hd,hlow n hl.1.1 _ h1,hF▸h2.low hlow hl.1.2⟩
def zEo {w:ab} {x:SAnn} {i:x.ι} {π0:NM} {ρS:y8} {ρ:Env} {s:St} {K:NM->St->Prop} {E:Ev} (h:zRh x i π0 ρS s K) (R:Rel k L E s w) (he:EnvR E ρS ρ) (hw0:WfM π0 E.tab):
 ∃E3 s3 π3,E.le E3/\K π3 s3/\Ext π0 π3/\WfM π3 E3.tab/\E3.tab.length=s3.nx/\∀(E1:Ev) (kept:List (Nat×AObj)) (N:Nat) (ρ0:y8) (as:List Nat) (ren:NM),(∀p q,z7 p ren=au q->q=N+p\/(z7 p π3=au q/\q<N))->E1.tab.length=N->FLe E1.F E3.F->E1.tab<+:E3.tab->(∀E4:Ev,E3.F=E4.F->E1.le E4->(∀n,n<N->∀hd,E3.tab[n]? =au hd->E4.tab[n]? =au hd)->∀M,Hp k w (s3.rows.map (rHP E3)++M)->Hp k w (kept.map (rHP E4)++M))->(∀t,m8 t as=bv->VR E1 (ρ0 t) (ρ t))->
  ∃E4,E1.le E4/\Rel k L E4 (zOo N ren (x.rows i) kept) w/\EnvR E4 (lT ren (x.slots i) as ρ0) ρ:=by
 unfold zRh at h;obtain⟨E2,π2,s2,q1,q2,q3⟩:=tQ h R hw0 (zQl he _);obtain⟨E3,π3,s3,r1,r2⟩:=zUy q3 q1.rel q1.wf;obtain⟨hlt,hk⟩:=zK r2;have hlt:=aA hlt;refine⟨E3,s3,π3,q1.le.trans r1.le,hk,q1.ext.trans r1.ext,r1.wf,r1.rel.nx,?_⟩;intro E1 kept N ρ0 as ren hre hN hF hpre hkept hfix
 let m:=(x.rows i).length
 let tl:List Hd:=(az m).map λp=>(E3.tab[(z7 p π3).getD 0]?).getD (af,[])
 have hloc:Loc π3 E3.tab tl:=by
  intro p n hp;obtain⟨hd,h'⟩:=r1.wf p n hp;refine⟨hd,h',?_⟩;show((az m).map _)[p]? =_;rw[y6q,y9c (hlt p n hp)];simp only[y7e,hp,y7n,h']
 have htl:tl.length=m:=by simp[tl]
 let E4:Ev:=⟨E3.F,E1.tab++tl⟩
 have hle4:E1.le E4:=⟨hF,y9e _ _⟩
 have hlow3:∀n,n<N->∀hd,E3.tab[n]? =au hd->E4.tab[n]? =au hd:=by
  intro n hn hd e;have h1:E1.tab[n]? =au hd:=by
   rw[y6e (by omega)];have:E3.tab[n]? =au (E1.tab[n]'(by omega)):=zLe hpre (y6e (by omega));rw[this]at e;exact e
  exact hle4.get h1
 have hren:∀p n hd,z7 p ren=au n->tl[p]? =au hd->E4.tab[n]? =au hd:=by
  intro p n hd hp ht;rcases hre p n hp with rfl|⟨h1,h2⟩
  ·show(E1.tab++tl)[N+p]? =au hd;rw[<- hN,y7f (by omega),show E1.tab.length+p-E1.tab.length=p by omega];exact ht
  ·obtain⟨hd',e1,e2⟩:=hloc p n h1;rw[ht]at e2;cases e2;exact hlow3 n h2 _ e1
 refine⟨E4,hle4,⟨by show(E1.tab++tl).length=N+m;rw[y5a,htl,hN],?_⟩,?_⟩
 ·have H:=r1.rel.frontL;have H1:=wE (g:=rHP ⟨E3.F,tl⟩) (λr y hy=>by
   rcases hy with⟨e1,e2⟩|⟨n,h1,h2⟩
   ·exact .inl ⟨e1,e2⟩
   ·right;obtain⟨hd,h3,h4⟩:=h2 E3 π3 (Ev.le.refl _) (Ext.refl _) tl hloc;obtain⟨hd',h5,h6⟩:=hloc _ _ h1;rw[h3]at h5;cases h5;exact⟨hd,h6,h4⟩) H
  have H2:=mP (E:=⟨E3.F,tl⟩) (E2:=E4) rfl hren H1;have H3:Hp k w (s3.rows.map (rHP E3)++((qX ren 0 (x.rows i)).map (rHP E4)++fz E3.F::L)):=by
   refine H2.perm ?_;rw[<- y5i,<- y5i];exact y7h.append_right _
  have H4:=hkept E4 rfl hle4 hlow3 _ H3;refine H4.perm ?_;show(kept.map (rHP E4)++((qX ren 0 (x.rows i)).map (rHP E4)++fz E3.F::L)).Perm ((qX ren 0 (x.rows i)++kept).map (rHP E4)++fz E4.F::L);rw[<- y5i,y5l];exact y7h.append_right _
 ·intro t;have hsl:VRL ⟨E3.F,tl⟩ (zYm (x.slots i)) ((x.slots i).map λp=>ρ p.1):=q2 E3 π3 r1.le r1.ext tl hloc;unfold lT;split
  ·rename_i v hv;exact(zZc hsl hv).ren hren
  ·cases hb:m8 t as
   ·exact(hfix t hb).mono hle4
   ·simp only[cond_true,VR]
def l9 {w:ab} {E:Ev} {keep:Nat->Bool}:∀{l:List (Nat×AObj)} {M:List HP},Hp k w (l.map (rHP E)++M)->Hp k w ((qY keep l).map (rHP E)++M)
 |[],M,H=>H
 |(n,o)::l,M,H=>by
  simp only[qY];cases keep n
  ·exact l9 H.drop
  ·have H1:Hp k w (l.map (rHP E)++(rHP E (n,o)::M)):=H.perm y5r.symm;exact(l9 H1).perm y5r
def zSz {E:Ev} {env:Env} {K:y8->Prop}:∀{l:List (Nat×aa)} {ρ:y8},z2t l ρ K->EnvR E ρ env->∃ρ',EnvR E ρ' env/\K ρ'
 |[],ρ,h,_=>h.elim
 |(t,x)::l,ρ,h,he=>by
  rcases h with h|h
  ·unfold yZi at h;split at h<;>first|exact h.elim|skip
   rename_i y hy;obtain⟨rfl,hk⟩:=h;refine⟨_,λu=> ?_,hk⟩;have:=he u;cases hb:aw u t
   ·exact this
   ·rw[y5e hb]at this ⊢;rw[hy]at this;exact this
  ·exact zSz h he
def zYz {H:Hnd} (hH:HOk P H) (hm:P.follows .mixedOrders=bu) {J:List (Nat×SAnn)} {n:Nat}:∀(c:Code) (an:List SAnn) (Q:Exit->y8->St->Prop) (A:Nat->Bool) (e0:Env) (E0 E:Ev) (a:Act) (w:ab) (ρS:y8) (s:St),
 okC n c=bu->(∀t∈asg c,A t=bu)->Good n A e0 a->E0.le E->Rel k L E s w->EnvR E ρS (yK a)->scode P H J an c Q ρS s->c.wp P (z6x k L n A e0 E0 Q) a w:=by
 intro c
 induction c with
 |skip=>intro an Q A e0 E0 E a w ρS s _ _ hg hle R he h;exact wp_skip ⟨hg,E,ρS,s,hle,R,he,h⟩
 |region id ops d=>
  intro an Q A e0 E0 E a w ρS s hc hA hg hle R he h;simp only[okC,y5o]at hc;have hdst:=zXp (A:=A) hc.1 hA;cases d
  ·refine wp_region_list ?_;exact zKa (Q:=z6x k L n A e0 E0 Q) (E0:=E0) (K:=Q .normal) hH (λa w E ρS s hg hle R he h=>⟨hg,E,ρS,s,hle,R,he,h⟩) ops.toList a w E ρS s hdst hg hle R he h
  ·refine wp_region_any hm ?_;have hok:rS ops.toList (uE ops.toList [])=bu:=hc.2;have he':EnvR E ρS (yK a):=he;have R':Rel k L E s w.drew:=⟨R.nx,R.hp.drew⟩
   refine u6 (Q:=λa w=>z6x k L n A e0 E0 Q .normal a w) (λ_ _ h=>h) ops.size _ _ _ (M:=[]) (bf:=uE ops.toList []) ?_;have hclosed:sC ops.toList (qE (cn ops.toList.length bv)):=by
    intro i o ho hi;exfalso;unfold qE at hi;simp[y6y]at hi;rw[xAq]at hi;split at hi<;>simp at hi
   have:=zYh (P:=P) (K:=Q .normal) (E0:=E0) (Q:=λa w=>z6x k L n A e0 E0 Q .normal a w) hH hok hdst (λa w E ρS s hg hle R he h=>⟨hg,E,ρS,s,hle,R,he,h⟩) ops.toList.length _ [] [] a _ E ρS s hclosed (λm hm=>by cases hm) .nil hg hle R' he' h;simpa using this
 |seq x y ihx ihy=>
  intro an Q A e0 E0 E a w ρS s hc hA hg hle R he h;simp only[okC,y5o,asg,y6f]at hc hA;simp only[scode]at h;split at h
  ·refine wp_seq (ak (ihx _ _ A e0 E0 E a w ρS s hc.1 (λt ht=>hA t (.inl ht)) hg hle R he h) ?_);rintro e a' w' ⟨hg',E',ρ',s',hle',R',he',h'⟩;cases e<;>first|exact ihy _ _ A e0 E0 E' a' w' ρ' s' hc.2 (λt ht=>hA t (.inr ht)) hg' hle' R' he' h'|exact⟨hg',E',ρ',s',hle',R',he',h'⟩
  rename_i jn hjn;split at h
  ·rename_i t0 ts hts;refine wp_seq (ak (ihx _ _ A e0 E0 E a w ρS s hc.1 (λt ht=>hA t (.inl ht)) hg hle R he h) ?_);rintro e a' w' ⟨hg',E',ρ',s',hle',R',he',h'⟩;cases e<;>first|exact⟨hg',E',ρ',s',hle',R',he',h'⟩|skip
   obtain⟨E2,hle2,R2⟩:=zSs (ρ:=ρ') (t0::ts) R';exact ihy _ _ A e0 E0 E2 a' w' ρ' _ hc.2 (λt ht=>hA t (.inr ht)) hg' (hle'.trans hle2) R2 (he'.mono hle2) h'
  split at h
  ·rename_i l0 ls hls;refine wp_seq (ak (ihx _ _ A e0 E0 E a w ρS s hc.1 (λt ht=>hA t (.inl ht)) hg hle R he h) ?_);rintro e a' w' ⟨hg',E',ρ',s',hle',R',he',h'⟩;cases e<;>first|exact⟨hg',E',ρ',s',hle',R',he',h'⟩|skip
   obtain⟨ρ2,he2,h2⟩:=zSz h' he';exact ihy _ _ A e0 E0 E' a' w' ρ2 s' hc.2 (λt ht=>hA t (.inr ht)) hg' hle' R' he2 h2
  ·obtain⟨i0,h⟩:=h;obtain⟨E1,s1,π1,hle1,⟨I,hround⟩,_,hwf1,hn1,hmk⟩:=zEo (x:=jn.ent) h R he (λp n e=>by cases e);obtain⟨hlow,hbody,hrest⟩:=zK hround;have hnlt:∀p q,z7 p (wC jn.fr π1 0 (jn.rows0 i0))=au q->z7 p π1=au q/\q<s1.nx:=λp q e=>by
    have h1:=nZ e;obtain⟨hd,h2⟩:=hwf1 p q h1;exact⟨h1,by rw[<- hn1];exact(y5f.1 h2).1⟩
   have hfix0:∀t,m8 t []=bv->VR E1 (ρS t) (yK a t):=λt _=>(he t).mono hle1
   obtain⟨E2,hle2,R2,he2⟩:=hmk E1 (qY jn.keep s1.rows) s1.nx ρS [] (zTv s1.nx (wC jn.fr π1 0 (jn.rows0 i0)) (jn.rows0 i0).length) (λp q e=>(zNv e).imp_right (hnlt p q)) hn1 (FLe.refl _) (y9r _) (λE4 _ hle4 _ M H=>wE (λr y=>rHP.mono hle4 r) (l9 H)) hfix0;have hgB:Good n (λt=>A t && m8 t (asg x)) (yK a) a:=⟨hg.size,hg.defers,λ_ _=>rfl⟩
   refine wp_seq (ak (ihx _ _ (λt=>A t && m8 t (asg x)) (yK a) E2 E2 a w _ _ hc.1 (λt ht=>by rw[hA t (.inl ht),memN_iff.2 ht];rfl) hgB (Ev.le.refl _) R2 he2 hbody) ?_);rintro e a2 w2 ⟨hg2,E3,ρ3,s3,hle3,R3,he3,h2⟩;have hg3:Good n A e0 a2:=⟨hg2.size,hg2.defers,λt ht=>by rw[hg2.same t (by simp[ht]),hg.same t ht]⟩
   have hle03:E0.le E3:=hle.trans (hle1.trans (hle2.trans hle3));cases e<;>first|exact⟨hg3,E3,ρ3,s3,hle03,R3,he3,h2⟩|skip
   obtain⟨i',h2⟩:=h2;have hw3:WfM (wC jn.fr π1 0 (jn.rows0 i0)) E3.tab:=λp q e=>by
    obtain⟨hd,h2⟩:=hwf1 p q (hnlt p q e).1;exact⟨hd,(hle2.trans hle3).get h2⟩
   obtain⟨E4,s4,π4,hle4,⟨hinv',hkept⟩,hext4,_,hn4,hmk'⟩:=zEo h2 R3 he3 hw3;have hfix2:∀t,m8 t (asg x)=bv->VR E1 (ρS t) (yK a2 t):=λt ht=>by rw[hg2.same t (by simp[ht])];exact(he t).mono hle1
   obtain⟨E5,hle5,R5,he5⟩:=hmk' E1 (qY jn.keep s1.rows) s1.nx ρS (asg x) (zTv s1.nx (wC jn.fr π1 0 (jn.rows0 i0)) (jn.rows i').length) (λp q e=>(zNv e).imp_right λh=>⟨hext4 p q h,(hnlt p q h).2⟩) hn1 (hle2.trans (hle3.trans hle4)).1 (hle2.trans (hle3.trans hle4)).2
    (λE6 hF _ hl M H=>zUd (E3:=E4) (E4:=E6) hF hl hkept hlow H) hfix2
   exact ihy _ _ A e0 E0 E5 a2 w2 _ _ hc.2 (λt ht=>hA t (.inr ht)) hg3 (hle.trans (hle1.trans hle5)) R5 he5 (hrest i' hinv')
 |cond c x y ihx ihy=>
  intro an Q A e0 E0 E a w ρS s hc hA hg hle R he h;simp only[okC,y5o,asg,y6f]at hc hA;simp only[scode]at h;split at h<;>first|exact h.elim|skip
  rename_i t ht;have hv:=he.ev c;rw[ht]at hv;simp only[VR,DR]at hv;have hv1:=hv.1;rw[wG]at hv1;refine wp_cond_split hv1 (λe=> ?_) (λe=> ?_)
  ·subst e;exact ihx _ _ A e0 E0 E a w ρS s hc.1 (λt ht=>hA t (.inl ht)) hg hle R he h
  ·subst e;exact ihy _ _ A e0 E0 E a w ρS s hc.2 (λt ht=>hA t (.inr ht)) hg hle R he h
 |block id x ih=>
  intro an Q A e0 E0 E a w ρS s hc hA hg hle R he h;refine wp_block (ak (ih an _ A e0 E0 E a w ρS s hc hA hg hle R he h) ?_);rintro e a' w' ⟨hg',E',ρ',s',hle',R',he',h'⟩;cases e<;>first|exact⟨hg',E',ρ',s',hle',R',he',h'⟩|skip
  rename_i id';simp only[Exit.inBlock];simp only[yKo]at h';split
  ·rename_i heq;subst heq;rw[Nat.beq_refl]at h';exact⟨hg',E',ρ',s',hle',R',he',h'⟩
  ·rename_i hne;have hb:aw id' id=bv:=by
    cases hb:aw id' id with
    |false=>rfl
    |true=>exact absurd (y5e hb) hne
   rw[hb]at h';exact⟨hg',E',ρ',s',hle',R',he',h'⟩
 |loop x ih=>
  intro an Q A e0 E0 E a w ρS s hc hA hg hle R he h;cases an with
  |nil=>exact h.elim
  |cons an rest=>
   have hh:=fG h;clear h;rcases hh with⟨_,h⟩|⟨_,h⟩
   ·refine wp_loop_rounds an.un ?_;revert h;generalize an.un=m;intro h
    induction m generalizing a w E ρS s with
    |zero=>exact h.elim
    |succ m ihm=>
     rw[rounds_succ];simp only[yIm]at h;refine ak (ih rest _ A e0 E0 E a w ρS s hc hA hg hle R he h) ?_;rintro e a' w' ⟨hg',E',ρ',s',hle',R',he',h'⟩;cases e<;>first|exact ihm E' a' w' ρ' s' hg' hle' R' he' h'|exact⟨hg',E',ρ',s',hle',R',he',h'⟩
   obtain⟨i0,h⟩:=h;obtain⟨E1,s1,π1,hle1,⟨I,μ,hinv0,hround⟩,_,hwf1,hn1,hmk⟩:=zEo h R he (λp n e=>by cases e);obtain⟨hlow,hround⟩:=zK hround;have hnlt:∀p q,z7 p (wC an.fr π1 0 (an.rows i0))=au q->z7 p π1=au q/\q<s1.nx:=λp q e=>by
    have h1:=nZ e;obtain⟨hd,h2⟩:=hwf1 p q h1;exact⟨h1,by rw[<- hn1];exact(y5f.1 h2).1⟩
   have hfix0:∀t,m8 t (asg x)=bv->VR E1 (ρS t) (yK a t):=λt _=>(he t).mono hle1
   obtain⟨E2,hle2,R2,he2⟩:=hmk E1 (qY an.keep s1.rows) s1.nx ρS (asg x) (tG an.fr s1.nx π1 0 (an.rows i0)) (λp q e=>(zBe e).imp_right (hnlt p q)) hn1 (FLe.refl _) (y9r _) (λE4 _ hle4 _ M H=>wE (λr y=>rHP.mono hle4 r) (l9 H)) hfix0;refine wp_loop_ghost (λm a' w'=>Good n A e0 a'/\(∀t,m8 t (asg x)=bv->yK a' t=yK a t)/\∃i E',E1.le E'/\I i/\Rel k L E' (zOo s1.nx (tG an.fr s1.nx π1 0 (an.rows i0)) (an.rows i) (qY an.keep s1.rows)) w'/\
    EnvR E' (lT (tG an.fr s1.nx π1 0 (an.rows i0)) (an.slots i) (asg x) ρS) (yK a')/\μ i=m) (μ i0) ⟨hg,λ_ _=>rfl,i0,E2,hle2,hinv0,R2,he2,rfl⟩ ?_
   rintro m a' w' ⟨hg',hfix,i,E',hle',hinv,R',he',rfl⟩;have h1:=hround i hinv;have hgB:Good n (λt=>A t && m8 t (asg x)) (yK a') a':=⟨hg'.size,hg'.defers,λ_ _=>rfl⟩
   refine ak (ih rest _ (λt=>A t && m8 t (asg x)) (yK a') E' E' a' w' _ _ hc (λt ht=>by rw[hA t ht,memN_iff.2 ht];rfl) hgB (Ev.le.refl _) R' he' h1) ?_;rintro e a2 w2 ⟨hg2,E3,ρ3,s3,hle3,R3,he3,h2⟩;have hg3:Good n A e0 a2:=⟨hg2.size,hg2.defers,λt ht=>by rw[hg2.same t (by simp[ht]),hg'.same t ht]⟩
   have hle03:E0.le E3:=hle.trans (hle1.trans (hle'.trans hle3));cases e<;>first|exact⟨hg3,E3,ρ3,s3,hle03,R3,he3,h2⟩|skip
   obtain⟨i',h2⟩:=h2;have hw3:WfM (wC an.fr π1 0 (an.rows i0)) E3.tab:=λp q e=>by
    obtain⟨hd,h2⟩:=hwf1 p q (hnlt p q e).1;exact⟨hd,(hle'.trans hle3).get h2⟩
   obtain⟨E4,s4,π4,hle4,⟨hinv',hμ,hkept⟩,hext4,_,hn4,hmk'⟩:=zEo h2 R3 he3 hw3;have hfix2:∀t,m8 t (asg x)=bv->yK a2 t=yK a t:=λt ht=>by rw[hg2.same t (by simp[ht]),hfix t ht]
   obtain⟨E5,hle5,R5,he5⟩:=hmk' E1 (qY an.keep s1.rows) s1.nx ρS (asg x) (tG an.fr s1.nx π1 0 (an.rows i0)) (λp q e=>(zBe e).imp_right λh=>⟨hext4 p q h,(hnlt p q h).2⟩) hn1 (hle'.trans (hle3.trans hle4)).1 (hle'.trans (hle3.trans hle4)).2
    (λE6 hF _ hl M H=>zUd (E3:=E4) (E4:=E6) hF hl hkept hlow H) (λt ht=>by rw[hfix2 t ht];exact hfix0 t ht)
   exact⟨_,hμ,hg3,hfix2,i',E5,hle5,hinv',R5,he5,rfl⟩
 |exit id=>intro an Q A e0 E0 E a w ρS s _ _ hg hle R he h;exact wp_exit ⟨hg,E,ρS,s,hle,R,he,h⟩
 |ret=>intro an Q A e0 E0 E a w ρS s _ _ hg hle R he h;exact wp_ret ⟨hg,E,ρS,s,hle,R,he,h⟩
 |rangeFunc f ps x y ihx ihy=>intro an Q A e0 E0 E a w ρS s _ _ hg hle R he h;exact h.elim
 |scope x ih=>intro an Q A e0 E0 E a w ρS s _ _ hg hle R he h;exact h.elim
 |label l=>intro an Q A e0 E0 E a w ρS s _ _ hg hle R he h;exact h.elim
 |goto l=>intro an Q A e0 E0 E a w ρS s _ _ hg hle R he h;exact h.elim
 |refuse t=>intro an Q A e0 E0 E a w ρS s _ _ hg hle R he h;exact h.elim
variable {P:ae} {k:Ko} {L:List HP}
def zUc (P:ae) (ρ:y8) (s:St):List ResultVar->Option (List V)
 |[]=>au []
 | .tmp t::rs=>match zUc P ρ s rs with
   |some vs=>au (ρ t::vs)
   |none=>av
 | .cell a t::rs=>match ρ a with
   | .nm n off=>match s.get n with
     |some (.cells vs _)=>match z7t P t vs off with
      |some v=>match zUc P ρ s rs with
       |some us=>au (v::us)
       |none=>av
      |none=>av
     |_=>av
   |_=>av
def zSt:List V->V
 |[v]=>v
 |vs=> .tup vs
def zDj {E:Ev} {s:St} {w:ab} (R:Rel k L E s w) {ρS:y8} {a:Act} (he:EnvR E ρS (yK a)):∀{rs:List ResultVar} {vs:List V},zUc P ρS s rs=au vs->∃ys,(rs.mapM (zUl a.tmps)).run P w= .ok ys w/\VRL E vs ys
 |[],vs,h=>by
  simp only[zUc,cf]at h;subst h;exact⟨[],rfl,VRL.nil⟩
 | .tmp t::rs,vs,h=>by
   simp only[zUc]at h;split at h<;>first|(cases h;done)|skip
   rename_i us hus;cases h;obtain⟨ys,h1,h2⟩:=zDj R he hus;refine⟨yK a t::ys,?_,by simp only[VRL];exact⟨_,_,rfl,he t,h2⟩⟩;simp only[be,zUl,bind,pure,run_bind,cq,cp]at h1 ⊢;rw[h1]
 | .cell c t::rs,vs,h=>by
   simp only[zUc]at h;split at h<;>first|(cases h;done)|skip
   rename_i n off hc;split at h<;>first|(cases h;done)|skip
   rename_i cs T hg;split at h<;>first|(cases h;done)|skip
   rename_i v hp;split at h<;>first|(cases h;done)|skip
   rename_i us hus;cases h;obtain⟨ys,h1,h2⟩:=zDj R he hus;have hv:=he c;rw[hc]at hv;simp only[VR]at hv;obtain⟨b,oo,l,e1,e2⟩:=hv;obtain⟨b',l',sub,q1,q2,q3⟩:=R.cells hg;rw[e1]at q1;cases q1;obtain⟨y,hy,hh⟩:=zJf q2 q3 hp;refine⟨y::ys,?_,by simp only[VRL];exact⟨_,_,rfl,hy,h2⟩⟩;rw[y6c]at e2;have e2':a.tmps.getD c af= .pointer (au ⟨b,off,av⟩):=e2;unfold mT at hh;simp only[be,zUl,bind,pure,run_bind,cq,cp,e2',asAddr,hh]at h1 ⊢;rw[h1]
def fnS (P:ae) (fn:Func) (K:V->St->Prop):Exit->y8->St->Prop
 | .normal,ρ,s=>optK (zUc P ρ s fn.results.toList) λvs=>K (zSt vs) s
 | .ret,ρ,s=>optK (zUc P ρ s fn.results.toList) λvs=>K (zSt vs) s
 |_,_,_=>False
def yFi:List V->Nat->V
 |[],_=> .top
 |v::_,0=>v
 |_::l,n+1=>yFi l n
def zOy (args:List V):y8:=λt=>yFi args t
def z8d {E:Ev}:∀{vs:List V} {ys:List aa},VRL E vs ys->∀t,VR E (yFi vs t) (ys.getD t af)
 |[],ys,h,t=>by simp only[yFi,VR]
 |v::vs,ys,h,t=>by
  simp only[VRL]at h;obtain⟨x,xs,rfl,h1,h2⟩:=h;cases t with
  |zero=>exact h1
  |succ t=>simpa[yFi]using z8d h2 t
def mD {f:ap} {args:Array aa} {w:ab} {K:aa->ab->Prop} (hb:uP P f=bu) (h:Calls P f args w λe w'=>∃v,e= .returned v/\K v w'):Does P (ag f args) w K:=by
 unfold uP at hb;split at hb
 ·rename_i fn hfn;simp only[y5o,y8o,Bool.not_eq_eq_eq_not,Bool.not_true]at hb;unfold Does;have:(ag f args).run P w= .ok (.enter f args) w:=by
   simp only[ag,bind,pure,run_bind,program,cp,cq,hfn,hb.1,hb.2,y5v,if_false]
  rw[this];exact h
 ·cases hb
def eX {H:Hnd} (hH:HOk P H) (hm:P.follows .mixedOrders=bu) {f:ap} {fn:Func} {c:Code} (hf:P.funcs[f]? =au fn) (hb:fn.body=au c) (hok:okC fn.ntmps c=bu) (J:List (Nat×SAnn)) (an:List SAnn)
 {args:List V} (hsz:ay args.length fn.ntmps=bu) {K:V->St->Prop} {s:St} (h:scode P H J an c (fnS P fn K) (zOy args) s) {E:Ev} {w:ab} {ys:List aa} (R:Rel k L E s w) (hv:VRL E args ys):
 Calls P f ys.toArray w λe w'=>∃v,e= .returned v/\Outc k L E K v w':=by
 refine calls_of_wp hf hb ?_;have hsz:=y7i hsz;have hlen:=hv.length;have hg:Good fn.ntmps (λ_=>bu) (uO ys) {tmps:=ys.toArray++cn (fn.ntmps-ys.toArray.size) af,defers:=[]}:=
  ⟨by simp;omega,rfl,λs hs=>by cases hs⟩
 have henv:yK {tmps:=ys.toArray++cn (fn.ntmps-ys.toArray.size) af,defers:=[]}=uO ys:=by
  funext i;simp only[yK,uO,y6y,y5k,Array.getElem?_append];split
  ·simp
  ·rename_i hlt;simp at hlt;rw[y6h hlt,xAq];split<;>rfl
 have he:EnvR E (zOy args) (yK {tmps:=ys.toArray++cn (fn.ntmps-ys.toArray.size) af,defers:=[]}):=by
  rw[henv];intro t;exact z8d hv t
 refine ak (zYz hH hm c an _ (λ_=>bu) (uO ys) E E _ w _ s hok (λ_ _=>rfl) hg (Ev.le.refl _) R he h) ?_;have fin:∀{a':Act} {w':ab} {E':Ev} {ρ':y8} {s':St},Good fn.ntmps (λ_=>bu) (uO ys) a'->E.le E'->Rel k L E' s' w'->EnvR E' ρ' (yK a')->(optK (zUc P ρ' s' fn.results.toList) λvs=>K (zSt vs) s')->
  ∃v,(results fn a'.tmps).run P w'= .ok v w'/\∃v',Ending.returned v= .returned v'/\Outc k L E K v' w':=by
  intro a' w' E' ρ' s' hg' hle' R' he' h';obtain⟨vs,hvs,hk⟩:=zL h';obtain⟨zs,h1,h2⟩:=zDj R' he' hvs;refine⟨zFs zs,?_,_,rfl,E',zSt vs,s',hle',R',?_,hk⟩
  ·unfold results;rw[Array.mapM_eq_mapM_toList,map_eq_pure_bind,bind_assoc];exact zJj h1 _ (λr=>by cases r<;>rfl)
  ·rcases vs with _|⟨v,_|⟨u,vs⟩⟩
   ·simp only[VRL]at h2;subst h2;simp only[zSt,zFs,VR];exact⟨[],rfl,VRL.nil⟩
   ·simp only[VRL]at h2;obtain⟨x,xs,rfl,h3,rfl⟩:=h2;exact h3
   ·have h20:=h2;simp only[VRL]at h2;obtain⟨x,xs,rfl,h3,y,ys',rfl,h4,h5⟩:=h2;simp only[zSt,zFs,VR];exact⟨_,rfl,h20⟩
 rintro e a' w' ⟨hg',E',ρ',s',hle',R',he',h'⟩;cases e<;>first|exact h'.elim|skip
 ·obtain⟨v,h1,h2⟩:=fin hg' hle' R' he' h';exact⟨hg'.defers,v,h1,h2⟩
 ·obtain⟨v,h1,h2⟩:=fin hg' hle' R' he' h';exact⟨hg'.defers,v,h1,h2⟩
def zBn {H:Hnd} (hH:HOk P H) (hm:P.follows .mixedOrders=bu) {f:ap} {fn:Func} {c:Code} (hf:P.funcs[f]? =au fn) (hb:fn.body=au c) (hbd:uP P f=bu) (hok:okC fn.ntmps c=bu) (J:List (Nat×SAnn)) (an:List SAnn)
 {args:List V} (hsz:ay args.length fn.ntmps=bu) {K:V->St->Prop} {s:St} (h:scode P H J an c (fnS P fn K) (zOy args) s) {E:Ev} {w:ab} {ys:List aa} (R:Rel k L E s w) (hv:VRL E args ys):
 Does P (ag f ys.toArray) w (Outc k L E K):=mD hbd (eX hH hm hf hb hok J an hsz h R hv)
def E0 (w:ab):Ev:=⟨λb=>w.heap[b]?,[]⟩
def y3w (w:ab) (hG:GTab λb=>w.heap[b]?):Rel (Cv.ko w) [] (E0 w) ⟨[],0⟩ w:=⟨rfl,(Hp.start w).imp λx hx=>⟨hx,hG⟩⟩
def yZs (f:Nat):List (Nat×Con)->Option Con
 |[]=>av
 |(g,C)::l=>bif aw g f then au C else yZs f l
def GOk (P:ae):List (Nat×Con)->Prop
 |[]=>True
 |(f,C)::l=>C.ok P f/\GOk P l
def yGb (f:Nat):List (Nat×Con)->Bool
 |[]=>bv
 |(g,_)::l=>bif aw g f then bu else yGb f l
def zRn (f:Nat) (args:List V) (s:St) (K:V->St->Prop):List (Nat×Con)->Prop
 |[]=>False
 |(g,C)::l=>bif aw g f then(bif yGb f l then C.call args s K\/zRn f args s K l else C.call args s K)else zRn f args s K l
def zBd {f:Nat} {args:List V} {s:St} {K:V->St->Prop}:∀{G:List (Nat×Con)},GOk P G->zRn f args s K G->∃C:Con,C.ok P f/\C.call args s K
 |[],_,h=>h.elim
 |(g,C)::l,hG,h=>by
  simp only[zRn]at h;cases hb:aw g f with
  |false=>rw[hb]at h;exact zBd hG.2 h
  |true=>
   rw[hb]at h;have e:=y5e hb;subst e;cases hl:yGb g l with
   |false=>rw[hl]at h;exact⟨C,hG.1,h⟩
   |true=>
    rw[hl]at h;rcases h with h|h
    ·exact⟨C,hG.1,h⟩
    ·exact zBd hG.2 h
def hnd (P:ae) (G:List (Nat×Con)):Nat->Hnd
 |0,f,args,s,K=>match yGb f G with
  |true=>zRn f args s K G
  |false=>False
 |d+1,f,args,s,K=>match yGb f G with
  |true=>zRn f args s K G
  |false=>match P.funcs[f]? with
   |some fn=>match fn.body with
    |some c=>bif uP P f && okC fn.ntmps c && ay args.length fn.ntmps then scode P (hnd P G d) [] [] c (fnS P fn K) (zOy args) s else False
    |none=>False
   |none=>False
def yKj (hm:P.follows .mixedOrders=bu) {G:List (Nat×Con)} (hG:GOk P G):∀d,HOk P (hnd P G d):=by
 intro d
 induction d with
 |zero=>
  intro f args s K h k L E w ys R hv;simp only[hnd]at h;split at h<;>first|exact h.elim|skip
  obtain⟨C,h1,h2⟩:=zBd hG h;exact Con.call_sound h1 h2 R hv
 |succ d ih=>
  intro f args s K h k L E w ys R hv;simp only[hnd]at h;split at h
  ·obtain⟨C,h1,h2⟩:=zBd hG h;exact Con.call_sound h1 h2 R hv
  ·split at h<;>first|exact h.elim|skip
   rename_i fn hfn;split at h<;>first|exact h.elim|skip
   rename_i c hc;obtain⟨hb,h⟩:=zK h;simp only[y5o]at hb;exact zBn ih hm hfn hc hb.1.1 hb.1.2 [] [] hb.2 h R hv
def z5a:Nat->NM
 |0=>[]
 |m+1=>(m,m)::z5a m
def zYx:∀{m p:Nat},p<m->z7 p (z5a m)=au p
 |m+1,p,h=>by
  simp only[z5a,z7];cases hb:aw m p
  ·have:m≠p:=λe=>by subst e;simp at hb
   exact zYx (by omega)
  ·rw[<- y5e hb];rfl
def zFw:∀{m p q:Nat},z7 p (z5a m)=au q->p<m/\q=p
 |0,p,q,h=>by cases h
 |m+1,p,q,h=>by
  simp only[z5a,z7]at h;cases hb:aw m p
  ·rw[hb]at h;obtain⟨h1,h2⟩:=zFw h;exact⟨by omega,h2⟩
  ·rw[hb]at h;have:=y5e hb;simp only[cond_true,cf]at h;exact⟨by omega,by omega⟩
def yNj (m:Nat) (v:V) (s:St) (a:Alt):Prop:=
 ∃o,mtV (a.res o) v (z5a m) s λπ s=>mtR 0 (a.post o) π s λπ _=>bif rL (a.post o).length π && ay m (a.post o).length then a.rel o else False
def yMk (m:Nat) (v:V) (s:St):List Alt->Prop
 |[]=>False
 |[a]=>yNj m v s a
 |a::l=>yNj m v s a\/yMk m v s l
def zFa {m:Nat} {v:V} {s:St}:∀{l:List Alt},yMk m v s l->∃a∈l,yNj m v s a
 |[a],h=>⟨a,by simp,h⟩
 |a::b::l,h=>by
  rcases h with h|h
  ·exact⟨a,by simp,h⟩
  ·obtain⟨c,h1,h2⟩:=zFa h;exact⟨c,y5j _ h1,h2⟩
def zWl {w:ab} {m:Nat} {v:V} {s:St} {a:Alt} {E0 E:Ev} (h:yNj m v s a) (hn:E0.tab.length=m) (hle:E0.le E) (R:Rel k L E s w) {y:aa} (hv:VR E v y):
 ∃o,a.rel o/\∃E',E0.le E'/\VR E' (a.res o) y/\Rel k L E' ⟨uV 0 (a.post o),(a.post o).length⟩ w:=by
 obtain⟨o,h⟩:=h;have hid:WfM (z5a m) E.tab:=λp n e=>by
  obtain⟨h1,rfl⟩:=zFw e;exact⟨E0.tab[n]'(by omega),hle.get (y6e (by omega))⟩
 obtain⟨E1,π1,s1,q1,q2,q3⟩:=z3g h R hid hv;obtain⟨E2,π2,s2,r1,r2⟩:=zUy q3 q1.rel q1.wf;obtain⟨hb,hrel⟩:=zK r2;simp only[y5o]at hb;have hlt:=aA hb.1;have hmq:=y7i hb.2
 let q:=(a.post o).length
 let tl:List Hd:=(az q).map λp=>(E2.tab[(z7 p π2).getD 0]?).getD (af,[])
 have hget:∀p,p<q->tl[p]? =au ((E2.tab[(z7 p π2).getD 0]?).getD (af,[])):=λp hp=>by
  show((az q).map _)[p]? =_;rw[y6q,y9c hp];rfl
 have hloc:Loc π2 E2.tab tl:=by
  intro p n hp;obtain⟨hd,h'⟩:=r1.wf p n hp;refine⟨hd,h',?_⟩;rw[hget p (hlt p n hp)];simp only[hp,y7n,h']
 have hle2:E0.le E2:=hle.trans (q1.le.trans r1.le);have hpre:E0.tab<+:tl:=by
  refine⟨tl.drop m,?_⟩;apply y9a;intro p;by_cases hp:p<m
  ·rw[y7x (by omega)];have hpl:z7 p π2=au p:=r1.ext _ _ (q1.ext _ _ (zYx hp));have e1:E0.tab[p]? =au (E0.tab[p]'(by omega)):=y6e (by omega);rw[hget p (by omega),hpl,y7n,hle2.get e1,e1];rfl
  ·rw[y7f (by omega),y7p,hn,show m+(p-m)=p by omega]
 refine⟨o,hrel,⟨E2.F,tl⟩,⟨hle2.1,hpre⟩,q2 E2 π2 r1.le r1.ext tl hloc,⟨by simp[tl,q],?_⟩⟩;have H:=r1.rel.frontL;have H1:=wE (g:=rHP ⟨E2.F,tl⟩) (λr x hx=>by
  rcases hx with⟨e1,e2⟩|⟨n,h1,h2⟩
  ·exact .inl ⟨e1,e2⟩
  ·right;obtain⟨hd,h3,h4⟩:=h2 E2 π2 (Ev.le.refl _) (Ext.refl _) tl hloc;obtain⟨hd',h5,h6⟩:=hloc _ _ h1;rw[h3]at h5;cases h5;exact⟨hd,h6,h4⟩) H
 have H2:Hp k w (s2.rows.map (rHP E2)++((uV 0 (a.post o)).map (rHP ⟨E2.F,tl⟩)++fz E2.F::L)):=by
  refine H1.perm ?_;rw[<- y5i,<- y5i];exact y7h.append_right _
 have hdrop:∀(l:List (Nat×AObj)) {M:List HP},Hp k w (l.map (rHP E2)++M)->Hp k w M:=by
  intro l
  induction l with
  |nil=>intro M H;exact H
  |cons a l ih=>intro M H;exact ih H.drop
 exact hdrop _ H2
def walk (P:ae) (G:List (Nat×Con)) (d:Nat) (J:List (Nat×SAnn)) (an:List SAnn) (op:List Nat) (fn:Func) (c:Code) (args:List V) (rows:List AObj) (alts:List Alt):Prop:=
 scode P (hnd P G d) J an c (fnS P fn λv s=>yMk rows.length v s alts) (zOy args) (zLo op ⟨uV 0 rows,rows.length⟩)
def gG (hm:P.follows .mixedOrders=bu) {f:ap} {fn:Func} {c:Code} {C:Con} (G:List (Nat×Con)) (hG:GOk P G) (d:Nat) (J:C.ι->List (Nat×SAnn)) (an:C.ι->List SAnn) (op:List Nat) (hf:P.funcs[f]? =au fn) (hb:fn.body=au c) (hbd:uP P f=bu) (hok:okC fn.ntmps c=bu)
 (hsz:∀i,ay (C.pat i).length fn.ntmps=bu) (h:∀i,C.cnd i->walk P G d (J i) (an i) op fn c (C.pat i) (C.pre i) (C.alts i)):C.ok P f:=by
 intro i hc k L E w ys R hv;obtain⟨E1,hle,R1⟩:=zBr op R;refine(zBn (yKj hm hG d) hm hf hb hbd hok (J i) (an i) (hsz i) (h i hc) R1 (hv.mono hle)).mono ?_;rintro y w' ⟨E',v,s',hle',R',hv',hk⟩;obtain⟨a,ha,hend⟩:=zFa hk;obtain⟨o,h1,E2,h2,h3,h4⟩:=zWl hend R.nx (hle.trans hle') R' hv';exact⟨a,ha,o,h1,E2,h2,h3,h4⟩
def bH (t:aj):Con where
 ι:=List (aa×List D)
 pat:=λ_=>[.ifc t (.mp 0)]
 pre:=λes=>[.map es]
 cnd:=λ_=>True
 alts:=λes=>[{o:=Unit,res:=λ_=> .ifc t (.mp 1),post:=λ_=>[.map es,.map es],rel:=λ_=>True}]
def z3d {f : FuncId} {fn : Func} (hf : P.funcs[f]? = some fn) (hname : (fn.name == "runtime.NumGoroutine") = false) (hb : fn.body.isNone = true) (hn : Extern.findNext fn = none) (he : Extern.find fn = some Extern.MapsClone.clone) (t : TypeId) : (bH t).ok P f := by
 intro es _ k L E w ys R hv;simp only[bH,VRL,VR]at hv;obtain⟨y,_,rfl,⟨z,rfl,b,sub,e1,rfl⟩,rfl⟩:=hv;have hg:(⟨uV 0 [.map es],1⟩:St).get 0=au (.map es):=rfl;obtain⟨hd,x,q1,q2,q3⟩:=R.row hg (by simp);rw[e1]at q1;cases q1;simp only[rowHP]at q2;obtain⟨b',ents,ck,e4,e5,e6,rfl⟩:=q2;cases e4;have hm:=q3 b _ (by simp[one];rfl);have hrun:(Extern.MapsClone.clone #[.iface t (.map (au b))]).run P w= .ok (.iface t (.map (au w.heap.size))) (w.alloc (.map ents.toArray ck)):=by
  have e:Extern.MapsClone.clone #[.iface t (.map (au b))]=(getObj b>>=λo=>match o with
   | .map entries clock=>(newObj (.map entries clock)>>=λn=>pure (.iface t (.map (au n))))
   | _ => stuck "maps.clone: a map expected") := rfl
  rw[e];simp only[bind,run_bind,qG hm trivial];rfl
 unfold Does;rw[run_callFunc_extern hf hname hb hn he,hrun];simp only[Result.andThen];have hfresh:rowHP E.F (.map es) (E.tab++[(.map (au w.heap.size),[])]) (.map (au w.heap.size),[]) (one w.heap.size (.map ents.toArray ck)):=by
  simp only[rowHP];exact⟨_,ents,ck,rfl,e5,e6,rfl⟩
 obtain⟨h1,h2,h3⟩:=R.new hfresh;refine⟨_,y6r.2 rfl,(),trivial,_,h1,by simp only[VR];exact⟨_,rfl,_,_,h3,rfl⟩,⟨h2.nx,h2.hp.perm ?_⟩⟩;exact .swap _ _ _
def zTy {E:Ev} {s:St} {w w':ab} (hle:(E0 w).le E) (R:Rel (Cv.ko w) [] E s w'):Below w.heap.size w w':=by
 have hfr:=R.frozen;obtain⟨h1,h2,h3⟩:=R.hp.1;have hblk:∀b,b<w.heap.size->w'.heap[b]? =w.heap[b]? :=λb hb=>by
  have:w.heap[b]? =au w.heap[b]:=y9u hb;rw[this];exact hfr b _ (hle.1 b _ this)
 refine⟨h1,h2,h3,?_,hblk⟩;rcases y7k w'.heap.size w.heap.size with hlt|hge
 ·have:=hblk w'.heap.size hlt;rw[y8c (y5x _),y9u hlt]at this;cases this
 ·exact hge
def calls_of_walk (hm:P.follows .mixedOrders=bu) {f:ap} {fn:Func} {c:Code} (G:List (Nat×Con)) (hG:GOk P G) (d:Nat) (J:List (Nat×SAnn)) (an:List SAnn) (hf:P.funcs[f]? =au fn) (hb:fn.body=au c) (hok:okC fn.ntmps c=bu)
 {args:List V} {alts:List Alt} (hsz:ay args.length fn.ntmps=bu) (h:walk P G d J an [] fn c args [] alts) {w:ab} (hG0:GTab λb=>w.heap[b]?) {ys:List aa} (hv:VRL (E0 w) args ys):
 Calls P f ys.toArray w λe w'=>∃y,e= .returned y/\Below w.heap.size w w'/\∃a∈alts,∃o,a.rel o/\∃E',VR E' (a.res o) y:=by
 refine(eX (yKj hm hG d) hm hf hb hok J an hsz h (y3w w hG0) hv).mono ?_;rintro e w' ⟨y,he,E',v,s',hle,R,hvr,hk⟩;obtain⟨a,ha,hend⟩:=zFa hk;obtain⟨o,h1,E2,h2,h3,h4⟩:=zWl hend rfl hle R hvr;exact⟨y,he,zTy hle R,a,ha,o,h1,E2,h3⟩
@[reducible] def zA (n:Int):V:= .d (.v (.int .i64 n))
@[reducible] def lK (n:Int):V:= .d (.v (.int .u64 n))
@[reducible] def yKs (n:Int):V:= .d (.v (.int .u32 n))
@[reducible] def yP (b:Bool):V:= .d (.v (.bool b))
@[reducible] def roV (sz:Nat) (els:List (List D)):V:= .d (.ro sz els)
def mG:V:= .tup []
@[reducible] def con1 (ι:Type) (pat:ι->List V) (pre:ι->List AObj) (cnd:ι->Prop) (res:ι->V) (post:ι->List AObj):Con where
 ι:=ι
 pat:=pat
 pre:=pre
 cnd:=cnd
 alts:=λi=>[{o:=Unit,res:=λ_=>res i,post:=λ_=>post i,rel:=λ_=>True}]
def bE (l:List UInt8):List (List D):=l.map λb=>[.v (.int .u8 b.toNat)]
@[simp] theorem zUa (a b:List UInt8):bE (a++b)=bE a++bE b:=by simp[bE]
@[simp] theorem y4e:bE []=[]:=rfl
@[simp] theorem y4 (a:List UInt8):(bE a).length=a.length:=by simp[bE]
def zAj (a:List UInt8) (n:Nat):bE (a.take n)=(bE a).take n:=by simp[bE]
def zFj (a:List UInt8) (n:Nat):bE (a.drop n)=(bE a).drop n:=by simp[bE]
def zQw (s:ByteArray):kQ s=bE s.data.toList:=rfl
def lob (n:Int):UInt8:=UInt8.ofNat (n % 256).toNat
def le (n:Int):Nat->List UInt8
 |0=>[]
 |k+1=>lob n::le (n / 256) k
def xW (k:Nat):∀n:Int,(le n k).length=k:=by
 induction k with
 |zero=>intro n;rfl
 |succ k ih=>intro n;simp[le,ih]
def yOk (k:Nat):∀n:Int,le n (k+1)=le n k++[lob (n / 256 ^ k)]:=by
 induction k with
 |zero=>intro n;simp[le]
 |succ k ih=>
  intro n;have:n / 256 / 256 ^ k=n / 256 ^ (k+1):=by
   rw[Int.ediv_ediv_of_nonneg (by omega),Int.pow_succ,y9o]
  rw[le,ih,le,this,y6t]
def zKw (n:Int):cx.wrap n=((lob n).toNat:Int):=by
 have:(cx.wrap n)=n % 256:=rfl;rw[this];unfold lob;have h1:(n % 256).toNat<256:=by omega
 rw[UInt8.toNat_ofNat_of_lt' (by simpa using h1)];omega
def w64 {x:Int} (h: -9223372036854775808<=x/\x<=9223372036854775807):cy.wrap x=x:=Cv.wrap_i64 h.1 h.2
def zDf {x:Int} (h:0<=x/\x<18446744073709551616):cu.wrap x=x:=by
 have:cu.wrap x=x % 18446744073709551616:=rfl;rw[this];omega
def y0j {x:Int} (h:0<=x/\x<4294967296):cw.wrap x=x:=by
 have:cw.wrap x=x % 4294967296:=rfl;rw[this];omega
def zFg (k:IntKind) (a:Int) (b:Nat) (h:b<=k.bits):mL k a b=a / 2 ^ b:=by
 unfold mL;rw[show min (Int.toNat (b:Int)) k.bits=b by simp;omega];rw[Int.fdiv_eq_ediv_of_nonneg];exact Int.pow_nonneg (by omega)
def zI {p:Prop} [Decidable p] {A B:Prop} (h1:p->A) (h2:¬p->B):cnd (decide p) A B:=Cv.cnd.mk (λh=>h1 (y6b h)) (λh=>h2 (y9t h))
def gok0 {P:ae}:GOk P []:=trivial
def gokc {P:ae} {f:Nat} {C:Con} {l:List (Nat×Con)} (h:C.ok P f) (hl:GOk P l):GOk P ((f,C)::l):=⟨h,hl⟩
end Sx
