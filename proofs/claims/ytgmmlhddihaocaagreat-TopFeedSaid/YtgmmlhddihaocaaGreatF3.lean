/- Texts of ours. No condition. -/
import Derived.Laws.Externs
import Derived.Lib.ConvBytes
import Derived.LoopN
import Derived.MapKept
import Derived.Test.YtgmmlhddihaocaaGreatF2
set_option linter.all false
open Go renaming Value->ab,World->ac,execOp->ae,Program->af,undef->ag,callFunc->aj,TypeId->ak,wp_mono->am,grownCap->ao,Oper->ap,FuncId->aq,MapEntry->ar,Operand->au
open Option renaming some->av,none->aw
open Nat renaming beq->ax,blt->ay,ble->az
open List renaming range->ba,replicate->bc,map->be,mapM_cons->bg
open Go.Lib renaming bytesCells->bo,bytesWorld->bu
open Bool renaming true->bv,false->bz
open List.Perm renaming append_left->cd,append_right->ce,cons->cf
open Option.some renaming injEq->cg,inj->cm
open Go.Value renaming pointer->cn,int->co
open Array renaming replicate->cp,ext'->cq
open Go.Sem renaming run->cr,bind->cu
open Go.Region renaming wanted->cw,ready->cx
open Go.IntKind renaming u64->cy,u32->cz,u8->da,i64->db
namespace Sx
open Go Go.RowKit Cv
variable {P:af} {k:Ko} {L:List HP} {E:Ev} {s:St} {w:ac}
def Ev.le.app {E:Ev} (hd:Hd):E.le ⟨E.F,E.ga++[hd]⟩:=⟨xp.refl _,JN _ _⟩
def Rel.su (R:Rel k L E s w) {n t sz:Nat} {ez:List (List D)} (h:s.get n=av (.own t sz ez)):
 ∃a c xs sub,E.ga[n]? =av (.slice a ez.length c,sub)/\iy E.F ez.flatten xs/\(∀el∈ez,el.length=sz)/\Hp k w (oq t sz a ez.length c xs::((v8 n s.rows).map (gz E)++fz E.F::L)):=by
 obtain⟨hk,hs,hh⟩:=R.focus h;cases hh with
 |cons ha iU hd hr=>
  rcases ha with⟨e,_⟩|⟨⟨hv,sub⟩,h1,h2⟩
  ·cases e
  ·simp only[fp]at h2;obtain⟨a,c,xs,rfl,q1,q2,q3⟩:=h2;exact⟨a,c,xs,sub,h1,q1,q2,hk,_,.cons q3 iU hd hr⟩
def aH {rows:List (Nat×fj)} {nx t sz:Nat} {ez:List (List D)} {a:Option Addr} {c:Nat} {xs:List ab} (hn:E.ga.length=nx) (hx:iy E.F ez.flatten xs) (hu:∀el∈ez,el.length=sz)
 (H:Hp k w (oq t sz a ez.length c xs::(rows.map (gz E)++fz E.F::L))):
 ∃E',E.le E'/\Rel k L E' ⟨(nx,.own t sz ez)::rows,nx+1⟩ w/\VR E' (.own nx) (.slice a ez.length c):=by
 have hle:E.le ⟨E.F,E.ga++[(.slice a ez.length c,[])]⟩:=⟨xp.refl _,JN _ _⟩
 have j':(E.ga++[((.slice a ez.length c,[]):Hd)])[nx]? =av (.slice a ez.length c,[]):=by rw[<- hn];simp
 refine⟨⟨E.F,E.ga++[(.slice a ez.length c,[])]⟩,hle,⟨by simp[hn],?_⟩,by simp only[VR];exact⟨[],j',_,_,_,rfl⟩⟩;have H1:Hp k w (rows.map (gz E)++(oq t sz a ez.length c xs::fz E.F::L)):=H.perm (mh (l₁:=rows.map (gz E))).symm;have H2:=vG (λr x=>gz.mono hle r) H1;have H3:Hp k w (oq t sz a ez.length c xs::(rows.map (gz ⟨E.F,E.ga++[(.slice a ez.length c,[])]⟩)++fz E.F::L)):=H2.perm mh;exact H3.imp λx JU=> .inr ⟨_,j',by simp only[fp];exact⟨a,c,xs,rfl,hx,hu,JU⟩⟩
def Vj (R:Rel k L E s w) {o:fj} {O:Obj} {hd:Hd} {K:V->St->Prop} {v:V} {y:ab} (h:fp E.F o (E.ga++[hd]) hd (one w.heap.size O)) (hv:(E.ga++[hd])[s.nx]? =av hd->VR ⟨E.F,E.ga++[hd]⟩ v y) (hk:K v (s.new o)):
 pg k L E K y (w.alloc O):=by
 obtain⟨h1,h2,h3⟩:=R.new h;exact⟨_,v,_,h1,h2,hv h3,hk⟩
def Rel.setCells (R:Rel k L E s w) {n:Nat} {vs Ar:List V} {T:ak} (h:s.get n=av (.cells vs T)) {b:Nat} {sub:List ab} (ht:E.ga[n]? =av (.pointer (av ⟨b,0,aw⟩),sub)) {l':List ab} (hv:gw E Ar l'):
 Rel k L E (s.set n (.cells Ar T)) (World.iT w b (.cells l'.toArray T)):=by
 obtain⟨hk,hs,hh⟩:=R.focus h;cases hh with
 |cons ha iU hd hr=>
  rcases ha with⟨e,_⟩|⟨oO,h1,h2⟩
  ·cases e
  ·rw[ht]at h1;cases h1;simp only[fp]at h2;obtain⟨b',l,e1,e2,rfl⟩:=h2;cases e1;have H:Hp k w (pt b (.cells l.toArray T)::((v8 n s.rows).map (gz E)++fz E.F::L)):=⟨hk,_,.cons rfl iU hd hr⟩
   refine R.nv h ((H.yx (.cells l'.toArray T)).imp λx hx=> .inr ⟨_,ht,?_⟩);simp only[fp];exact⟨b,l',rfl,hv,hx⟩
def Rel.MF (R:Rel k L E s w) {n:Nat} {ds Dx:List D} {T:ak} (h:s.get n=av (.vec ds T)) {b:Nat} {sub:List ab} (ht:E.ga[n]? =av (.pointer (av ⟨b,0,aw⟩),sub)) {l':List ab} (hv:iy E.F Dx l'):
 Rel k L E (s.set n (.vec Dx T)) (World.iT w b (.cells l'.toArray T)):=by
 obtain⟨hk,hs,hh⟩:=R.focus h;cases hh with
 |cons ha iU hd hr=>
  rcases ha with⟨e,_⟩|⟨oO,h1,h2⟩
  ·cases e
  ·rw[ht]at h1;cases h1;simp only[fp]at h2;obtain⟨b',l,e1,e2,rfl⟩:=h2;cases e1;have H:Hp k w (pt b (.cells l.toArray T)::((v8 n s.rows).map (gz E)++fz E.F::L)):=⟨hk,_,.cons rfl iU hd hr⟩
   refine R.nv h ((H.yx (.cells l'.toArray T)).imp λx hx=> .inr ⟨_,ht,?_⟩);simp only[fp];exact⟨b,l',rfl,hv,hx⟩
def Rel.Gn (R:Rel k L E s w) {n:Nat} {es Dw:List (ab×List D)} (h:s.get n=av (.map es)) {b:Nat} {sub:List ab} (ht:E.ga[n]? =av (.map (av b),sub)):
 ∃fu ck,MR E.F es fu/\w.heap[b]? =av (.map fu.toArray ck)/\uI fu ck/\∀iM tj,MR E.F Dw iM->uI iM tj->Rel k L E (s.set n (.map Dw)) (World.iT w b (.map iM.toArray tj)):=by
 obtain⟨hk,hs,hh⟩:=R.focus h;cases hh with
 |cons ha iU hd hr=>
  rcases ha with⟨e,_⟩|⟨oO,h1,h2⟩
  ·cases e
  ·rw[ht]at h1;cases h1;simp only[fp]at h2;obtain⟨b',fu,ck,e1,e2,e3,rfl⟩:=h2;cases e1;have H:Hp k w (pt b (.map fu.toArray ck)::((v8 n s.rows).map (gz E)++fz E.F::L)):=⟨hk,_,.cons rfl iU hd hr⟩
   refine⟨fu,ck,e2,H.get,e3,λiM tj hm Sj=>R.nv h ((H.yx (.map iM.toArray tj)).imp λx hx=> .inr ⟨_,ht,?_⟩)⟩;simp only[fp];exact⟨b,iM,tj,rfl,hm,Sj,hx⟩
def Rel.IZ (R:Rel k L E s w) {n:Nat} {es Dw:List (ab×List D)} {kv:ab} (h:s.get n=av (.map es)) {b:Nat} {sub:List ab} (ht:E.ga[n]? =av (.map (av b),sub)):
 ∃fu ck,MR E.F es fu/\w.heap[b]? =av (.map fu.toArray ck)/\uI fu ck/\∀iM tj x,MR E.F Dw iM->uI iM tj->UI iM kv x->Rel k L E (s.set n (.CN Dw kv x)) (World.iT w b (.map iM.toArray tj)):=by
 obtain⟨hk,hs,hh⟩:=R.focus h;cases hh with
 |cons ha iU hd hr=>
  rcases ha with⟨e,_⟩|⟨oO,h1,h2⟩
  ·cases e
  ·rw[ht]at h1;cases h1;simp only[fp]at h2;obtain⟨b',fu,ck,e1,e2,e3,rfl⟩:=h2;cases e1;have H:Hp k w (pt b (.map fu.toArray ck)::((v8 n s.rows).map (gz E)++fz E.F::L)):=⟨hk,_,.cons rfl iU hd hr⟩
   refine⟨fu,ck,e2,H.get,e3,λiM tj x hm Sj kr=>R.nv h ((H.yx (.map iM.toArray tj)).imp λy hy=> .inr ⟨_,ht,?_⟩)⟩;simp only[fp];exact⟨b,iM,tj,rfl,hm,Sj,kr,hy⟩
def Rel.IY (R:Rel k L E s w) {n:Nat} {es Dw:List (ab×List D)} {kv:ab} {x:Int} (h:s.get n=av (.CN es kv x)) {b:Nat} {sub:List ab} (ht:E.ga[n]? =av (.map (av b),sub)):
 ∃fu ck,MR E.F es fu/\w.heap[b]? =av (.map fu.toArray ck)/\uI fu ck/\UI fu kv x/\∀iM tj,MR E.F Dw iM->uI iM tj->Rel k L E (s.set n (.map Dw)) (World.iT w b (.map iM.toArray tj)):=by
 obtain⟨hk,hs,hh⟩:=R.focus h;cases hh with
 |cons ha iU hd hr=>
  rcases ha with⟨e,_⟩|⟨oO,h1,h2⟩
  ·cases e
  ·rw[ht]at h1;cases h1;simp only[fp]at h2;obtain⟨b',fu,ck,e1,e2,e3,e4,rfl⟩:=h2;cases e1;have H:Hp k w (pt b (.map fu.toArray ck)::((v8 n s.rows).map (gz E)++fz E.F::L)):=⟨hk,_,.cons rfl iU hd hr⟩
   refine⟨fu,ck,e2,H.get,e3,e4,λiM tj hm Sj=>R.nv h ((H.yx (.map iM.toArray tj)).imp λy hy=> .inr ⟨_,ht,?_⟩)⟩;simp only[fp];exact⟨b,iM,tj,rfl,hm,Sj,hy⟩
def yIk {l:List ar} (hn:(l.map (·.born)).Nodup):∀{q:Nat} {m:ar},l[q]? =av m->l.findIdx? (λe=>((e.born:Nat):Int)==((m.born:Nat):Int))=av q:=by
 induction l with
 |nil=>intro q m h;simp at h
 |cons a l ih=>
  intro q m h;simp only[jj,yk]at hn;cases q with
  |zero=>simp at h;subst h;simp[JM]
  |succ q=>
   simp only[Bd]at h;have jr:a.born≠m.born:=λe=>hn.1 (e▸oe.2 ⟨m,ku h,rfl⟩)
   have IS:¬((a.born:Nat):Int)=((m.born:Nat):Int):=by omega
   rw[JM,eg (by simpa using IS),ih hn.2 h];rfl
def yJg {F:PH} {P:af} {t:ak} {ds:List D} {v:V} (h:Nk P t=av ds) (hm:HB P t ds=av v):∃z ys,rB P t=av z/\iy F ds ys/\z=rQ ys:=by
 unfold Nk at h;split at h
 ·rename_i cs hz;split at h<;>first|(cases h;done)|skip
  rename_i n hn;obtain⟨hb,h⟩:=y4 h;cases h;simp only[HB,hn]at hm;obtain⟨my,hm⟩:=y4 hm;simp only[lj,De]at my;have h1:=ja my.1;refine⟨_,cs.toList,hz,yNf hb,?_⟩;unfold rQ;split
  ·rename_i y hy;rw[hy]at h1;simp only[jj,B9,iC,rn]at h1;rw[<- h1]at my;exact absurd my.2 (by decide)
  ·rfl
 ·rename_i z jr hz;split at h<;>first|(cases h;done)|skip
  rename_i hn;obtain⟨hb,h⟩:=y4 h;cases h;exact⟨z,[z],hz,by simp only[iy,DR];exact⟨_,_,rfl,⟨rfl,hb⟩,rfl⟩,rfl⟩
 ·cases h
def z1p {F:PH} {x:ab} {ds:List D} {ys:List ab} (hd:iy F ds ys) {e:ar} (h1:e.key=x) (h2:e.val=rQ ys):∀{es:List (ab×List D)} {fu:List ar},MR F es fu->MR F (es++[(x,ds)]) (fu++[e])
 |[],fu,h=>by
  simp only[MR]at h;subst h;simp only[xi,MR];exact⟨e,[],rfl,h1,⟨ys,hd,h2⟩,rfl⟩
 |(y,d)::es,fu,h=>by
  simp only[MR]at h;obtain⟨m,ms,rfl,q1,q2,q3⟩:=h;simp only[ui,MR];exact⟨m,_,rfl,q1,q2,z1p hd h1 h2 q3⟩
def zKf {kd:TypeDesc} {x:ab} (hk:JA kd x):Instr.sameBits 10000 x x=bv:=by
 rcases hk with⟨ik,k,n,rfl,rfl⟩|⟨s,rfl,rfl⟩<;>simp only[Instr.sameBits]
 ·simp
 ·rw[yDo];simp
def z2q {E:Ev} {v:V} (hv:WE v=bv) {y:ab} (h:VR E v y) {ys:List ab} (hc:y.cells=ys.toArray):y=rQ ys:=by
 cases v<;>simp only[WE,oL]at hv
 ·rename_i d;simp only[VR]at h;have h1:y.oh=bv:=iy.one (F:=E.F) (vs:=[d]) (l:=[y]) (by simp only[iy];exact⟨_,_,rfl,h,rfl⟩) y (by simp);have hcy:y.cells= #[y]:=by cases y<;>first|rfl|cases h1
  rw[hcy]at hc;have:ys=[y]:=by
   have:=congrArg Array.toList hc;simpa using this.symm
  rw[this];rfl
 ·rename_i l;simp only[VR]at h;obtain⟨zs,rfl,h2⟩:=h;simp only[Value.cells]at hc;have:ys=zs:=by
   have:=congrArg Array.toList hc;simpa using this.symm
  subst this;have hl:=h2.length;unfold rQ;split
  ·simp only[iC,rn]at hl;rw[<- hl]at hv;exact absurd hv (by decide)
  ·rfl
def yLu {P:af} {w:ac} {b:Nat} {l:List ab} {T t:ak} (hb:w.heap[b]? =av (.cells l.toArray T)) (ht:P.underlying t=av (.slice T)) (he:P.underlying T=av (.int .u8)) (n c:Nat):
 (convert t t (.slice (av ⟨b,0,aw⟩) n c)).run P w= .ok (.slice (av ⟨b,0,aw⟩) n c) (World.iT w b (.cells l.toArray T (l.length,l.length+1))):=by
 have Ot:w.shape? b=av (T,l.length):=by
  unfold World.shape?;rw[hb];simp
 have HJ:w.freeze ⟨b,l.length,aw⟩ 1=World.iT w b (.cells l.toArray T (l.length,l.length+1)):=by
  unfold World.freeze World.iT;rw[eg (by decide)];congr 1;apply Ri;intro i;rw[Array.getElem?_modify,Rt];by_cases c:b=i
  ·subst c;have gn:b<w.heap.size:=(Array.getElem?_eq_some_iff.1 hb).1;rw[fc rfl,fc rfl,fc gn,hb];rfl
  ·rw[eg c,eg c]
 simp[convert,Go.run_underlying ht,Go.run_underlying he,markStringish,Ot];exact HJ
def Rel.setIter (R:Rel k L E s w) {n pos pos':Nat} {str:ByteArray} (h:s.get n=av (.iter str pos)) {b:Nat} {sub:List ab} (ht:E.ga[n]? =av (.pointer (av ⟨b,0,aw⟩),sub)):
 w.heap[b]? =av (.stringIter str pos)/\Rel k L E (s.set n (.iter str pos')) (World.iT w b (.stringIter str pos')):=by
 obtain⟨hk,hs,hh⟩:=R.focus h;cases hh with
 |cons ha iU hd hr=>
  rcases ha with⟨e,_⟩|⟨oO,h1,h2⟩
  ·cases e
  ·rw[ht]at h1;cases h1;simp only[fp]at h2;obtain⟨b',e1,rfl⟩:=h2;cases e1;have H:Hp k w (pt b (.stringIter str pos)::((v8 n s.rows).map (gz E)++fz E.F::L)):=⟨hk,_,.cons rfl iU hd hr⟩
   refine⟨H.get,R.nv h ((H.yx (.stringIter str pos')).imp λx hx=> .inr ⟨_,ht,?_⟩)⟩;simp only[fp];exact⟨b,rfl,hx⟩
def Rel.MG (R:Rel k L E s w) {n T sz i f:Nat} {ez:List (List D)} {ds:List D} (h:s.get n=av (.own T sz ez)) (hi:i<ez.length) (hf:f+ds.length<=sz) {b oo m c:Nat} {sub:List ab}
 (ht:E.ga[n]? =av (.slice (av ⟨b,oo,aw⟩) m c,sub)) {ys:List ab} (hy:iy E.F ds ys):
 ∃l:List ab,w.heap[b]? =av (.cells l.toArray T)/\oo+i*sz+f+ys.length<=l.length/\Rel k L E (s.set n (.own T sz (zJ ez i f ds))) (World.iT w b (.cells (kj l (oo+i*sz+f) ys).toArray T)):=by
 obtain⟨a,c',xs,Em,h1,hx,hu,H⟩:=R.su h;rw[ht]at h1;cases h1;rcases H.oD with⟨e,_⟩|⟨b',r,e,h2,h3,h4,H1⟩
 ·cases e
 cases e;obtain⟨Bz,RI⟩:=nD i f ds hu hi hf;have wk:i*sz+sz<=ez.length*sz:=by
  have:=xj sz (show i+1<=ez.length by omega);rwa [zq]at this
 have Dn:=hy.length;refine⟨xs++r,H1.get,by rw[iv];omega,R.nv h ((H1.yx (.cells (kj (xs++r) (0+i*sz+f) ys).toArray T)).imp λx JU=> .inr ⟨_,ht,?_⟩)⟩;simp only[fp];have hlen:(zJ ez i f ds).length=ez.length:=by simp[zJ]
 have CP:kj (xs++r) (0+i*sz+f) ys=kj xs (i*sz+f) ys++r:=by
  simp only[kj,nh];rw[yw (by omega),Hw (by omega)];simp
 refine⟨_,c,kj xs (i*sz+f) ys,by rw[hlen],?_,RI,.inr ⟨b,r,rfl,by rw[JU,CP],?_,?_,by rw[hlen];exact h4⟩⟩
 ·rw[Bz];exact Pk hx hy _
 ·rw[hlen,<- h2];simp only[kj,iv,ng,o8];omega
 ·rw[<- h3];simp only[kj,iv,ng,o8];omega
def yHo {l vs:List ab} {o:Nat} (h:o+vs.length<=l.length) (j:Nat):(kj l o vs)[j]? =if j<o then l[j]? else if j<o+vs.length then vs[j-o]? else l[j]? :=by
 unfold kj;have h1:(l.take o++vs).length=o+vs.length:=by simp;omega
 split
 ·rename_i hj;rw[FC (by omega),FC (by simp;omega),JO,fc hj]
 ·split
  ·rw[FC (by omega),Dg (by simp;omega),ng,Fy (by omega)]
  ·rw[Dg (by omega),h1,Bs];congr 1;omega
def UZ {l vs:List ab} {o p:Nat} {y:ab} (h:o+vs.length<=l.length) (hp:o+vs.length<=p\/p<o):kj (l.set p y) o vs=(kj l o vs).set p y:=by
 apply Dd;intro j;have hlen:(kj l o vs).length=l.length:=by simp[kj];omega
 rw[yHo (by rw[qm];exact h),Ca,Ca,yHo h,hlen];by_cases hj:p=j
 ·subst hj;rw[fc rfl,fc rfl];split
  ·rfl
  ·rw[eg (by omega)]
 ·rw[eg hj,eg hj]
def Rel.DY (R:Rel k L E s w) {n:Nat} {x:py} (h:nP s n=av x):
 ∃a c ys xs sub,E.ga[n]? =av (.slice a x.ez.length c,sub)/\iy E.F x.ez.flatten ys/\(∀el∈x.ez,el.length=x.sz)/\zm E.ga (x.i*x.sz+x.f) x.b ys xs x.m/\Hp k w (oq x.T x.sz a x.ez.length c xs::((v8 n s.rows).map (gz E)++fz E.F::L)):=by
 obtain⟨hk,hs,hh⟩:=R.focus (eR h);cases hh with
 |cons ha iU hd hr=>
  rcases ha with⟨e,_⟩|⟨⟨hv,sub⟩,h1,h2⟩
  ·cases e
  ·simp only[fp]at h2;obtain⟨a,c,ys,xs,rfl,q1,q2,q3,q4⟩:=h2;exact⟨a,c,ys,xs,sub,h1,q1,q2,q3,hk,_,.cons q4 iU hd hr⟩
def yPz {ga:List Hd} {p o:Nat} {b:Bool} {ys xs vs:List ab} (hl:o+vs.length<=ys.length) (hp:b=bv->o+vs.length<=p\/p<o):∀{m:Option Nat},zm ga p b ys xs m->zm ga p b (kj ys o vs) (kj xs o vs) m:=by
 have key:∀{y:ab},xs=(bif b then ys.set p y else ys)->kj xs o vs=bif b then(kj ys o vs).set p y else kj ys o vs:=by
  intro y h;cases b with
  |false=>rw[h];rfl
  |true=>rw[h,cond_true,cond_true];exact UZ hl (hp rfl)
 intro m;cases m with
 |none=>rintro⟨y,e,h⟩;exact⟨y,e,key h⟩
 |some m=>rintro⟨y,l,e1,e2,h⟩;exact⟨y,l,e1,e2,key h⟩
def Rel.MI (R:Rel k L E s w) {n i f:Nat} {x:py} {ds:List D} (h:nP s n=av x) (hi:i<x.ez.length) (hf:f+ds.length<=x.sz) (wm:x.clear i f ds.length) {b oo m c:Nat} {sub:List ab}
 (ht:E.ga[n]? =av (.slice (av ⟨b,oo,aw⟩) m c,sub)) {ys:List ab} (hy:iy E.F ds ys):
 ∃l:List ab,w.heap[b]? =av (.cells l.toArray x.T)/\oo+i*x.sz+f+ys.length<=l.length/\Rel k L E (s.set n (.ug x.q x.T x.sz (zJ x.ez i f ds) x.i x.f x.b x.m)) (World.iT w b (.cells (kj l (oo+i*x.sz+f) ys).toArray x.T)):=by
 obtain⟨a,c',zs,xs,Em,h1,hz,hu,hx,H⟩:=R.DY h;rw[ht]at h1;cases h1;rcases H.oD with⟨e,_⟩|⟨b',r,e,h2,h3,h4,H1⟩
 ·cases e
 cases e;obtain⟨Bz,RI⟩:=nD i f ds hu hi hf;have wk:i*x.sz+x.sz<=x.ez.length*x.sz:=by
  have:=xj x.sz (show i+1<=x.ez.length by omega);rwa [zq]at this
 have Dn:=hy.length;have Dm:=YM hx;refine⟨xs++r,H1.get,by rw[iv];omega,R.nv (eR h) ((H1.yx (.cells (kj (xs++r) (0+i*x.sz+f) ys).toArray x.T)).imp λz RD=> .inr ⟨_,ht,?_⟩)⟩;simp only[fp];have hlen:(zJ x.ez i f ds).length=x.ez.length:=by simp[zJ]
 have CP:kj (xs++r) (0+i*x.sz+f) ys=kj xs (i*x.sz+f) ys++r:=by
  simp only[kj,nh];rw[yw (by omega),Hw (by omega)];simp
 refine⟨_,c,kj zs (i*x.sz+f) ys,kj xs (i*x.sz+f) ys,by rw[hlen],?_,RI,yPz (by omega) (λhb=> ?_) hx,.inr ⟨b,r,rfl,by rw[RD,CP],?_,?_,by rw[hlen];exact h4⟩⟩
 ·rw[Bz];exact Pk hz hy _
 ·rw[Dn];exact yDd hf wm.1 (wm.2 hb)
 ·rw[hlen,<- h2];simp only[kj,iv,ng,o8];omega
 ·rw[<- h3];simp only[kj,iv,ng,o8];omega
def Rel.I6 (R:Rel k L E s w) {n c0:Nat} {q:Bool} {x:py} (h:nP s n=av x) (hi:x.i<x.ez.length) (hf:x.f<x.sz) {b oo m c:Nat} {sub:List ab}
 (ht:E.ga[n]? =av (.slice (av ⟨b,oo,aw⟩) m c,sub)) {y:ab} {ly:List ab} (hc:E.ga[c0]? =av (y,ly)) (hs:∃a n c,y= .slice a n c):
 ∃l:List ab,w.heap[b]? =av (.cells l.toArray x.T)/\oo+x.i*x.sz+x.f+1<=l.length/\Rel k L E (s.set n (.ug q x.T x.sz x.ez x.i x.f bv (av c0))) (World.iT w b (.cells (kj l (oo+x.i*x.sz+x.f) [y]).toArray x.T)):=by
 obtain⟨a,c',zs,xs,Em,h1,hz,hu,hx,H⟩:=R.DY h;rw[ht]at h1;cases h1;rcases H.oD with⟨e,_⟩|⟨b',r,e,h2,h3,h4,H1⟩
 ·cases e
 cases e;have wk:x.i*x.sz+x.sz<=x.ez.length*x.sz:=by
  have:=xj x.sz (show x.i+1<=x.ez.length by omega);rwa [zq]at this
 have Dm:=YM hx;refine⟨xs++r,H1.get,by rw[iv];omega,R.nv (eR h) ((H1.yx (.cells (kj (xs++r) (0+x.i*x.sz+x.f) [y]).toArray x.T)).imp λz RD=> .inr ⟨_,ht,?_⟩)⟩;simp only[fp];have CP:kj (xs++r) (0+x.i*x.sz+x.f) [y]=xs.set (x.i*x.sz+x.f) y++r:=by
  simp only[kj,nh];rw[yw (by omega),Hw (by simp;omega),N',fc (by omega)];simp
 have qj:xs.set (x.i*x.sz+x.f) y=zs.set (x.i*x.sz+x.f) y:=by
  have key:∀{z:ab},xs=(bif x.b then zs.set (x.i*x.sz+x.f) z else zs)->xs.set (x.i*x.sz+x.f) y=zs.set (x.i*x.sz+x.f) y:=by
   intro z h;cases hb:x.b with
   |false=>rw[h,hb];rfl
   |true=>rw[h,hb,cond_true,D8]
  revert hx;cases x.m with
  |none=>rintro⟨z,_,h⟩;exact key h
  |some m=>rintro⟨z,l,_,_,h⟩;exact key h
 refine⟨_,c,zs,xs.set (x.i*x.sz+x.f) y,rfl,hz,hu,⟨y,ly,hc,hs,by rw[cond_true,qj]⟩,.inr ⟨b,r,rfl,by rw[RD,CP],by rw[qm,h2],by rw[<- h3];simp,h4⟩⟩
def z4u {P:af} (R:Rel k L E s w) {t n sz i f:Nat} {x:py} {v:V} {K:V->St->Prop} (hx:nP s n=av x) (h:ZA P t x n sz i f v s K) {yv:ab} (hv:VR E v yv)
 {b oo m c:Nat} {l:List ab} (e1:E.ga[n]? =av (.slice (av ⟨b,oo,aw⟩) m c,l)):∃w',Hm P (storeVar t ⟨b,oo+i*sz+f,aw⟩ yv) w w'/\pg k L E K ag w':=by
 unfold ZA at h;obtain⟨hb,h⟩:=zM h;have e:=ja hb;subst e;have SN:∀{E':Ev},VR E' (.iZ []) ag:=λ{E'}=>by simp only[VR];exact⟨[],rfl,gw.nil⟩
 have gen:∀{s':St} {ds:List D} {mm:Nat},IA P s t v=av (ds,s')->nP s' n=av x->pY P t=av mm->ds.length=mm->i<x.ez.length->f+mm<=x.sz->x.clear i f mm->K (.iZ []) (s'.set n (.ug x.q x.T x.sz (zJ x.ez i f ds) x.i x.f x.b x.m))->
  ∃w',Hm P (storeVar t ⟨b,oo+i*x.sz+f,aw⟩ yv) w w'/\pg k L E K ag w':=by
  intro s' ds mm hd hh hm hl hi hf wm hk;obtain⟨E',ys,q1,q2,q3,q4,q5,q6⟩:=Nn R hd hv;obtain⟨ll,r1,r2,r3⟩:=q3.MI (ds:=ds) (i:=i) (f:=f) hh hi (by omega) (by rw[hl];exact wm) (q1.get e1) q6;have kr:=gG (P:=P) (o:=oo+i*x.sz+f) hm q5 (by rw[q6.length,hl]) (by rw[q6.length,hl]at r2;exact r2) q6.one r1;exact⟨_,kr,E',_,_,q1,r3,SN,hk⟩
 split at h
 ·rename_i c0 vv tt hs;clear hs;split at h<;>first|exact h.elim|skip
  rename_i t2 vj lv hg;have aaF:=zN h;clear h;obtain⟨mm,hm,Tc⟩:=aaF;have hb0:=zM Tc;clear Tc;obtain⟨hb,⟨hi,hf⟩,hq⟩:=hb0;simp only[lj]at hb;have qc:=ja hb.1;subst qc;simp only[VR]at hv;obtain⟨lc,hc,ha⟩:=hv;have wm:yv.cells=[yv].toArray/\∀z∈[yv],z.oh=bv:=by
   obtain⟨a,b,c,rfl⟩:=ha;exact⟨rfl,λz hz=>by rw[uc.1 hz];rfl⟩
  have SP:∀{q:Bool},i=x.i->f=x.f->K (.iZ []) (s.set n (.ug q x.T x.sz x.ez x.i x.f bv (av c0)))->∃w',Hm P (storeVar t ⟨b,oo+i*x.sz+f,aw⟩ yv) w w'/\pg k L E K ag w':=by
   intro q h1 h2 hk;subst h1 h2;obtain⟨ll,r1,r2,r3⟩:=R.I6 (q:=q) hx hi hf e1 hc ha;exact⟨_,gG (P:=P) (o:=oo+x.i*x.sz+x.f) hm wm.1 rfl r2 wm.2 r1,E,_,_,Ev.le.refl _,r3,SN,hk⟩
  split at hq
  ·obtain⟨⟨h1,h2⟩,hk⟩:=hq;exact SP h1 h2 hk
  ·obtain⟨hp,xw,hn⟩:=hq;by_cases zi:i=x.i/\f=x.f
   ·exact SP zi.1 zi.2 (hp zi.1 zi.2)
   ·have hn:=hn zi;split at hn<;>first|exact hn.elim|skip
    rename_i ds s' hd;split at hn<;>first|exact hn.elim|skip
    rename_i y hy;obtain⟨my,rfl,hk⟩:=zM hn;exact gen hd hy hm (ja my) hi (by omega) ⟨xw,λ_ OB=>by
     have:¬f=y.f:=λe=>zi ⟨OB,e⟩
     omega⟩ hk
 ·split at h<;>first|exact h.elim|skip
  rename_i ds s' hd;split at h<;>first|exact h.elim|skip
  rename_i y hy;obtain⟨mm,hm,h⟩:=zN h;obtain⟨my,⟨rfl,hi,hf,wm⟩,hk⟩:=zM h;exact gen hd hy hm (ja my) hi hf wm hk
def Rel.MH (R:Rel k L E s w) {n T i:Nat} {ez:List (List D)} {ds:List D} (h:s.get n=av (.HA T ez)) (hi:i<ez.length) (hf:ds.length=1) {b oo m c:Nat} {sub:List ab}
 (ht:E.ga[n]? =av (.slice (av ⟨b,oo,aw⟩) m c,sub)) {y:ab} (hy:iy E.F ds [y]):
 ∃l:List ab,w.heap[b]? =av (.cells l.toArray T (l.length,l.length+1))/\i<l.length/\Rel k L E (s.set n (.HA T (zJ ez i 0 ds))) (World.iT w b (.cells (l.set (oo+i) y).toArray T (l.length,l.length+1)))/\oo=0:=by
 obtain⟨hk,hs,hh⟩:=R.focus h;obtain⟨b',c',xs,r,q1,q2,q3,q4,H⟩:∃b' c' xs r,(Value.slice (av ⟨b,oo,aw⟩) m c)= .slice (av ⟨b',0,aw⟩) ez.length c'/\iy E.F ez.flatten xs/\(∀el∈ez,el.length=1)/\ez.length<=c'/\Hp k w (pt b' (.cells (xs++r).toArray T ((xs++r).length,(xs++r).length+1))::(((v8 n s.rows).map (gz E))++fz E.F::L)):=by
  cases hh with
  |cons ha iU HK hr=>
   rcases ha with⟨e,_⟩|⟨hv,h1,h2⟩
   ·cases e
   ·rw[ht]at h1;cases h1;simp only[fp]at h2;obtain⟨b',c',xs,r,e1,e2,e3,e4,rfl⟩:=h2;exact⟨b',c',xs,r,e1,e2,e3,e4,hk,_,.cons rfl iU HK hr⟩
 cases q1;obtain⟨Bz,RI⟩:=nD i 0 ds q3 hi (by omega);have CG:xs.length=ez.length*1:=by rw[q2.length,wJ q3]
 have hlen:(zJ ez i 0 ds).length=ez.length:=by simp[zJ]
 refine⟨xs++r,H.get,by rw[iv];omega,R.nv h ((H.yx (.cells ((xs++r).set (0+i) y).toArray T ((xs++r).length,(xs++r).length+1))).imp λx JU=> .inr ⟨_,ht,?_⟩),rfl⟩;simp only[fp];have qj:(xs++r).set (0+i) y=xs.set i y++r:=by rw[nh,List.set_append_left _ _ (by omega)]
 refine⟨b,c,xs.set i y,r,by rw[hlen],?_,RI,by rw[hlen];exact q4,?_⟩
 ·rw[Bz];have e:xs.set i y=kj xs (i*1+0) [y]:=by
   rw[N',fc (by omega)];simp[kj]
  rw[e];exact Pk q2 hy _
 ·rw[qj]at JU;rw[JU];simp
def zXk (F:PH):∀l:List UInt8,iy F (l.map λb=>[D.v (.int .u8 b.toNat)]).flatten (l.map λb=>co .u8 b.toNat)
 |[]=>by simp[iy]
 |b::l=>by
  simp only[jj,A9,ui,xi,iy,DR];exact⟨_,_,rfl,⟨rfl,rfl⟩,zXk F l⟩
def yJu {a b:ac} (h1:a.heap=b.heap) (h2:a.tape=b.tape) (h3:a.drawn=b.drawn) (h4:a.os=b.os) (h5:a.output=b.output):a=b:=by
 cases a;cases b;simp only at h1 h2 h3 h4 h5;subst h1 h2 h3 h4 h5;rfl
def zVj (w:ac) (e:ak) (s:ByteArray):bu w e s=World.iT (w.drew.alloc (.cells (bo w e s) e)) w.heap.size (.cells (bo w e s) e ((bo w e s).size,(bo w e s).size+1)):=by
 have hh:(bu w e s).heap=(World.iT (w.drew.alloc (.cells (bo w e s) e)) w.heap.size (.cells (bo w e s) e ((bo w e s).size,(bo w e s).size+1))).heap:=by
  apply Ri;intro j;have pf:(w.drew.alloc (.cells (bo w e s) e)).heap.size=w.heap.size+1:=by simp[World.alloc,World.drew,-World.alloc_eq,-World.drew_eq]
  simp only[World.iT];rw[Rt];by_cases hj:w.heap.size=j
  ·subst hj;rw[fc rfl,fc (by omega),Lib.bytesWorld_at_new]
  ·rw[eg hj];rcases vh j w.heap.size with h|h
   ·rw[Lib.bytesWorld_at_old w e s j h];have:(w.drew.alloc (.cells (bo w e s) e)).heap[j]? =w.heap[j]? :=by
     simp[World.alloc,World.drew,-World.alloc_eq,-World.drew_eq,Array.getElem?_push,Ne.symm hj]
    rw[this]
   ·rw[Hv (by rw[Lib.bytesWorld_size];omega),Hv (by omega)]
 refine yJu hh ?_ ?_ ?_ ?_<;>(unfold bu World.freeze World.iT;rw[eg (by omega)])
def z7s (R:Rel k L E s w) (b:ByteArray) (e:ak) {K:V->St->Prop} (hk:K (.own s.nx) (s.new (.HA e (jZ b)))):
 pg k L E K (.slice (av ⟨w.heap.size,0,aw⟩) b.size (ao w b.size 0 e)) (bu w e b):=by
 have hl:(jZ b).length=b.size:=by simp[jZ]
 have IU:b.size<=ao w b.size 0 e:=grownCap_ge w b.size 0 e;have H:=((R.hp.drew).new (.cells (bo w e b) e)).yx (.cells (bo w e b) e ((bo w e b).size,(bo w e b).size+1));have hs:w.drew.heap.size=w.heap.size:=rfl;rw[hs,<- zVj]at H;obtain⟨hd,hhd⟩:∃hd:Hd,hd=(.slice (av ⟨w.heap.size,0,aw⟩) b.size (ao w b.size 0 e),[]):=⟨_,rfl⟩
 have hle:E.le ⟨E.F,E.ga++[hd]⟩:=Ev.le.app _;have j':(E.ga++[hd])[s.nx]? =av hd:=by rw[<- R.nx];simp
 refine⟨⟨E.F,E.ga++[hd]⟩,.own s.nx,_,hle,⟨by simp[St.new,R.nx],?_⟩,?_,hk⟩
 ·have H1:Hp k (bu w e b) (s.rows.map (gz E)++(pt w.heap.size (.cells (bo w e b) e ((bo w e b).size,(bo w e b).size+1))::fz E.F::L)):=H.perm (mh (l₁:=s.rows.map (gz E))).symm;have H2:=vG (λr x=>gz.mono hle r) H1;have H3:Hp k (bu w e b) (pt w.heap.size (.cells (bo w e b) e ((bo w e b).size,(bo w e b).size+1))::(s.rows.map (gz ⟨E.F,E.ga++[hd]⟩)++fz E.F::L)):=H2.perm mh;refine H3.imp λx hx=> .inr ⟨hd,j',?_⟩
  simp only[fp];refine⟨w.heap.size,ao w b.size 0 e,b.data.toList.map λ(c:UInt8)=>co .u8 c.toNat,bc (ao w b.size 0 e-b.size) (co .u8 0),by rw[hhd,hl],?_,?_,by rw[hl];exact IU,?_⟩
  ·exact zXk _ _
  ·simp[jZ]
  ·have hx:x=one w.heap.size _:=hx;rw[hx];have ec:bo w e b=(b.data.toList.map (λ(c:UInt8)=>co .u8 c.toNat)++bc (ao w b.size 0 e-b.size) (co .u8 0)).toArray:=by
    apply cq;simp[bo]
   rw[ec];simp
 ·simp only[VR];exact⟨[],by rw[j',hhd],_,_,_,rfl⟩
def z7v (R:Rel k L E s w) {sz:Nat} {v:V} {ez:List (List D)} (h:z0v s sz v=av ez) {y:ab} (hv:VR E v y):
 ∃ys,Src sz w y ez.length ys/\iy E.F ez.flatten ys/\∀el∈ez,el.length=sz:=by
 unfold z0v at h;split at h
 ·cases h;simp only[VR,DR]at hv;obtain⟨rfl,_⟩:=hv;exact⟨[],.inl ⟨aw,0,rfl,pe,.inl ⟨rfl,rfl,rfl⟩,Sub.pe w⟩,by simp[iy],by simp⟩
 ·rename_i b;obtain⟨hb,h⟩:=pG h;have:=ja hb;subst this;cases h;simp only[VR,DR]at hv;obtain⟨rfl,_⟩:=hv;refine⟨b.data.toList.map λb=> .int .u8 b.toNat,.inr ⟨b,rfl,rfl,by simp[jZ],rfl⟩,?_,?_⟩
  ·unfold jZ;generalize b.data.toList=l
   induction l with
   |nil=>simp[iy]
   |cons a l ih=>simp only[jj,A9,ui,xi,iy,DR];exact⟨_,_,rfl,⟨rfl,rfl⟩,ih⟩
  ·intro el oV;unfold jZ at oV;obtain⟨x,_,rfl⟩:=oe.1 oV;rfl
 ·split at h<;>first|(cases h;done)|skip
  rename_i oA lg hd;obtain⟨hb,hh⟩:=pG h;clear h;have:=ja hb;subst this;cases hh;obtain⟨a,c,xs,rfl,h2,h3,h4,h5⟩:=mE R hv hd;exact⟨xs,.inl ⟨a,c,rfl,h5⟩,h3,h4⟩
def zVm (R:Rel k L E s w) {t1 t2 rt:Nat} {x y:V} {xr yr:ab} (hx:VR E x xr) (hy:VR E y yr) {K:V->St->Prop} (h:YA P t1 t2 s x y K):
 ∃v w',g7 P (Builtin.append_ #[t1,t2] rt #[xr,yr]) w v w'/\pg k L E K v w':=by
 unfold YA at h;obtain⟨i,hi,h⟩:=zN h;obtain⟨hb,h⟩:=zM h;simp only[lj]at hb;obtain⟨lg,Et,h⟩:=zN h;obtain⟨z,q1,q2,q3,q4⟩:=cA hi;obtain⟨ys,KE,HD,huy⟩:=z7v R Et hy;have EY:0<i.oC:=by simpa[yj]using hb.2
 split at h<;>first|exact h.elim|skip
 ·obtain⟨hlen,hk⟩:=h;simp only[VR,DR]at hx;obtain⟨rfl,_⟩:=hx;obtain⟨a',c',w',jh,H⟩:=(R.hp.nil i.e i.sz).append (P:=P) (rt:=rt) q1 hb.1 KE HD.one (by rw[q2]) EY (by simpa using hlen);simp only[nh,xi]at jh H;obtain⟨E',r1,r2,r3⟩:=aH R.nx HD huy H;exact⟨_,w',jh,E',_,_,r1,r2,r3,hk⟩
 ·rename_i n;split at h<;>first|exact h.elim|skip
  rename_i T sz ez hg;obtain⟨my,hlen,hk⟩:=zM h;simp only[lj]at my;have e1:=ja my.1;have e2:=ja my.2;subst e1 e2;obtain⟨a,c,xs,sub,h1,wg,hu,H⟩:=R.su hg;simp only[VR]at hx;obtain⟨l,hx,_⟩:=hx;rw[h1]at hx;cases hx;obtain⟨a',c',w',jh,H⟩:=H.append (P:=P) (rt:=rt) q1 hb.1 KE HD.one (by rw[q2]) EY hlen;obtain⟨E',r1,r2,r3⟩:=aH (ez:=ez++lg) R.nx (by rw[N6];exact wg.append HD) (λel oV=>by
   rcases oK.1 oV with h|h
   ·exact hu el h
   ·exact huy el h) (by rw[iv];exact H)
  rw[iv]at r3;exact⟨_,w',jh,E',_,_,r1,r2,r3,hk⟩
def Rel.MP {E:Ev} {s:St} (R:Rel k L E s w) {sz:Nat} {ez:List (List D)} {y:ab} (h:DR E.F (.ro sz ez) y):∃E',E.le E'/\Rel k L E' (s.new (.kg sz ez)) w/\E'.ga[s.nx]? =av (y,[]):=by
 have hle:E.le ⟨E.F,E.ga++[(y,[])]⟩:=Ev.le.app _;have j':(E.ga++[((y,[]):Hd)])[s.nx]? =av (y,[]):=by rw[<- R.nx];simp
 refine⟨_,hle,⟨by simp[St.new,R.nx],?_⟩,j'⟩;have H2:=vG (λr x=>gz.mono hle r) R.hp;have:=(@h9 k w True _).2 ⟨trivial,H2⟩;exact this.imp λx hx=> .inr ⟨_,j',by simp only[fp];exact⟨hx.2,h⟩⟩
def Vm:∀{vs:List V} {s:St} {K:List V->St->Prop} {E:Ev} {l:List ab},Nm vs s K->Rel k L E s w->gw E vs l->∃E' Ar s',E.le E'/\Rel k L E' s' w/\gw E' Ar l/\K Ar s'
 |[],s,K,E,l,h,R,hv=>⟨E,[],s,Ev.le.refl _,R,hv,h⟩
 |v::vs,s,K,E,l,h,R,hv=>by
  simp only[Nm]at h;simp only[gw]at hv;obtain⟨x,xs,rfl,h1,h2⟩:=hv;split at h
  ·rename_i sz ez;simp only[VR]at h1;obtain⟨E1,q1,q2,q3⟩:=R.MP h1;obtain⟨E2,Ar,s',r1,r2,r3,r4⟩:=Vm h q2 (h2.mono q1);refine⟨E2,_,s',q1.trans r1,r2,?_,r4⟩;simp only[gw,VR];simp only[DR]at h1;obtain⟨a,c,e,_⟩:=h1;exact⟨x,xs,rfl,⟨[],r1.get q3,a,_,c,e⟩,r3⟩
  ·obtain⟨E2,Ar,s',r1,r2,r3,r4⟩:=Vm h R h2;exact⟨E2,_,s',r1,r2,by simp only[gw];exact⟨x,xs,rfl,h1.mono r1,r3⟩,r4⟩
def pg.up {E E':Ev} (h:E.le E') {K:V->St->Prop} {y:ab} {w':ac}:pg k L E' K y w'->pg k L E K y w':=λ⟨E2,v,s',h1,h2⟩=>⟨E2,v,s',h.trans h1,h2⟩
def z3y {H:BE} (hH:IE P H) (R:Rel k L E s w) {f:aq} {args:List V} {ys:List ab} {K:V->St->Prop} (h:yNn H f args s K) (hv:gw E args ys):nf P (aj f ys.toArray) w (pg k L E K):=by
 unfold yNn at h;split at h
 ·rename_i n i rest;split at h<;>first|exact h.elim|skip
  rename_i t T m ix l hg;obtain⟨x,hx,h⟩:=h;simp only[gw]at hv;obtain⟨y,ys,rfl,h1,h2⟩:=hv;have BB:=h1;obtain⟨E1,hle,R1,HE,l0,ht⟩:=R.IX hg hx h1;have Oq:gw E1 (.nm s.nx 0::rest) (y::ys):=by simp only[gw];exact⟨_,_,rfl,HE,h2.mono hle⟩
  refine(hH f _ _ _ h k L E1 w _ R1 Oq).mono ?_;rintro r w' ⟨E',v,s',ji,R',RH,hk⟩;unfold y2m at hk;split at hk<;>first|exact hk.elim|skip
  rename_i o ha;split at hk<;>first|exact hk.elim|skip
  rename_i t' T' m' aa5 l' j hn;obtain⟨x',rfl,rfl,hi,hk⟩:=hk;simp only[VR]at BB;obtain⟨hd,aa6,b,oo,e1,e2,e3⟩:=BB;have e1':=(hle.trans ji).get e1;have R2:=R'.I5 ha hn hi (ji.get ht) (λv sub hs=>by rw[e1']at hs;cases hs;exact e2);exact⟨E',v,_,hle.trans ji,R2,RH,hk⟩
 ·exact hH f _ s K h k L E w _ R hv
def zYw {E:Ev} {ps:List (Nat×V)} {qs:List (Nat×ab)} {m:Nat} (h:Yl ps=av m) (hp:Cm E ps qs):∃y,qs=[(0,y)]/\VR E (.nm m 0) y:=by
 unfold Yl at h;split at h<;>first|(cases h;done)|skip
 cases h;simp only[Cm]at hp;obtain⟨y,ys,rfl,h1,rfl⟩:=hp;exact⟨y,rfl,h1⟩
def z0g (R:Rel k L E s w) {t:ak} {i:SlI} (hi:pZ P t=av i) (pf:i.sz=1) {m:Nat} {T:Type} {mm:Nat} {ix:T->Nat->fj} {x:T} (hg:s.get m=av (.ra T mm ix x)) {qs:List (Nat×ab)}
 (hp:∃y,qs=[(0,y)]/\VR E (.nm m 0) y) {K:V->St->Prop} (hk:K (.own s.nx) ((s.del m).new (.jz i.e T mm ix [x] aw))):
 ∃v w',(Instr.buildSlice t 1 qs.toArray).run P w= .ok v w'/\pg k L E K v w':=by
 obtain⟨y,rfl,hv⟩:=hp;simp only[VR]at hv;obtain⟨b,oo,l0,e1,rfl⟩:=hv;obtain⟨z,q1,q2,q3,q4⟩:=cA hi;obtain⟨inf,zv,p1,p2,p3,p4,p5,p6⟩:=jF q1;have Mu:L8 P t 1 #[(0,cn (av ⟨b,oo+0,aw⟩))]=av (i.e,#[cn (av ⟨b,oo,aw⟩)]):=by
  unfold L8;simp only[p1,p2];rw[eg (by rw[p3,pf];omega)];have hz:(if 1*inf.size=0 then av #[]else inf.zero.map Value.cells)=av z:=by
   rw[eg (by rw[p3,pf];omega),p5,we,p6]
  rw[hz];simp only;have AH:Hq z (1*inf.size)=z:=by
   rw[p3,pf];have LP:z.size=1:=by rw[q2,pf]
   apply cq;have:=eG (z:=z.toList) 1;rw[Rk,show z.toList.length=1 by simp[LP]]at this;simpa using this
  rw[AH,p3,pf];have LP:z.toList.length=1:=by simp[q2,pf]
  obtain⟨z0,hz0⟩:∃z0,z= #[z0]:=by
   match Dm:z.toList,LP with
   |[a],_=>exact⟨a,by apply cq;simpa using Dm⟩
  subst hz0;simp[Instr.fill,Value.cells]
 refine⟨_,_,pE Mu w,?_⟩;have R1:=R.take hg;have H:=(R1.hp.new (.cells #[cn (av ⟨b,oo,aw⟩)] i.e)).lit (l:=[cn (av ⟨b,oo,aw⟩)]) (sz:=1) (n:=1) rfl;have H1:Hp k (w.alloc (.cells #[cn (av ⟨b,oo,aw⟩)] i.e)) (gz E (m,.ra T mm ix x)::oq i.e 1 (av ⟨w.heap.size,0,aw⟩) 1 1 [cn (av ⟨b,oo,aw⟩)]::((s.del m).rows.map (gz E)++fz E.F::L)):=by
  refine H.perm ?_;refine(cf _ ?_).trans (.swap _ _ _);exact(cd _ (.swap _ _ _)).trans mh
 have H2:=(H1.imp λq hq=>zNy e1 hq).swap;have H3:Hp k (w.alloc (.cells #[cn (av ⟨b,oo,aw⟩)] i.e)) (oq i.e 1 (av ⟨w.heap.size,0,aw⟩) [x].length 1 [cn (av ⟨b,oo,aw⟩)]::((ba [x].length).map (x5 E.F T mm ix [x] [cn (av ⟨b,oo,aw⟩)] aw)++((s.del m).rows.map (gz E)++fz E.F::L))):=by
  have H3:=H2.swap.imp (B:=x5 E.F T mm ix [x] [cn (av ⟨b,oo,aw⟩)] aw 0) λq hq=>by
   unfold x5;rw[eg (by simp)];exact⟨x,_,l0,rfl,rfl,hq⟩
  exact H3.swap
 obtain⟨E2,t1,t2,t3⟩:=zLh (l:=[x]) (by simpa[St.del]using R.nx) rfl (λp hp=>by rw[uc.1 hp];exact⟨_,_,rfl⟩) H3;exact⟨E2,_,_,t1,t2,t3,hk⟩
def zTb (R:Rel k L E s w) {t1 t2 rt:Nat} {x y:V} {xr yr:ab} (hx:VR E x xr) (hy:VR E y yr) {K:V->St->Prop} (h:YN P t1 t2 s x y K):
 ∃v w',(Builtin.append_ #[t1,t2] rt #[xr,yr]).run P w= .ok v w'/\pg k L E K v w':=by
 unfold YN at h;split at h<;>first|exact h.elim|skip
 rename_i n2;split at h<;>first|exact h.elim|skip
 rename_i t2' T2 m2 vu l2 Av;obtain⟨i,hi,h⟩:=zN h;obtain⟨hb,h⟩:=zM h;simp only[lj]at hb;have EY:0<i.oC:=by simpa[yj]using hb.1.2
 have pf:=ja hb.2;obtain⟨z,q1,q2,q3,q4⟩:=cA hi;rw[pf]at q1 q2;obtain⟨a2,c2,tc,g1,g2,g3,H⟩:=Vb R Av;simp only[VR]at hy;obtain⟨ly,hy,_⟩:=hy;rw[g1]at hy;cases hy;have Et:Src 1 w (.slice a2 l2.length c2) l2.length tc:= .inl ⟨a2,c2,rfl,by obtain⟨q,hq,hs⟩:=H.sat;exact⟨q,nN hq,hs⟩⟩;have Eu:∀v∈tc,v.oh=bv:=λv hv=>by obtain⟨_,_,rfl⟩:=g3 v hv;rfl
 split at h<;>first|exact h.elim|skip
 ·obtain⟨hlen,hk⟩:=h;simp only[VR,DR]at hx;obtain⟨rfl,_⟩:=hx;obtain⟨a',c',w',jh,H1⟩:=(H.nil i.e 1).append (P:=P) (rt:=rt) q1 hb.1.1 Et Eu q2 EY (by simpa using hlen);simp only[nh,xi]at jh H1;have H2:=H1.swap.drop;obtain⟨E',r1,r2,r3⟩:=zLh (rows:=v8 n2 s.rows) R.nx g2 g3 H2;exact⟨_,w',jh,E',_,_,r1,r2,r3,hk⟩
 ·rename_i n Ot aa7;split at h<;>first|exact h.elim|skip
  rename_i t1' T1 m1 SF l1 hg1;obtain⟨yy,he1,hlen,hk⟩:=h;rw[he1]at hg1;have R1:=R.take Av;obtain⟨a1,c1,BI,f1,f2,f3,H1⟩:=Vb R1 hg1;simp only[VR]at hx;obtain⟨lx,hx,_⟩:=hx;rw[f1]at hx;cases hx;obtain⟨a',c',w',jh,H2⟩:=H1.append (P:=P) (rt:=rt) q1 hb.1.1 Et Eu q2 EY hlen;have p1:(be (x5 E.F T2 m2 vu yy BI aw) (ba yy.length)++(be (gz E) (v8 n (s.del n2).rows)++fz E.F::gz E (n2,fj.jz t2' T2 m2 vu l2 aw)::L)).Perm
   (gz E (n2,fj.jz t2' T2 m2 vu l2 aw)::(be (x5 E.F T2 m2 vu yy BI aw) (ba yy.length)++(be (gz E) (v8 n (s.del n2).rows)++fz E.F::L))):=
   (cd _ ((cd _ (.swap _ _ _)).trans mh)).trans mh
  have H3:=(H2.cons p1).swap;have H4:Hp k w' (Sl (oq t2' 1 a2 l2.length c2 tc) (hS ((ba l2.length).map (x5 E.F T2 m2 vu l2 tc aw)))::oq i.e 1 a' (yy.length+l2.length) c' (BI++tc)::(be (x5 E.F T2 m2 vu yy BI aw) (ba yy.length)++(be (gz E) (v8 n (s.del n2).rows)++fz E.F::L))):=
   H3.imp λq hq=>by
    rcases hq with⟨e,_⟩|⟨hd,h1,h2⟩
    ·cases e
    ·rw[g1]at h1;cases h1;obtain⟨a3,c3,e3,_,_,e4⟩:=qw.1 h2;cases e3;exact e4
  have H5:=qv.1 (uv.1 H4).drop;have H6:Hp k w' (oq i.e 1 a' (yy++l2).length c' (BI++tc)::((ba (yy++l2).length).map (x5 E.F T2 m2 vu (yy++l2) (BI++tc) aw)++((v8 n (s.del n2).rows).map (gz E)++fz E.F::L))):=by
   have H7:Hp k w' ((ba yy.length).map (x5 E.F T2 m2 vu yy BI aw)++((ba l2.length).map (x5 E.F T2 m2 vu l2 tc aw)++(oq i.e 1 a' (yy.length+l2.length) c' (BI++tc)::((v8 n (s.del n2).rows).map (gz E)++fz E.F::L)))):=by
    refine H5.perm ?_;refine(cd _ (mh.symm)).trans ?_;rw[<- iY,<- iY];exact ce _ Bu
   have H8:=yOu f2 H7;rw[iv]at H8 ⊢;exact H8.perm mh
  obtain⟨E',r1,r2,r3⟩:=zLh (rows:=v8 n (s.del n2).rows) (by simpa[St.del]using R1.nx) (by rw[iv,iv,f2,g2]) (λp hp=>by
   rcases oK.1 hp with h|h
   ·exact f3 p h
   ·exact g3 p h) H6
  rw[iv]at r3;exact⟨_,w',jh,E',_,_,r1,r2,r3,hk⟩
def z7i {H:BE} {E:Ev} {s:St} {w:ac} (R:Rel k L E s w) {ρS:xD} {ρ:Env} (he:kx E ρS ρ) {o:ap} {K:V->St->Prop} {t:ak} {x:au} {lo hi:Option au} (ho:o.op= .slice t x lo hi aw) (h:se P H o ρS s K):
 ∃y,Fj P (ae (ev ρ) o) y/\pg k L E K y w:=by
 simp only[se,ho]at h;split at h<;>first|exact h.elim|skip
 rename_i n wg;have hx:=he.ev x;rw[wg]at hx;have ro:∀{E':Ev} {s':St} {sz:Nat} {ez:List (List D)} {l u:Option Int} {K':V->Prop},E.le E'->Rel k L E' s' w->DR E'.F (.ro sz ez) (ev ρ x)->gU P t=av sz->Hf ρS lo=av l->Hf ρS hi=av u->NL sz ez l u K'->(∀v,K' v->K v s')->
  ∃y,Fj P (ae (ev ρ) o) y/\pg k L E K y w:=by
  intro E' s' sz ez l u K' hle R' hdr hs h1 h2 yo hk;obtain⟨a,c,v,e1,Ix,aaR⟩:=hdr.Gp yo;have hp:bM P o ρ (λy=>VR E' v y):=by
   simp only[bM,ho,e1,hs,dD he h1,dD he h2,EE];exact z2s (λp n c hh=>hh E' rfl) aaR
  obtain⟨y,hy,hf⟩:=fV hp;exact⟨y,hf,E',v,s',hle,R',hy,hk v Ix⟩
 split at h<;>first|exact h.elim|skip
 ·rename_i T sz ez hg;obtain⟨oA,hs,h⟩:=zN h;obtain⟨hb,hh⟩:=zM h;clear h;have e:=ja hb;subst e;obtain⟨l,u,h1,h2,h⟩:=sL hh;clear hh;cases l with
  |none=>
   obtain⟨a,c,xs,sub,q1,q2,q3,H⟩:=R.su hg;have XG:=hx;simp only[VR]at hx;obtain⟨Em,hx,_⟩:=hx;rw[q1]at hx;have hev:ev ρ x= .slice a ez.length c:=((Prod.mk.inj (cm hx)).1).symm;have hnc:ez.length<=c:=H.len.2;cases u with
   |none=>
    have hp:bM P o ρ (λy=>VR E (.own n) y):=by
     simp only[bM,ho,hev,hs,dD he h1,dD he h2,EE,tr];exact⟨hnc,by rw[hev]at XG;exact XG⟩
    obtain⟨y,hy,hf⟩:=fV hp;exact⟨y,hf,E,_,s,Ev.le.refl _,R,hy,h⟩
   |some u=>
    obtain⟨⟨h3,h4⟩,hk⟩:=h;have hux:(ez.take u.toNat).length=u.toNat:=by rw[ng];omega
    have H2:Hp k w (oq T sz a (ez.take u.toNat).length c (xs.take (u.toNat*sz))::((v8 n s.rows).map (gz E)++fz E.F::L)):=by
     refine H.imp λz hz=> ?_
     rw[hux];rcases hz with⟨rfl,z1,rfl,rfl,rfl⟩|⟨b,r,rfl,rfl,z2,z3,z4⟩
     ·left;exact⟨rfl,by omega,rfl,by simp,rfl⟩
     ·right;have hle:u.toNat*sz<=ez.length*sz:=xj _ (by omega);refine⟨b,xs.drop (u.toNat*sz)++r,rfl,?_,?_,?_,by omega⟩
      ·rw[<- iY,Bb]
      ·rw[ng];omega
      ·rw[<- iY,Bb];exact z3
    obtain⟨E',r1,r2,r3⟩:=aH (ez:=ez.take u.toNat) R.nx (by rw[<- sM _ q3];exact q2.take _) (λel oV=>q3 el (N8 oV)) H2;have hp:bM P o ρ (λy=>VR E' (.own s.nx) y):=by
     simp only[bM,ho,hev,hs,dD he h1,dD he h2,EE,tr];rw[hux]at r3;exact⟨⟨h3,by omega⟩,r3⟩
    obtain⟨y,hy,hf⟩:=fV hp;exact⟨y,hf,E',_,_,r1,r2,hy,hk⟩
  |some l=>
   have HJ:=Pf R (v:= .own n) (d:= .ro sz ez) (s':=s.set n (.kg sz ez)) (by simp only[Lu,hg]) hx;obtain⟨E',r1,r2,r3,r4,r5⟩:=HJ;exact ro r1 r3 r5 hs h1 h2 h (λv hv=>hv)
 ·rename_i sz ez hg;obtain⟨oA,hs,h⟩:=zN h;obtain⟨hb,hh⟩:=zM h;clear h;have e:=ja hb;subst e;obtain⟨l,u,h1,h2,h⟩:=sL hh;clear hh;have HJ:=Pf R (v:= .own n) (d:= .ro sz ez) (s':=s) (by simp only[Lu,hg]) hx;obtain⟨E',r1,r2,r3,r4,r5⟩:=HJ;exact ro r1 r3 r5 hs h1 h2 h (λv hv=>hv)
def z3f {H:BE} (hH:IE P H) (R:Rel k L E s w) {ρS:xD} {ρ:Env} (he:kx E ρS ρ) {o:ap} {K:V->St->Prop} (h:se P H o ρS s K):nf P (ae (ev ρ) o) w (pg k L E K):=by
 cases ho:o.op
 case alloc e=>
  simp only[se,ho]at h;obtain⟨z,hz,h⟩:=zN h;obtain⟨hb,hk⟩:=zM h;obtain⟨l,hl,hv⟩:=VR.cells (E:=E) hb (O4 E z);simp only[ae,ho];refine yH (v:= .pointer (av ⟨w.heap.size,0,aw⟩)) (w':=w.alloc (.cells z.cells e)) ?_ ?_
  ·simp only[Instr.alloc,bind,pure,run_bind,lz (cW hz),cr,zTv]
  ·refine Vj (hd:=(.pointer (av ⟨w.heap.size,0,aw⟩),[])) R ?_ (λhg=> ?_) hk
   ·simp only[fp];exact⟨_,l,rfl,gw.mono (Ev.le.app _) hv,by rw[hl]⟩
   ·simp only[VR];exact⟨_,0,_,hg,rfl⟩
 case box e x=>
  simp only[se,ho]at h;obtain⟨hb,hk⟩:=zM h;obtain⟨l,hl,hv⟩:=VR.cells (E:=E) hb (he.ev x);obtain⟨E1,us,s1,xd,R1,hv,hk⟩:=Vm hk R hv;simp only[ae,ho];refine yH (v:= .pointer (av ⟨w.heap.size,0,aw⟩)) (w':=w.alloc (.cells (ev ρ x).cells e)) rfl (pg.up xd ?_);refine Vj (hd:=(.pointer (av ⟨w.heap.size,0,aw⟩),[])) R1 ?_ (λhg=> ?_) hk
  ·simp only[fp];exact⟨_,l,rfl,gw.mono (Ev.le.app _) hv,by rw[hl]⟩
  ·simp only[VR];exact⟨_,0,_,hg,rfl⟩
 case buildSlice t len ps=>
  simp only[se,ho]at h;split at h
  ·rename_i m hm;split at h<;>first|exact h.elim|skip
   rename_i T mm ix x hg;obtain⟨i,hi,h⟩:=zN h;obtain⟨hb,hk⟩:=zM h;simp only[lj]at hb;have qc:=ja hb.1;have my:=ja hb.2;subst my;obtain⟨v,w',hr,CR⟩:=z0g R hi qc hg (hp:=zYw hm (VV he ps.toList)) hk;simp only[ae,ho];refine yH ?_ CR;have Cf:(ps.map λ(x:Nat×au)=>(x.1,ev ρ x.2))=(ps.toList.map λp=>(p.1,ev ρ p.2)).toArray:=by apply cq;simp
   rw[Cf];exact hr
  obtain⟨i,hi,h⟩:=zN h;obtain⟨hb,h⟩:=zM h;split at h<;>first|exact h.elim|skip
  rename_i ez s' hf;obtain⟨z,q1,q2,q3,q4⟩:=cA hi;obtain⟨inf,zv,p1,p2,p3,p4,p5,p6⟩:=jF q1;have OD:iy E.F (bc len i.z).flatten (Hq z (len*i.sz)).toList:=by
   rw[<- q2,show z.size=z.toList.length by simp];have:=eG (z:=z.toList) len;rw[Rk]at this;rw[this];exact z1l (q4 E.F) len
  obtain⟨E',CJ,r1,r2,r3,r4,r5,r6,r7,r8⟩:=z5n R hf (VV he ps.toList) (Pp q3) OD;have Mu:L8 P t len (ps.map λ(i,x)=>(i,ev ρ x))=av (i.e,CJ.toArray):=by
   unfold L8;simp only[p1,p2];rw[eg (by rw[p3];have:=Cc hb;omega)];have hz:(if len*inf.size=0 then av #[]else inf.zero.map Value.cells)=av (if len*inf.size=0 then #[]else z):=by
    split
    ·rfl
    ·rw[p5,we,p6]
   have AH:Hq (if len*inf.size=0 then #[]else z) (len*inf.size)=Hq z (len*i.sz):=by
    rw[p3];by_cases h0:len*i.sz=0
    ·rw[fc h0,h0];rfl
    ·rw[eg h0]
   rw[hz];simp only;rw[AH];simp only[p3];rw[Rk]at r8;have Cf:(ps.map λ(x:Nat×au)=>(x.1,ev ρ x.2)).toList=ps.toList.map λp=>(p.1,ev ρ p.2):=by simp
   rw[Cf,r8];rfl
  simp only[ae,ho];refine yH (pE Mu w) ?_;have hlen:ez.length=len:=by rw[r6,FB]
  have CG:CJ.length=ez.length*i.sz:=by rw[r7.length,wJ r5]
  have H:=(r3.hp.new (.cells CJ.toArray i.e)).lit CG;obtain⟨E2,t1,t2,t3⟩:=aH r3.nx r7 r5 H;rw[hlen]at t3;exact⟨E2,_,_,r1.trans t1,t2,t3,h⟩
 case makeMap t r=>
  cases r with
  |some r=>simp only[se,ho]at h
  |none=>
   simp only[se,ho]at h;simp only[ae,ho];refine yH (v:= .map (av w.heap.size)) (w':=w.alloc (.map #[] 0)) rfl ?_;refine Vj (hd:=(.map (av w.heap.size),[])) R ?_ (λhg=> ?_) h
   ·simp only[fp];exact⟨_,[],0,rfl,by simp only[MR],yQr,rfl⟩
   ·simp only[VR];exact⟨_,_,hg,rfl⟩
 case makeSlice t l c=>
  simp only[se,ho]at h;split at h<;>first|exact h.elim|skip
  rename_i kl l' kc c' hl hc;obtain⟨i,hi,Ci,hk⟩:=zN h;obtain⟨z,q1,q2,q3,q4⟩:=cA hi;have el:=he.ev l;have ec:=he.ev c;rw[hl]at el;rw[hc]at ec;simp only[ae,ho,el.Ep,ec.Ep];refine yH (zUn q1 Ci w) ?_;have AH:(madeCells z (c'.toNat*i.sz)).toList=(bc c'.toNat z.toList).flatten:=by
   have:=eG (z:=z.toList) c'.toNat;rw[Rk,show z.toList.length=i.sz by simp[q2]]at this;rw[<- this,<- YJ];rfl
  have o5:bc c'.toNat z.toList=bc l'.toNat z.toList++bc (c'.toNat-l'.toNat) z.toList:=by
   rw[List.replicate_append_replicate];congr 1;omega
  have hx:iy E.F (bc l'.toNat i.z).flatten (bc l'.toNat z.toList).flatten:=z1l (q4 E.F) _;have Dm:z.toList.length=i.sz:=by simp[q2]
  have H:=R.hp.new (.cells (madeCells z (c'.toNat*i.sz)) i.e);have F3:madeCells z (c'.toNat*i.sz)=((bc l'.toNat z.toList).flatten++(bc (c'.toNat-l'.toNat) z.toList).flatten).toArray:=by
   apply cq;rw[AH,o5,N6]
  rw[F3]at H ⊢;have H2:=H.AE (n:=l'.toNat) (c:=c'.toNat) (sz:=i.sz) (by rw[wJ (Pp Dm),FB]) (by
   rw[iv,wJ (Pp Dm),wJ (Pp Dm),FB,FB,<- zp];congr 1;omega) (by omega)
  obtain⟨E2,t1,t2,t3⟩:=aH (ez:=bc l'.toNat i.z) R.nx hx (Pp q3) (by rw[FB];exact H2);rw[FB]at t3;exact⟨E2,_,_,t1,t2,t3,hk⟩
 case store t x v=>
  simp only[se,ho]at h;have hx:=he.ev x;split at h<;>first|exact h.elim|skip
  ·rename_i n off wg;rw[wg]at hx;simp only[VR]at hx;obtain⟨b,oo,sub,e1,e2⟩:=hx;obtain⟨XR,h⟩:=zM h;obtain⟨lv,Ee,RG⟩:=VR.cells XR (he.ev v);obtain⟨E1,us,s1,xd,R1,RG,h⟩:=Vm h R RG;have e1:=xd.get e1;split at h<;>first|exact h.elim|skip
   rename_i vs T hg;obtain⟨m,hm,h⟩:=zN h;obtain⟨hb,hk⟩:=zM h;simp only[lj]at hb;obtain⟨⟨qc,my⟩,Dr⟩:=hb;have qc:=ja qc;have my:=Cc my;obtain⟨b',l,Em,q1,q2,q3⟩:=R1.cells hg;rw[e1]at q1;cases q1;have h1:=q2.length;have h2:=RG.length;have kr:=gG (P:=P) (o:=0+off) hm Ee (by rw[h2,qc]) (by omega) (z3a Dr RG) q3;simp only[ae,ho,e2];refine vD kr ⟨E1,_,_,xd,R1.setCells hg e1 (Ar:=vs.take off++(us++vs.drop (off+m))) ?_,?_,hk⟩
   ·unfold kj;rw[iY,nh,h2,qc];exact(q2.take off).append (RG.append (q2.drop _))
   ·simp only[VR];exact⟨[],rfl,gw.nil⟩
  ·rename_i n sz i f wg;split at h
   ·rename_i xh hxh;rw[wg]at hx;simp only[VR]at hx;obtain⟨b,oo,mm,c,sub,e1,e2⟩:=hx;obtain⟨w',kr,oG⟩:=z4u R hxh h (he.ev v) e1;simp only[ae,ho,e2];exact vD kr oG
   split at h<;>first|exact h.elim|skip
   rename_i ds s' hd;split at h<;>first|exact h.elim|skip
   rename_i T oA ez hg;obtain⟨m,hm,h⟩:=zN h;obtain⟨hb,hi,hk⟩:=zM h;simp only[lj]at hb;obtain⟨⟨qc,my⟩,Dr⟩:=hb;have e:=ja qc;subst e;have my:=ja my;have Dr:=Cc Dr;obtain⟨E',ys,q1,q2,q3,q4,q5,q6⟩:=Nn R hd (he.ev v);rw[wg]at hx;simp only[VR]at hx;obtain⟨b,oo,mm,c,sub,e1,e2⟩:=hx;obtain⟨l,r1,r2,r3⟩:=q3.MG (ds:=ds) (f:=f) hg hi (by omega) (q1.get e1) q6;have kr:=gG (P:=P) (o:=oo+i*sz+f) hm q5 (by rw[q6.length,my]) (by rw[q6.length,my]at r2;exact r2) q6.one r1;simp only[ae,ho,e2];exact vD kr ⟨E',_,_,q1,r3,by simp only[VR];exact⟨[],rfl,gw.nil⟩,hk⟩;rename_i T ez hg;obtain⟨m,hm,h⟩:=zN h;obtain⟨hb,hi,hk⟩:=zM h;simp only[lj]at hb;obtain⟨⟨⟨qc,my⟩,Dr⟩,XW⟩:=hb;have qc:=ja qc;have my:=ja my;have Dr:=ja Dr;have XW:=ja XW;subst qc Dr XW;obtain⟨E',ys,q1,q2,q3,q4,q5,q6⟩:=Nn R hd (he.ev v);rw[wg]at hx;simp only[VR]at hx;obtain⟨b,oo,mm,c,sub,e1,e2⟩:=hx;have Dn:=q6.length;obtain⟨y,rfl⟩:∃y,ys=[y]:=List.length_eq_one_iff.1 (by omega);obtain⟨l,r1,r2,r3,r4⟩:=q3.MH (ds:=ds) hg hi my (q1.get e1) q6;have kr:=zVi (P:=P) (o:=oo+i) hm q5 (by rw[r4];simpa using r2) (q6.one y iS) r1;simp only[ae,ho,e2];have ea:oo+i*1+0=oo+i:=by omega
   rw[ea];exact vD kr ⟨E',_,_,q1,r3,by simp only[VR];exact⟨[],rfl,gw.nil⟩,hk⟩
  ·rename_i n off i wg;rw[wg]at hx;simp only[VR]at hx;obtain⟨b,oo,sub,e1,e2⟩:=hx;have XJ:=he.ev v;split at h<;>first|exact h.elim|skip
   rename_i u hu;rw[hu]at XJ;have HE:=XJ;simp only[VR,DR]at HE;obtain⟨HE,LQ⟩:=HE;split at h<;>first|exact h.elim|skip
   rename_i vs T hg;obtain⟨m,hm,h⟩:=zN h;obtain⟨hb,hi,hk⟩:=zM h;have hb:=ja hb;subst hb;rw[o8]at hi;obtain⟨b',l,Em,q1,q2,q3⟩:=R.cells hg;rw[e1]at q1;cases q1;have h1:=q2.length;have Ee:(ev ρ v).cells=[u].toArray:=by
    rw[HE];cases u<;>first|rfl|cases LQ
   have kr:=gG (P:=P) (o:=0+(off+i)) hm Ee rfl (by omega) (by intro z hz;rw[uc.1 hz];exact LQ) q3;simp only[ae,ho,e2];refine vD kr ⟨E,_,_,Ev.le.refl _,R.setCells hg e1 (Ar:=vs.take off++(vs.drop off).set i (.d (.v u))) ?_,?_,hk⟩
   ·have e:vs.take off++(vs.drop off).set i (.d (.v u))=vs.take (off+i)++([.d (.v u)]++vs.drop (off+i+1)):=by
     rw[N',fc (by rw[o8];omega),Db,List.take_add,iY];rfl
    rw[e];unfold kj;rw[iY,nh];exact(q2.take _).append ((gw.one (by simp only[VR,DR];exact⟨trivial,LQ⟩)).append (q2.drop _))
   ·simp only[VR];exact⟨[],rfl,gw.nil⟩
   rename_i vs T hg;obtain⟨m,hm,h⟩:=zN h;obtain⟨hb,hi,hk⟩:=zM h;have hb:=ja hb;subst hb;rw[o8]at hi;obtain⟨b',l,Em,q1,q2,q3⟩:=R.vec hg;rw[e1]at q1;cases q1;have h1:=q2.length;have Ee:(ev ρ v).cells=[u].toArray:=by
    rw[HE];cases u<;>first|rfl|cases LQ
   have kr:=gG (P:=P) (o:=0+(off+i)) hm Ee rfl (by omega) (by intro z hz;rw[uc.1 hz];exact LQ) q3;simp only[ae,ho,e2];refine vD kr ⟨E,_,_,Ev.le.refl _,R.MF hg e1 (Dx:=vs.take off++(vs.drop off).set i (.v u)) ?_,?_,hk⟩
   ·have e:vs.take off++(vs.drop off).set i (.v u)=vs.take (off+i)++([.v u]++vs.drop (off+i+1)):=by
     rw[N',fc (by rw[o8];omega),Db,List.take_add,iY];rfl
    rw[e];unfold kj;rw[iY,nh];exact(q2.take _).append ((show iy E.F [.v u] [u]from(by simp only[iy,DR];exact⟨_,_,rfl,⟨rfl,LQ⟩,rfl⟩)).append (q2.drop _))
   ·simp only[VR];exact⟨[],rfl,gw.nil⟩
 case convert st d x=>
  simp only[se,ho]at h;split at h<;>first|exact h.elim|skip
  ·rename_i b hx;obtain⟨hb,h⟩:=zM h;obtain⟨e,rl,hk⟩:=zN h;obtain⟨u1,u2⟩:=zYi rl;have hv:=he.ev x;rw[hx]at hv;simp only[VR,DR]at hv;simp only[ae,ho,hv.1];have jh:=Lib.run_convert_string_bytes (P:=P) w st d e b (pK hb) u1 u2;refine yH jh ?_;exact z7s R b e hk
  ·rename_i n hx;split at h<;>first|exact h.elim|skip
   rename_i T sz ez hg;obtain⟨hb,h⟩:=zM h;simp only[lj]at hb;have kr:=ja hb.1;have pf:=ja hb.2;obtain⟨e,rl,h2⟩:=zN h;obtain⟨hTb,zi,hk⟩:=zM h2;have hT:=ja hTb;subst kr pf hT;obtain⟨u1,u2⟩:=zYi rl;have hv:=he.ev x;rw[hx]at hv;simp only[VR]at hv;obtain⟨l0,e1,a0,m0,c0,e2⟩:=hv;obtain⟨a,c,xs,sub,q1,q2,q3,H⟩:=R.su hg;rw[q1]at e1;rcases H.oD with⟨_,h0,_⟩|⟨b,r,rfl,r1,r2,r3,H1⟩
   ·omega
   have jh:=yLu (P:=P) (w:=w) (b:=b) (l:=xs++r) (T:=T) (t:=st) H1.get u1 u2 ez.length c;have H2:=H1.yx (.cells (xs++r).toArray T ((xs++r).length,(xs++r).length+1));have H3:Hp k (World.iT w b (.cells (xs++r).toArray T ((xs++r).length,(xs++r).length+1))) (pt b (.cells (xs++r).toArray T ((xs++r).length,(xs++r).length+1))::fz E.F::((v8 n s.rows).map (gz E)++L)):=H2.cons mh;obtain⟨y,hy,hd,iU,H4⟩:=Yv H3;have hle:E.le ⟨un y E.F,E.ga⟩:=⟨yBa hd,JJ _⟩
   have H5:=vG (λr x=>gz.mono hle r) (H4.perm (mh (l₁:=(v8 n s.rows).map (gz E)) (l₂:=L) (a:=fz (un y E.F))).symm);have H6:Hp k (World.iT w b (.cells (xs++r).toArray T ((xs++r).length,(xs++r).length+1))) (gz ⟨un y E.F,E.ga⟩ (n,.kg 1 ez)::((v8 n s.rows).map (gz ⟨un y E.F,E.ga⟩)++fz (un y E.F)::L)):=by
    have:=(@h9 k _ True _).2 ⟨trivial,H5⟩;refine this.imp λz hz=> .inr ⟨_,q1,?_⟩
    simp only[fp];refine⟨hz.2,?_⟩;simp only[DR];refine⟨_,c,rfl,r3,q3,.inr ⟨b,0,xs++r,T,((xs++r).length,(xs++r).length+1),rfl,?_,oS.2 ⟨xs,r,rfl,q2.mono hle.1⟩⟩⟩;rw[show y=one b _ from hy];simp[un,one]
   have R2:Rel k L ⟨un y E.F,E.ga⟩ (s.set n (.kg 1 ez)) (World.iT w b (.cells (xs++r).toArray T ((xs++r).length,(xs++r).length+1))):=by
    refine⟨by simpa[St.set]using R.nx,H6.perm ?_⟩;have:=(((uC hg).2 (.kg 1 ez)).map (gz ⟨un y E.F,E.ga⟩)).append_right (fz (un y E.F)::L);simpa[St.set]using this.symm
   have e3:ev ρ x= .slice (av ⟨b,0,aw⟩) ez.length c:=(congrArg Prod.fst (cm e1)).symm;simp only[ae,ho];rw[e3];exact yH jh ⟨_,_,_,hle,R2,by simp only[VR];exact⟨_,q1,_,_,_,rfl⟩,hk⟩
 case slice t x lo hi mx=>
  cases mx with
  |some m=>simp only[se,ho]at h
  |none=>
   obtain⟨y,hf,CR⟩:=z7i R he ho h;exact wQ (hf w) CR
 case mapUpdate t x i v=>
  simp only[se,ho]at h;split at h<;>first|exact h.elim|skip
  rename_i n hx;obtain⟨ke,Cg,h⟩:=zN h;obtain⟨kv,Ix,h⟩:=zN h;obtain⟨hb,h⟩:=zM h;simp only[lj]at hb;split at h<;>first|exact h.elim|skip
  rename_i ds s1 hd;split at h<;>first|exact h.elim|skip
  rename_i es hg;obtain⟨Cj,hk⟩:=h;obtain⟨E1,ys,q1,q2,q3,q4,q5,q6⟩:=Nn R hd (he.ev v);have FI:=he.ev x;rw[hx]at FI;simp only[VR]at FI;obtain⟨bm,sub,e1,e2⟩:=FI;have e1:=q1.get e1;rw[e2]at e1;obtain⟨fu,ck,r1,r2,rb,r3⟩:=q3.Gn (Dw:=u7 kv ds es) hg e1;have hi:ev ρ i=kv:=tX Ix (he.ev i);obtain⟨kd,hu,za⟩:=V6 hb.1;have ze:=z2q hb.2 (he.ev v) q5;have run:∃iM tj,MR E1.F (u7 kv ds es) iM/\uI iM tj/\(Instr.mapUpdate t (.map (av bm)) kv (ev ρ v)).run P w= .ok () (World.iT w bm (.map iM.toArray tj)):=by
   rcases ND za 0 r1 Cj with⟨t1,t2,t3,t4,_⟩|⟨q,m,Dx,D6,t1,t2,t3,t4,t5,t6,t7,t8,_⟩
   ·refine⟨fu++[{key:=kv,val:=ev ρ v,born:=ck}],ck+1,by rw[t3];exact z1p q6 (e:={key:=kv,val:=ev ρ v,born:=ck}) rfl ze r1,zVz rb rfl,?_⟩;simp only[Instr.mapUpdate,bind,run_bind,Cv.run_underlying (hZ Cg),qV r2 trivial,pure,cr,wE hu za,vL hu t1];rw[uT r2 trivial];simp
   ·refine⟨fu.set q {m with key:=kv,val:=ev ρ v},ck,t7 _ _ _ q6 rfl ze,YI rb t2 rfl,?_⟩;have hq:(fu.toArray[0+q]?).map (·.key)=av kv:=by simp[t2,t3]
    simp only[Instr.mapUpdate,bind,run_bind,Cv.run_underlying (hZ Cg),qV r2 trivial,pure,cr,wE hu za,vL hu t1,hq,zt,Instr.keyThatStays,zKf za,if_true];rw[uT r2 trivial];congr 4;rw[List.modify_toArray];congr 1;rw[nh,List.modify_eq_set,t2];rfl
  obtain⟨iM,tj,u1,ub,u2⟩:=run;simp only[ae,ho,e2,hi];exact vD u2 ⟨E1,.iZ [],_,q1,r3 iM tj u1 ub,by simp only[VR];exact⟨[],rfl,gw.nil⟩,hk⟩
 case mapEntry t x i=>
  simp only[se,ho]at h;split at h<;>first|exact h.elim|skip
  rename_i n hx;obtain⟨ke,Cg,h⟩:=zN h;obtain⟨kv,Ix,h⟩:=zN h;obtain⟨RZ,h⟩:=zM h;obtain⟨z,hz,h⟩:=zN h;split at h<;>first|exact h.elim|skip
  rename_i es hg;obtain⟨Cj,b,h⟩:=h;obtain⟨ds,h⟩:=aY h;obtain⟨RX,h⟩:=h;obtain⟨v,hm,hk⟩:=zN h;have FI:=he.ev x;rw[hx]at FI;simp only[VR]at FI;obtain⟨bm,sub,e1,e2⟩:=FI;rw[e2]at e1;obtain⟨fu,ck,r1,r2,rb,r3⟩:=R.IZ (Dw:=u7 kv ds es) (kv:=kv) hg e1;have hi:ev ρ i=kv:=tX Ix (he.ev i);obtain⟨kd,hu,za⟩:=V6 RZ;have run:∃iM tj y born,MR E.F (u7 kv ds es) iM/\uI iM tj/\UI iM kv born/\VR E v y/\(Instr.mapEntry t (.map (av bm)) kv).run P w= .ok (.tuple #[y,.int .i64 born]) (World.iT w bm (.map iM.toArray tj)):=by
   rcases ND za 0 r1 Cj with⟨t1,t2,t3,t4,t5⟩|⟨q,m,Dx,D6,t1,t2,t3,t4,t5,t6,t7,t8,t9⟩
   ·rcases RX with⟨l1,l2⟩|⟨l1,l2,l3⟩
    ·rw[t2]at l1;cases l1
    ·subst l2 l3;obtain⟨zv,ys,z1,z2,z3⟩:=yJg (F:=E.F) hz hm;refine⟨fu++[{key:=kv,val:=zv,born:=ck}],ck+1,zv,ck,by rw[t3];exact z1p z2 (e:={key:=kv,val:=zv,born:=ck}) rfl z3 r1,zVz rb rfl,⟨kd,za,fu.length,_,by have:=t5 {key:=kv,val:=zv,born:=ck} rfl;rwa [nh]at this,by simp,rfl⟩,by rw[z3];exact Yx hm z2,?_⟩;simp only[Instr.mapEntry,bind,run_bind,Cv.run_underlying (hZ Cg),qV r2 trivial,pure,cr,wE hu za,vL hu t1,lz (cW z1)];rw[uT r2 trivial];simp[goInt]
   ·rcases RX with⟨l1,l2⟩|⟨l1,l2,l3⟩
    ·rw[t4]at l1;cases l1;refine⟨fu.set q {m with key:=kv},ck,m.val,m.born,t7 _ _ _ t5 rfl t6,YI rb t2 rfl,⟨kd,za,q,{m with key:=kv},by have:=t9 {m with key:=kv} rfl;rwa [nh]at this,by
      rw[List.getElem?_set_self (jf.1 t2).1],rfl⟩,by rw[t6];exact Yx hm t5,?_⟩
     have hq:(fu.toArray[0+q]?).map (·.key)=av kv:=by simp[t2,t3]
     have RO:((fu.toArray[0+q]?).map λx=>((x.born:Nat):Int))=av (m.born:Int):=by simp[t2]
     simp only[Instr.mapEntry,bind,run_bind,Cv.run_underlying (hZ Cg),qV r2 trivial,pure,cr,wE hu za,vL hu t1,hq,RO,zt,Instr.keyThatStays,zKf za,if_true];rw[uT r2 trivial];simp only[goInt,RO,zt];congr 3;rw[List.modify_toArray];congr 1;rw[nh,List.modify_eq_set,t2];rfl
    ·rw[t4]at l1;cases l1
  obtain⟨iM,tj,y,born,u1,ub,us,uy,u2⟩:=run;simp only[ae,ho,e2,hi];exact yH u2 ⟨E,.iZ [v,.d (.v (.int .i64 born))],_,Ev.le.refl _,r3 iM tj born u1 ub us,by simp only[VR,gw,DR];exact⟨_,rfl,_,_,rfl,uy,_,_,rfl,⟨rfl,rfl⟩,rfl⟩,hk born⟩
 case entryStore t x st v=>
  simp only[se,ho]at h;split at h<;>first|exact h.elim|skip
  rename_i n hx;split at h<;>first|exact h.elim|skip
  rename_i ik b kr;obtain⟨ke,Cg,h⟩:=zN h;obtain⟨hb,h⟩:=zM h;split at h<;>first|exact h.elim|skip
  rename_i ds s1 hd;split at h<;>first|exact h.elim|skip
  rename_i es kv b' hg;obtain⟨rfl,Cj,hk⟩:=h;obtain⟨E1,ys,q1,q2,q3,q4,q5,q6⟩:=Nn R hd (he.ev v);have FI:=he.ev x;rw[hx]at FI;simp only[VR]at FI;obtain⟨bm,sub,e1,e2⟩:=FI;have e1:=q1.get e1;rw[e2]at e1;have hsv:=he.ev st;rw[kr]at hsv;simp only[VR,DR]at hsv;obtain⟨fu,ck,r1,r2,rb,⟨kd,za,q,m,u1,u2,u3⟩,r3⟩:=q3.IY (Dw:=u7 kv ds es) hg e1;have ze:=z2q hb (he.ev v) q5;rcases ND za 0 r1 Cj with⟨t1,t2,t3,t4,t5⟩|⟨q',m',Dx,D6,t1,t2,t3,t4,t5,t6,t7,t8,t9⟩
  ·rw[t1]at u1;cases u1
  ·rw[t1]at u1;simp only[cg,Prod.mk.injEq,nh]at u1;obtain⟨rfl,_⟩:=u1;rw[t2]at u2;cases u2;have FR:=yIk rb.1 t2;have run:(Instr.entryStore t (.map (av bm)) (ev ρ st) (ev ρ v)).run P w= .ok () (World.iT w bm (.map (fu.set q' {m with val:=ev ρ v}).toArray ck)):=by
    rw[hsv.1,<- u3];have hfa:fu.toArray.findIdx? (λe=>((e.born:Nat):Int)==((m.born:Nat):Int))=av q':=by simpa using FR
    simp only[Instr.entryStore,bind,run_bind,qV r2 trivial,pure,cr,asInt,asIntOf,hfa];rw[uT r2 trivial];congr 2;rw[List.modify_toArray];congr 1;rw[List.modify_eq_set,t2];rfl
   simp only[ae,ho,e2];exact vD run ⟨E1,.iZ [],_,q1,r3 _ ck (t7 _ _ _ q6 t3 ze) (YI rb t2 rfl),by simp only[VR];exact⟨[],rfl,gw.nil⟩,hk⟩
 case range t x=>
  simp only[se,ho]at h;split at h<;>first|exact h.elim|skip
  rename_i b hx;obtain⟨hs,hk⟩:=zM h;have hv:=he.ev x;rw[hx]at hv;simp only[VR,DR]at hv;simp only[ae,ho,hv.1];refine yH (v:= .pointer (av ⟨w.heap.size,0,aw⟩)) (w':=w.alloc (.stringIter b 0)) ?_ ?_
  ·simp only[Instr.range,bind,pure,run_bind,cu,Cv.run_underlying (pK hs)];rfl
  ·refine Vj (hd:=(.pointer (av ⟨w.heap.size,0,aw⟩),[])) R ?_ (λhg=> ?_) hk
   ·simp only[fp];exact⟨_,rfl,rfl⟩
   ·simp only[VR];exact⟨_,0,_,hg,rfl⟩
 case next x isS=>
  cases isS with
  |false=>simp only[se,ho]at h
  |true=>
   simp only[se,ho]at h;split at h<;>first|exact h.elim|skip
   rename_i n hx;split at h<;>first|exact h.elim|skip
   rename_i b pos hg;have hv:=he.ev x;rw[hx]at hv;simp only[VR]at hv;obtain⟨bb,oo,sub,e1,e2⟩:=hv;obtain⟨hd,hh,e3,e4,_⟩:=R.row hg (by simp);rw[e1]at e3;cases e3;simp only[fp]at e4;obtain⟨b2,e4,_⟩:=e4;cases e4;have hS:=λpos'=>R.setIter (pos':=pos') hg e1
   have j':=(hS 0).1;simp only[ae,ho,e2];rcases yCg h with⟨hb,hk⟩|⟨hb,hk⟩
   ·have gn:pos<b.size:=by simpa[yj]using hb
    refine yH (v:= .tuple #[.bool bv,.int .i64 (pos:Nat),.int .i32 (Utf8.decode b pos).1]) (w':=World.iT w bb (.stringIter b (pos+(Utf8.decode b pos).2))) ?_
     ⟨E,_,_,Ev.le.refl _,(hS _).2,?_,hk⟩
    ·simp only[Instr.next,bind,pure,run_bind,cu,cr,qV j' trivial,fc gn,uT j' trivial];rfl
    ·simp only[VR,gw,DR];exact⟨_,rfl,_,_,rfl,⟨rfl,rfl⟩,_,_,rfl,⟨rfl,rfl⟩,_,_,rfl,⟨rfl,rfl⟩,rfl⟩
   ·have gn:¬pos<b.size:=by
     intro h';have:ay pos b.size=bv:=by rw[yj];exact h'
     rw[this]at hb;cases hb
    refine yH (v:= .tuple #[.bool bz]) (w':=w) ?_ ⟨E,_,_,Ev.le.refl _,R,?_,hk⟩
    ·simp only[Instr.next,bind,pure,run_bind,cu,cr,qV j' trivial,eg gn]
    ·simp only[VR,gw,DR];exact⟨_,rfl,_,_,rfl,⟨rfl,rfl⟩,rfl⟩
 case call c=>
  simp only[se,ho]at h;split at h<;>first|exact h.elim|skip
  ·rename_i x hc;split at h<;>first|exact h.elim|skip
   rename_i f a b hx;have hv:=he.ev x;rw[hx]at hv;simp only[VR]at hv;obtain⟨as,bs,e1,e2,e3⟩:=hv;obtain⟨ys,e4,e5⟩:=aV he c.args;have jh:(ae (ev ρ) o)=aj f (as++(ys++bs)).toArray:=by
    have tp:ae (ev ρ) o=(resolve (ev ρ) c o.type).bind λd=>invoke d.target d.args:=by
     simp only[ae,ho];rfl
    rw[tp];unfold resolve;rw[hc];simp only[e1,Deferred.ofValue,pure,cu,invoke,e4];congr 1;apply cq;simp
   rw[jh];exact z3y hH R h (e2.append (e5.append e3))
  ·rename_i hc;split at h<;>first|exact h.elim|skip
   rename_i t1 t2 hts;split at h<;>first|exact h.elim|skip
   rename_i x y nr;obtain⟨ys,e1,e2⟩:=aV he c.args;rw[nr]at e2;simp only[gw]at e2;obtain⟨xr,_,rfl,hx,yr,_,rfl,hy,rfl⟩:=e2;have ht:c.argTypes= #[t1,t2]:=by apply cq;simpa using hts
   rw[wO ho hc,e1,ht];cases JZ:yRa s y with
   |false=>
    rw[JZ]at h;obtain⟨v,w',hr,CR⟩:=zVm (rt:=o.type) R hx hy h;exact yH hr CR
   |true=>
    rw[JZ]at h;obtain⟨v,w',hr,CR⟩:=zTb (rt:=o.type) R hx hy h;exact yH hr CR
  ·rename_i hc;split at h<;>first|exact h.elim|skip
   rename_i n y nr;obtain⟨t,ht,h⟩:=zN h;obtain⟨ke,Cg,h⟩:=zN h;obtain⟨kv,Ix,h⟩:=zN h;obtain⟨RZ,h⟩:=zM h;split at h<;>first|exact h.elim|skip
   rename_i es hg;obtain⟨Cj,hk⟩:=h;obtain⟨ys,e1,e2⟩:=aV he c.args;rw[nr]at e2;simp only[gw,VR]at e2;obtain⟨mv,_,rfl,⟨bm,sub,e3,rfl⟩,yv,_,rfl,hy,rfl⟩:=e2;obtain rfl:=tX Ix hy;obtain⟨fu,ck,r1,r2,rb,r3⟩:=R.Gn (Dw:=CA yv es) hg e3;obtain⟨kd,hu,za⟩:=V6 RZ;have run:∃iM tj,MR E.F (CA yv es) iM/\uI iM tj/\(Builtin.delete_ c.argTypes o.type #[.map (av bm),yv]).run P w= .ok (.tuple #[]) (World.iT w bm (.map iM.toArray tj)):=by
    rcases ND za 0 r1 Cj with⟨t1,t2,t3,t4,_⟩|⟨q,m,Dx,D6,t1,t2,t3,t4,t5,t6,t7,t8,_⟩
    ·refine⟨fu,ck,by rw[t4];exact r1,rb,?_⟩;simp only[Builtin.delete_,ht,Bc,CC,Bd,bind,run_bind,Cv.run_underlying (hZ Cg),qV r2 trivial,pure,cr,wE hu za,vL hu t1];rw[uT r2 trivial]
    ·refine⟨fu.eraseIdx q,ck,t8,yAh rb,?_⟩;simp only[Builtin.delete_,ht,Bc,CC,Bd,bind,run_bind,Cv.run_underlying (hZ Cg),qV r2 trivial,pure,cr,wE hu za,vL hu t1];rw[uT r2 trivial];simp
   obtain⟨iM,tj,u1,ub,u2⟩:=run;rw[wO ho hc,e1];exact yH u2 ⟨E,.iZ [],_,Ev.le.refl _,r3 iM tj u1 ub,by simp only[VR];exact⟨[],rfl,gw.nil⟩,hk⟩
 all_goals(simp only[se,ho]at h)
def zKc {n c:Nat} {x:fj} (h:ax n c=bz):∀{l:List (Nat×fj)},A4 n (lL c x l)=A4 n l
 |[]=>rfl
 |(m,o)::l=>by
  simp only[lL];cases hb:ax m c
  ·simp only[cond_false,A4];cases hm:ax m n
   ·simp only[cond_false];exact zKc h
   ·rfl
  ·have:=ja hb;subst this;have h':ax m n=bz:=by
    cases hm:ax m n
    ·rfl
    ·have:=ja hm;subst this;rw[Nat.beq_refl]at h;cases h
   simp only[cond_true,A4,h',cond_false]
def aX {n:Nat} {x:fj}:∀{l:List (Nat×fj)},A4 n l≠aw->A4 n (lL n x l)=av x
 |[],h=>absurd rfl h
 |(m,o)::l,h=>by
  simp only[A4,lL]at h ⊢;cases hb:ax m n
  ·rw[hb]at h;simp only[A4,hb,cond_false]at h ⊢;exact aX h
  ·simp only[A4,hb,cond_true]
def zXq {n:Nat} {x y:fj}:∀{l:List (Nat×fj)},lL n y (lL n x l)=lL n y l
 |[]=>rfl
 |(m,o)::l=>by
  simp only[lL];cases hb:ax m n
  ·simp only[cond_false,lL,hb];rw[zXq]
  ·simp only[cond_true,lL,hb]
def yYf {l:List ab} {o:Nat} {y:ab} (h:o<l.length):kj l o [y]=l.set o y:=by
 unfold kj;rw[N',fc h];simp
def Rel.G' {k:Ko} {L:List HP} {w:ac} {E:Ev} {s:St} (R:Rel k L E s w) {q:Bool} {n c T sz i f t2 vj:Nat} {ez lv:List (List D)} (hg:s.get n=av (.ug q T sz ez i f bv (av c))) (hc:s.get c=av (.own t2 vj lv)) (jr:ax n c=bz) (hi:i<ez.length) (hf:f<sz) {y:ab} (hv:VR E (.own n) y):
 ∃E',E.le E'/\E'.ga=E.ga/\Rel k L E' ((s.set c (.kg vj lv)).set n (.kg sz (zJ ez i f [.ro vj lv]))) w/\DR E'.F (.ro sz (zJ ez i f [.ro vj lv])) y:=by
 obtain⟨E1,q1,q2,R1⟩:=R.freeze hc;have g1:(s.set c (.kg vj lv)).get n=av (.ug q T sz ez i f bv (av c)):=by
  simp only[St.get,St.set]at hg ⊢;rw[zKc jr,hg]
 have g2:(s.set c (.kg vj lv)).get c=av (.kg vj lv):=by
  simp only[St.get,St.set]at hc ⊢;exact aX (by rw[hc];simp)
 obtain⟨hdc,xc,c1,c2,_⟩:=R1.row g2 (by simp);simp only[fp]at c2;have R2:Rel k L E1 ((s.set c (.kg vj lv)).set n (.own T sz (zJ ez i f [.ro vj lv]))) w:=by
  refine R1.nv g1 ((R1.focus g1).imp λx hx=> ?_);rcases hx with⟨e,_⟩|⟨hd,h1,h2⟩
  ·cases e
  refine .inr ⟨hd,h1,?_⟩;simp only[fp]at h2 ⊢;obtain⟨a,kk,ys,xs,e1,e2,e3,⟨z,l,e4,e5,e6⟩,e7⟩:=h2;rw[c1]at e4;cases e4;obtain⟨f1,f2⟩:=nD i f [.ro vj lv] e3 hi (by simp only[iC,rn];omega);have hlen:(zJ ez i f [.ro vj lv]).length=ez.length:=by simp[zJ]
  have Dn:ys.length=ez.length*sz:=by rw[e2.length,wJ e3]
  have wk:i*sz+sz<=ez.length*sz:=by
   have:=xj sz (show i+1<=ez.length by omega);rwa [zq]at this
  refine⟨a,kk,xs,by rw[hlen];exact e1,?_,f2,by rw[hlen];exact e7⟩;rw[f1,e6,cond_true,<- yYf (by omega)];exact Pk e2 (by simp only[iy];exact⟨_,_,rfl,c2.2,rfl⟩) _
 have g3:((s.set c (.kg vj lv)).set n (.own T sz (zJ ez i f [.ro vj lv]))).get n=av (.own T sz (zJ ez i f [.ro vj lv])):=by
  simp only[St.get,St.set]at g1 ⊢;exact aX (by rw[g1];simp)
 obtain⟨E2,r1,r2,R3⟩:=R2.freeze g3;have e:((s.set c (.kg vj lv)).set n (.own T sz (zJ ez i f [.ro vj lv]))).set n (.kg sz (zJ ez i f [.ro vj lv]))=(s.set c (.kg vj lv)).set n (.kg sz (zJ ez i f [.ro vj lv])):=by
  simp only[St.set,zXq]
 rw[e]at R3;have g4:((s.set c (.kg vj lv)).set n (.kg sz (zJ ez i f [.ro vj lv]))).get n=av (.kg sz (zJ ez i f [.ro vj lv])):=by
  simp only[St.get,St.set]at g1 ⊢;exact aX (by rw[g1];simp)
 obtain⟨hdn,xn,n1,n2,_⟩:=R3.row g4 (by simp);simp only[fp]at n2;simp only[VR]at hv;obtain⟨l,v1,_⟩:=hv;rw[r2,q2,v1]at n1;cases n1;exact⟨E2,q1.trans r1,r2.trans q2,R3,n2.2⟩
@[reducible] def NM:=List (Nat×Nat)
def yC (p:Nat):NM->Option Nat
 |[]=>aw
 |(q,n)::l=>bif ax q p then av n else yC p l
def XA:ab->ab->Prop
 | .int k a,.int k' b=>bif xa k k' then a=b else False
 | .bool a,.bool b=>a=b
 | .string a,.string b=>a=b
 | .pointer aw,.pointer aw=>True
 | .slice aw 0 0,.slice aw 0 0=>True
 | .map aw,.map aw=>True
 | .nilFunc,.nilFunc=>True
 | .nilIface,.nilIface=>True
 |_,_=>False
def yRt {x y:ab} (h:XA x y):x=y:=by
 unfold XA at h;split at h<;>first|exact h.elim|rfl|(subst h;rfl)|skip
 obtain⟨hk,rfl⟩:=zM h;rw[zYh hk]
def dEq:D->D->Prop
 | .v x,.v y=>XA x y
 | .ro sz ez,.ro oA lg=>bif ax sz oA then ez=lg else False
 | .ro _ ez,.v (.slice aw 0 0)=>ez=[]
 |_,_=>False
def y6x {F:PH} {p q:D} {y:ab} (h:dEq p q) (hq:DR F q y):DR F p y:=by
 unfold dEq at h;split at h<;>first|exact h.elim|skip
 ·rw[yRt h];exact hq
 ·obtain⟨hb,rfl⟩:=zM h;rw[ja hb];exact hq
 ·subst h;simp only[DR]at hq ⊢;exact⟨aw,0,hq.1,lh _,by simp,.inl trivial⟩
def K1 (p n:Nat) (π:NM) (K:NM->Prop):Prop:=
 match yC p π with
 |some m=>bif ax m n then K π else False
 |none=>K ((p,n)::π)
mutual
def Cd:V->V->NM->St->(NM->St->Prop)->Prop
 | .top,_,π,s,K=>K π s
 | .d p,a,π,s,K=>match a with
   | .d q=>dEq p q/\K π s
   | .own n=>match p with
     | .ro sz ez=>match s.get n with
       |some (.own _ oA lg)=>bif ax sz oA then ez=lg/\K π (s.set n (.kg oA lg))else False
       |some (.kg oA lg)=>bif ax sz oA then ez=lg/\K π s else False
       |some (.ug bv T oA lg i f b (av c))=>match s.get c with
        |some (.own _ vj lv)=>bif ax sz oA && !(ax n c)then(b=bv/\i<lg.length/\f<sz/\ez=zJ lg i f [.ro vj lv])/\K π ((s.set c (.kg vj lv)).set n (.kg oA ez))else False
        |_=>False
       |_=>False
     |_=>False
   |_=>False
 | .nm p o,a,π,s,K=>match a with
   | .nm n o'=>bif ax o o' then K1 p n π λπ=>K π s else False
   |_=>False
 | .el p sz i f,a,π,s,K=>match a with
   | .el n oA i' f'=>bif ax sz oA && ax f f' then i=i'/\K1 p n π λπ=>K π s else False
   |_=>False
 | .own p,a,π,s,K=>match a with
   | .own n=>K1 p n π λπ=>K π s
   | .d (.v (.slice aw 0 0))=>match yC p π with
     |none=>K ((p,s.nx)::π) (s.new .AG)
     |some _=>False
   |_=>False
 | .mp p,a,π,s,K=>match a with
   | .mp n=>K1 p n π λπ=>K π s
   |_=>False
 | .agg l,a,π,s,K=>match a with
   | .agg l'=>Ec l l' π s K
   |_=>False
 | .iZ l,a,π,s,K=>match a with
   | .iZ l'=>Ec l l' π s K
   |_=>False
 | .fn f x y,a,π,s,K=>match a with
   | .fn f' x' y'=>bif ax f f' then Ec x x' π s λπ s=>Ec y y' π s K else False
   |_=>False
 | .zy t x,a,π,s,K=>match a with
   | .zy t' x'=>bif ax t t' then Cd x x' π s K else False
   |_=>False
 |_,_,_,_,_=>False
def Ec:List V->List V->NM->St->(NM->St->Prop)->Prop
 |[],l,π,s,K=>match l with
  |[]=>K π s
  |_=>False
 |v::vs,l,π,s,K=>match l with
  |u::us=>Cd v u π s λπ s=>Ec vs us π s K
  |[]=>False
end
def Loc (π:NM) (ga tl:List Hd):Prop:=∀p n,yC p π=av n->∃hd,ga[n]?=av hd/\tl[p]?=av hd
def Ext (π π':NM):Prop:=∀p n,yC p π=av n->yC p π'=av n
def Az (π:NM) (ga:List Hd):Prop:=∀p n,yC p π=av n->∃hd,ga[n]?=av hd
def Ext.refl (π:NM):Ext π π:=λ_ _ h=>h
def Ext.trans {a b c:NM} (h:Ext a b) (h':Ext b c):Ext a c:=λp n e=>h' p n (h p n e)
def Az.mono {π:NM} {E E':Ev} (h:Az π E.ga) (hle:E.le E'):Az π E'.ga:=λp n e=>let⟨hd,q⟩:=h p n e;⟨hd,hle.get q⟩
def PV (E:Ev) (π:NM) (v:V) (y:ab):Prop:=∀E2 π2,E.le E2->Ext π π2->∀tl,Loc π2 E2.ga tl->VR ⟨E2.F,tl⟩ v y
def Yg (E:Ev) (π:NM) (v:List V) (y:List ab):Prop:=∀E2 π2,E.le E2->Ext π π2->∀tl,Loc π2 E2.ga tl->gw ⟨E2.F,tl⟩ v y
def PV.mono {E E':Ev} {π π':NM} {v:V} {y:ab} (h:PV E π v y) (hle:E.le E') (hx:Ext π π'):PV E' π' v y:=λE2 π2 a b tl c=>h E2 π2 (hle.trans a) (hx.trans b) tl c
def Yg.mono {E E':Ev} {π π':NM} {v:List V} {y:List ab} (h:Yg E π v y) (hle:E.le E') (hx:Ext π π'):Yg E' π' v y:=λE2 π2 a b tl c=>h E2 π2 (hle.trans a) (hx.trans b) tl c
def sZ {p n:Nat} {π:NM} {ga:List Hd} {K:NM->Prop} (h:K1 p n π K) (hw:Az π ga) {hd:Hd} (hn:ga[n]? =av hd):∃π',Ext π π'/\Az π' ga/\yC p π'=av n/\K π':=by
 unfold K1 at h;split at h
 ·rename_i m hm;obtain⟨hb,hk⟩:=zM h;have:=ja hb;subst this;exact⟨π,Ext.refl _,hw,hm,hk⟩
 ·rename_i hm;refine⟨_,λq m e=> ?_,λq m e=> ?_,by simp[yC],h⟩
  ·simp only[yC];cases hb:ax p q
   ·exact e
   ·have:=ja hb;subst this;rw[hm]at e;cases e
  ·simp only[yC]at e;cases hb:ax p q
   ·rw[hb]at e;exact hw q m e
   ·rw[hb]at e;cases e;exact⟨hd,hn⟩
variable {k:Ko} {L:List HP} {w:ac}
structure xg (k:Ko) (L:List HP) (w:ac) (E:Ev) (π:NM) (E':Ev) (π':NM) (s':St):Prop where
 le:E.le E'
 ext:Ext π π'
 wf:Az π' E'.ga
 rel:Rel k L E' s' w
def xg.trans {E E1 E2:Ev} {π π1 π2:NM} {s1 s2:St} {L1 L2:List HP} (a:xg k L1 w E π E1 π1 s1) (b:xg k L2 w E1 π1 E2 π2 s2):xg k L2 w E π E2 π2 s2:=⟨a.le.trans b.le,a.ext.trans b.ext,b.wf,b.rel⟩
def Rel.Gv {E:Ev} {s:St} (R:Rel k L E s w):∃E',E.le E'/\Rel k L E' (s.new .AG) w/\E'.ga[s.nx]? =av (.slice aw 0 0,[]):=by
 have hle:E.le ⟨E.F,E.ga++[(.slice aw 0 0,[])]⟩:=Ev.le.app _;have j':(E.ga++[((.slice aw 0 0,[]):Hd)])[s.nx]? =av (.slice aw 0 0,[]):=by rw[<- R.nx];simp
 refine⟨_,hle,⟨by simp[St.new,R.nx],?_⟩,j'⟩;have H2:=vG (λr x=>gz.mono hle r) R.hp;have:=(@h9 k w True _).2 ⟨trivial,H2⟩;exact this.imp λx hx=> .inr ⟨_,j',by simp only[fp];exact⟨hx.2,trivial,trivial⟩⟩
mutual
theorem z7l:∀{v a:V} {π:NM} {s:St} {K:NM->St->Prop} {E:Ev} {y:ab},Cd v a π s K->Rel k L E s w->Az π E.ga->VR E a y->∃E' π' s',xg k L w E π E' π' s'/\PV E' π' v y/\K π' s'
 | .top,a,π,s,K,E,y,h,R,hw,hv=>by
   simp only[Cd]at h;exact⟨E,π,s,⟨Ev.le.refl _,Ext.refl _,hw,R⟩,λ_ _ _ _ _ _=>by simp only[VR],h⟩
 | .d p,a,π,s,K,E,y,h,R,hw,hv=>by
   simp only[Cd]at h;split at h<;>first|exact h.elim|skip
   ·rename_i q;obtain⟨h1,h⟩:=h;simp only[VR]at hv;exact⟨E,π,s,⟨Ev.le.refl _,Ext.refl _,hw,R⟩,λE2 _ a _ _ _=>by simp only[VR];exact(y6x h1 hv).mono a.1,h⟩
   ·rename_i n;split at h<;>first|exact h.elim|skip
    rename_i sz ez;split at h<;>first|exact h.elim|skip
    ·rename_i t oA lg hg;obtain⟨hb,rfl,hk⟩:=zM h;have e:=ja hb;subst e;obtain⟨E',q1,q2,q3,q4,q5⟩:=Pf R (v:= .own n) (d:= .ro sz ez) (s':=s.set n (.kg sz ez)) (by simp only[Lu,hg]) hv;exact⟨E',π,_,⟨q1,Ext.refl _,by rw[q2];exact hw,q3⟩,λE2 _ a _ _ _=>by simp only[VR];exact q5.mono a.1,hk⟩
    ·rename_i oA lg hg;obtain⟨hb,rfl,hk⟩:=zM h;have e:=ja hb;subst e;obtain⟨E',q1,q2,q3,q4,q5⟩:=Pf R (v:= .own n) (d:= .ro sz ez) (s':=s) (by simp only[Lu,hg]) hv;exact⟨E',π,_,⟨q1,Ext.refl _,by rw[q2];exact hw,q3⟩,λE2 _ a _ _ _=>by simp only[VR];exact q5.mono a.1,hk⟩
    ·rename_i T oA lg i f b c hg;split at h<;>first|exact h.elim|skip
     rename_i t2 vj lv Av;obtain⟨hb,⟨rfl,hi,hf,rfl⟩,hk⟩:=zM h;simp only[lj,De]at hb;have e:=ja hb.1;subst e;obtain⟨E',q1,q2,q3,q4⟩:=R.G' hg Av hb.2 hi hf hv;exact⟨E',π,_,⟨q1,Ext.refl _,by rw[q2];exact hw,q3⟩,λE2 _ a _ _ _=>by simp only[VR];exact q4.mono a.1,hk⟩
 | .nm p o,a,π,s,K,E,y,h,R,hw,hv=>by
   simp only[Cd]at h;split at h<;>first|exact h.elim|skip
   rename_i n o';obtain⟨hb,hk⟩:=zM h;have e:=ja hb;subst e;simp only[VR]at hv;obtain⟨b,oo,l,h1,rfl⟩:=hv;obtain⟨π',q1,q2,q3,q4⟩:=sZ hk hw h1;refine⟨E,π',s,⟨Ev.le.refl _,q1,q2,R⟩,λE2 π2 a b' tl hl=> ?_,q4⟩;simp only[VR];obtain⟨hd,e1,e2⟩:=hl p n (b' p n q3);rw[a.get h1]at e1;cases e1;exact⟨b,oo,l,e2,rfl⟩
 | .el p sz i f,a,π,s,K,E,y,h,R,hw,hv=>by
   simp only[Cd]at h;split at h<;>first|exact h.elim|skip
   rename_i n oA i' f';obtain⟨hb,rfl,hk⟩:=zM h;simp only[lj]at hb;have e:=ja hb.1;subst e;have e:=ja hb.2;subst e;simp only[VR]at hv;obtain⟨b,oo,m,c,l,h1,rfl⟩:=hv;obtain⟨π',q1,q2,q3,q4⟩:=sZ hk hw h1;refine⟨E,π',s,⟨Ev.le.refl _,q1,q2,R⟩,λE2 π2 a b' tl hl=> ?_,q4⟩;simp only[VR];obtain⟨hd,e1,e2⟩:=hl p n (b' p n q3);rw[a.get h1]at e1;cases e1;exact⟨b,oo,m,c,l,e2,rfl⟩
 | .own p,a,π,s,K,E,y,h,R,hw,hv=>by
   simp only[Cd]at h;split at h<;>first|exact h.elim|skip
   ·rename_i n;simp only[VR]at hv;obtain⟨l,h1,h2⟩:=hv;obtain⟨π',q1,q2,q3,q4⟩:=sZ h hw h1;refine⟨E,π',s,⟨Ev.le.refl _,q1,q2,R⟩,λE2 π2 a b' tl hl=> ?_,q4⟩;simp only[VR];obtain⟨hd,e1,e2⟩:=hl p n (b' p n q3);rw[a.get h1]at e1;cases e1;exact⟨l,e2,h2⟩
   ·split at h<;>first|exact h.elim|skip
    rename_i hm;obtain⟨E',q1,q2,q3⟩:=R.Gv;simp only[VR,DR]at hv;obtain⟨rfl,_⟩:=hv;have yz:yC p ((p,s.nx)::π)=av s.nx:=by simp[yC]
    refine⟨E',_,_,⟨q1,λq m e=> ?_,λq m e=> ?_,q2⟩,λE2 π2 a b' tl hl=> ?_,h⟩
    ·simp only[yC];cases hb:ax p q
     ·exact e
     ·have:=ja hb;subst this;rw[hm]at e;cases e
    ·simp only[yC]at e;cases hb:ax p q
     ·rw[hb]at e;obtain⟨hd,h'⟩:=hw q m e;exact⟨hd,q1.get h'⟩
     ·rw[hb]at e;cases e;exact⟨_,q3⟩
    ·simp only[VR];obtain⟨hd,e1,e2⟩:=hl p _ (b' p _ yz);rw[a.get q3]at e1;cases e1;exact⟨[],e2,_,_,_,rfl⟩
 | .mp p,a,π,s,K,E,y,h,R,hw,hv=>by
   simp only[Cd]at h;split at h<;>first|exact h.elim|skip
   rename_i n;simp only[VR]at hv;obtain⟨b,l,h1,h2⟩:=hv;obtain⟨π',q1,q2,q3,q4⟩:=sZ h hw h1;refine⟨E,π',s,⟨Ev.le.refl _,q1,q2,R⟩,λE2 π2 a b' tl hl=> ?_,q4⟩;simp only[VR];obtain⟨hd,e1,e2⟩:=hl p n (b' p n q3);rw[a.get h1]at e1;cases e1;exact⟨b,l,e2,h2⟩
 | .agg l,a,π,s,K,E,y,h,R,hw,hv=>by
   simp only[Cd]at h;split at h<;>first|exact h.elim|skip
   simp only[VR]at hv;obtain⟨ys,rfl,hv⟩:=hv;obtain⟨E',π',s',q1,q2,q3⟩:=Js h R hw hv;exact⟨E',π',s',q1,λE2 π2 a b tl c=>by simp only[VR];exact⟨ys,rfl,q2 E2 π2 a b tl c⟩,q3⟩
 | .iZ l,a,π,s,K,E,y,h,R,hw,hv=>by
   simp only[Cd]at h;split at h<;>first|exact h.elim|skip
   simp only[VR]at hv;obtain⟨ys,rfl,hv⟩:=hv;obtain⟨E',π',s',q1,q2,q3⟩:=Js h R hw hv;exact⟨E',π',s',q1,λE2 π2 a b tl c=>by simp only[VR];exact⟨ys,rfl,q2 E2 π2 a b tl c⟩,q3⟩
 | .fn f x z,a,π,s,K,E,y,h,R,hw,hv=>by
   simp only[Cd]at h;split at h<;>first|exact h.elim|skip
   rename_i f' x' z';obtain⟨hb,hk⟩:=zM h;have e:=ja hb;subst e;simp only[VR]at hv;obtain⟨as,bs,rfl,h1,h2⟩:=hv;obtain⟨E',π',s',q1,q2,q3⟩:=Js hk R hw h1;obtain⟨E2,π2,s2,r1,r2,r3⟩:=Js q3 q1.rel q1.wf (h2.mono q1.le);exact⟨E2,π2,s2,q1.trans r1,λE3 π3 a b tl c=>by simp only[VR];exact⟨as,bs,rfl,q2.mono r1.le r1.ext E3 π3 a b tl c,r2 E3 π3 a b tl c⟩,r3⟩
 | .zy t x,a,π,s,K,E,y,h,R,hw,hv=>by
   simp only[Cd]at h;split at h<;>first|exact h.elim|skip
   rename_i t' x';obtain⟨hb,hk⟩:=zM h;have e:=ja hb;subst e;simp only[VR]at hv;obtain⟨z,rfl,h1⟩:=hv;obtain⟨E',π',s',q1,q2,q3⟩:=z7l hk R hw h1;exact⟨E',π',s',q1,λE3 π3 a b tl c=>by simp only[VR];exact⟨z,rfl,q2 E3 π3 a b tl c⟩,q3⟩
 | .re sz ez i f,a,π,s,K,E,y,h,R,hw,hv=>by simp only[Cd]at h
 | .sub n i,a,π,s,K,E,y,h,R,hw,hv=>by simp only[Cd]at h
theorem Js:∀{v a:List V} {π:NM} {s:St} {K:NM->St->Prop} {E:Ev} {y:List ab},Ec v a π s K->Rel k L E s w->Az π E.ga->gw E a y->∃E' π' s',xg k L w E π E' π' s'/\Yg E' π' v y/\K π' s'
 |[],a,π,s,K,E,y,h,R,hw,hv=>by
  simp only[Ec]at h;split at h<;>first|exact h.elim|skip
  simp only[gw]at hv;exact⟨E,π,s,⟨Ev.le.refl _,Ext.refl _,hw,R⟩,λ_ _ _ _ _ _=>by simpa only[gw]using hv,h⟩
 |v::vs,a,π,s,K,E,y,h,R,hw,hv=>by
  simp only[Ec]at h;split at h<;>first|exact h.elim|skip
  simp only[gw]at hv;obtain⟨x,xs,rfl,h1,h2⟩:=hv;obtain⟨E',π',s',q1,q2,q3⟩:=z7l h R hw h1;obtain⟨E2,π2,s2,r1,r2,r3⟩:=Js q3 q1.rel q1.wf (h2.mono q1.le);exact⟨E2,π2,s2,q1.trans r1,λE3 π3 a b tl c=>by simp only[gw];exact⟨_,_,rfl,q2.mono r1.le r1.ext E3 π3 a b tl c,r2 E3 π3 a b tl c⟩,r3⟩
end
mutual
def A3 (π:NM):V->V
 | .top=> .top
 | .d d=> .d d
 | .nm n o=>match yC n π with
   |some m=> .nm m o
   |none=> .top
 | .el n sz i f=>match yC n π with
   |some m=> .el m sz i f
   |none=> .top
 | .re sz ez i f=> .re sz ez i f
 | .na _ _ _=> .top
 | .own n=>match yC n π with
   |some m=> .own m
   |none=> .top
 | .mp n=>match yC n π with
   |some m=> .mp m
   |none=> .top
 | .sub n i=>match yC n π with
   |some m=> .sub m i
   |none=> .top
 | .agg l=> .agg (H9 π l)
 | .iZ l=> .iZ (H9 π l)
 | .fn f a b=> .fn f (H9 π a) (H9 π b)
 | .zy t x=> .zy t (A3 π x)
def H9 (π:NM):List V->List V
 |[]=>[]
 |v::l=>A3 π v::H9 π l
end
def oN (π:NM):Option Nat->Option Nat
 |some m=>yC m π
 |none=>aw
def EJ (π:NM):fj->fj
 | .cells vs t=> .cells (H9 π vs) t
 | .ug q t sz ez i f b m=> .ug q t sz ez i f b (oN π m)
 |o=>o
def Pc (ix:Nat->fj) (π:NM) (nx:Nat):List Nat->List (Nat×fj)
 |[]=>[]
 |j::js=>(nx+j,EJ π (ix (j+1)))::Pc ix π nx js
def nG (n nx m:Nat):NM:=(0,n)::(ba (m-1)).map λj=>(j+1,nx+j)
def K4 (s:St) (n m:Nat) (ix:Nat->fj):fj×St:=
 (EJ (nG n s.nx m) (ix 0),⟨Pc ix (nG n s.nx m) s.nx (ba (m-1))++s.rows,s.nx+(m-1)⟩)
def St.CW (s:St) (n:Nat):Option fj:=
 match s.get n with
 |some .gone=>aw
 |o=>o
def Wb {s:St} {n:Nat} {o:fj} (h:s.CW n=av o):s.get n=av o/\o≠.gone:=by
 unfold St.CW at h;split at h
 ·cases h
 ·rename_i jr;exact⟨h,λe=>jr (e▸h)⟩
def tU (m:Nat):NM->Bool
 |[]=>bv
 |(p,_)::l=>bif ay p m then tU m l else bz
def pF {m:Nat}:∀{π:NM},tU m π=bv->∀p n,yC p π=av n->p<m
 |[],h,p,n,e=>by cases e
 |(q,r)::l,h,p,n,e=>by
  simp only[tU]at h;cases hb:ay q m
  ·rw[hb]at h;cases h
  ·rw[hb]at h;simp only[yC]at e;cases hq:ax q p
   ·rw[hq]at e;exact pF h p n e
   ·have:=ja hq;subst this;simpa[yj]using hb
def PR (f:Nat->NM->St->(NM->St->Prop)->Prop):List Nat->NM->St->(NM->St->Prop)->Prop
 |[],π,s,K=>K π s
 |j::js,π,s,K=>f j π s λπ s=>PR f js π s K
def Bx:fj->Nat->fj->NM->St->(NM->St->Prop)->Prop
 | .gone,_,_,π,s,K=>K π s
 | .ug _ t sz ez i f b m,n,o,π,s,K=>match o with
   | .ug _ t' oA lg i' f' b' m'=>bif ax t t' && ax sz oA then(ez=lg/\i=i'/\f=f'/\b=b')/\(match m,m' with
     |some p,av c=>K1 p c π λπ=>K π s
     |_,_=>False)else False
   | .own t' oA lg=>bif ax t t' && ax sz oA then(ez=lg/\b=bz)/\(match m with
     |some p=>(match yC p π with
      |none=>K ((p,s.nx)::π) (s.new .AG)
      |some _=>False)
     |none=>False)else False
   |_=>False
 | .cells vs t,n,o,π,s,K=>match o with
   | .cells Ar t'=>bif ax t t' then Ec vs Ar π s K else False
   | .ra T m ix x=>bif az 1 m then(match K4 s n m (ix x)with
     |(.cells Ar t',s')=>bif ax t t' then Ec vs Ar π s' K else False
     |_=>False)else False
   |_=>False
 | .own t sz ez,n,o,π,s,K=>match o with
   | .own t' oA lg=>bif ax t t' && ax sz oA then ez=lg/\K π s else False
   | .AG=>ez=[]/\K π s
   |_=>False
 | .vec ds t,n,o,π,s,K=>match o with
   | .cells vs t'=>bif ax t t' then ds.map V.d=vs/\K π s else False
   |o=>fj.vec ds t=o/\K π s
 | .map es,n,o,π,s,K=>match o with
   | .map Dw=>es=Dw/\K π s
   |_=>False
 | .iter b p,n,o,π,s,K=>match o with
   | .iter b' p'=>b=b'/\p=p'/\K π s
   |_=>False
 | .ra T m ix x,n,o,π,s,K=>match o with
   | .cells vs t=>bif az 1 m then PR (λj π s K=>match yC j π with
      |some n'=>match(match j with|0=>av (fj.cells vs t)|_=>s.CW n')with
       |some o'=>Bx (ix x j) n' o' π (match j with|0=>s|_=>s.IV n' o') K
       |none=>False
      |none=>False) (ba m) [(0,n)] s (λπ' s=>bif tU m π' then K π s else False)else False
   |o=>fj.ra T m ix x=o/\K π s
 | .kg sz ez,n,o,π,s,K=>match o with
   | .own t oA lg=>bif ax sz oA then ez=lg/\K π s else False
   |o=>fj.kg sz ez=o/\K π s
 | .jz t T m ix l hole,n,o,π,s,K=>match o with
   | .AG=>l=[]/\hole=aw/\K π s
   |o=>fj.jz t T m ix l hole=o/\K π s
 |o',n,o,π,s,K=>o'=o/\K π s
def Ip:Nat->List fj->NM->St->(NM->St->Prop)->Prop
 |_,[],π,s,K=>K π s
 |p,.gone::os,π,s,K=>Ip (p+1) os π s K
 |p,o::os,π,s,K=>match yC p π with
  |some n=>match s.CW n with
   |some o'=>Bx o n o' π (s.IV n o') λπ s=>Ip (p+1) os π s K
   |none=>False
  |none=>False
variable {k:Ko} {L:List HP} {w:ac}
def BP (E:Ev) (π:NM) (n:Nat) (o:fj):HP:=λh=>∀E2 π2,E.le E2->Ext π π2->∀tl,Loc π2 E2.ga tl->∃hd,E2.ga[n]? =av hd/\fp E2.F o tl hd h
def BP.mono {E E':Ev} {π π':NM} (hle:E.le E') (hx:Ext π π') {n:Nat} {o:fj} {h:PH} (e:BP E π n o h):BP E' π' n o h:=λE2 π2 a b tl c=>e E2 π2 (hle.trans a) (hx.trans b) tl c
def yGo:fj->Bool
 | .cells _ _=>bv
 | .ug _ _ _ _ _ _ _ _=>bv
 |_=>bz
def fp.ga {F:PH} {o:fj} (ho:yGo o=bz) {ga oE:List Hd} {hd:Hd} {h:PH} (e:fp F o ga hd h):fp F o oE hd h:=by
 cases o<;>first|(cases ho;done)|(simp only[fp]at e ⊢;exact e)
def fH {E:Ev} {π:NM} {n:Nat} {o:fj} (ho:yGo o=bz) (hg:o≠.gone) {h:PH} (e:gz E (n,o) h):BP E π n o h:=by
 rcases e with⟨e,_⟩|⟨hd,h1,h2⟩
 ·exact absurd e hg
 ·intro E2 π2 a b tl c;exact⟨hd,a.get h1,(h2.mono a.1 _ a.2).ga ho⟩
mutual
theorem VR.vc {π:NM} {F:PH} {tl ga:List Hd} (hr:∀p n hd,yC p π=av n->tl[p]? =av hd->ga[n]? =av hd):∀{v:V} {y:ab},VR ⟨F,tl⟩ v y->VR ⟨F,ga⟩ (A3 π v) y
 | .top,y,h=>by simp only[A3,VR]
 | .d d,y,h=>by simpa only[A3,VR]using h
 | .nm n o,y,h=>by
   simp only[A3];split
   ·rename_i m hm;simp only[VR]at h ⊢;obtain⟨b,oo,l,h1,h2⟩:=h;exact⟨b,oo,l,hr _ _ _ hm h1,h2⟩
   ·simp only[VR]
 | .el n sz i f,y,h=>by
   simp only[A3];split
   ·rename_i m hm;simp only[VR]at h ⊢;obtain⟨b,oo,mm,c,l,h1,h2⟩:=h;exact⟨b,oo,mm,c,l,hr _ _ _ hm h1,h2⟩
   ·simp only[VR]
 | .re sz ez i f,y,h=>by simpa only[A3,VR]using h
 | .na n o i,y,h=>by simp only[A3,VR]
 | .own n,y,h=>by
   simp only[A3];split
   ·rename_i m hm;simp only[VR]at h ⊢;obtain⟨l,h1,h2⟩:=h;exact⟨l,hr _ _ _ hm h1,h2⟩
   ·simp only[VR]
 | .mp n,y,h=>by
   simp only[A3];split
   ·rename_i m hm;simp only[VR]at h ⊢;obtain⟨b,l,h1,h2⟩:=h;exact⟨b,l,hr _ _ _ hm h1,h2⟩
   ·simp only[VR]
 | .sub n i,y,h=>by
   simp only[A3];split
   ·rename_i m hm;simp only[VR]at h ⊢;obtain⟨hd,l,b,oo,h1,h2⟩:=h;exact⟨hd,l,b,oo,hr _ _ _ hm h1,h2⟩
   ·simp only[VR]
 | .agg l,y,h=>by
   simp only[A3,VR]at h ⊢;obtain⟨ys,h1,h2⟩:=h;exact⟨ys,h1,gw.vc hr h2⟩
 | .iZ l,y,h=>by
   simp only[A3,VR]at h ⊢;obtain⟨ys,h1,h2⟩:=h;exact⟨ys,h1,gw.vc hr h2⟩
 | .fn f a b,y,h=>by
   simp only[A3,VR]at h ⊢;obtain⟨as,bs,h1,h2,h3⟩:=h;exact⟨as,bs,h1,gw.vc hr h2,gw.vc hr h3⟩
 | .zy t x,y,h=>by
   simp only[A3,VR]at h ⊢;obtain⟨z,h1,h2⟩:=h;exact⟨z,h1,VR.vc hr h2⟩
theorem gw.vc {π:NM} {F:PH} {tl ga:List Hd} (hr:∀p n hd,yC p π=av n->tl[p]? =av hd->ga[n]? =av hd):∀{vs:List V} {l:List ab},gw ⟨F,tl⟩ vs l->gw ⟨F,ga⟩ (H9 π vs) l
 |[],l,h=>by simpa only[H9,gw]using h
 |v::vs,l,h=>by
  simp only[H9,gw]at h ⊢;obtain⟨x,xs,h1,h2,h3⟩:=h;exact⟨x,xs,h1,VR.vc hr h2,gw.vc hr h3⟩
end
def fp.vc {π:NM} {F:PH} {tl ga:List Hd} (hr:∀p n hd,yC p π=av n->tl[p]? =av hd->ga[n]? =av hd) {o:fj} {hd:Hd} {h:PH} (e:fp F o tl hd h):fp F (EJ π o) ga hd h:=by
 cases o<;>simp only[EJ]<;>first|exact e.ga rfl|skip
 ·simp only[fp]at e ⊢;obtain⟨b,l,h1,h2,h3⟩:=e;exact⟨b,l,h1,h2.vc hr,h3⟩
 ·rename_i q t sz ez i f b m;simp only[fp]at e ⊢;obtain⟨a,k,ys,xs,h1,h2,h3,h4,h5⟩:=e;refine⟨a,k,ys,xs,h1,h2,h3,?_,h5⟩;cases m with
  |none=>exact h4
  |some m=>
   obtain⟨y,l,e1,e2,e3⟩:=h4;simp only[oN];cases hm:yC m π with
   |none=>exact⟨y,e2,e3⟩
   |some m'=>exact⟨y,l,hr _ _ _ hm e1,e2,e3⟩
def yKr {n nx m j:Nat} (hj:j+1<m):yC (j+1) (nG n nx m)=av (nx+j):=by
 unfold nG;simp only[yC,ax,cond_false];have:∀(a c:Nat),a<=j->j<a+c->yC (j+1) ((List.range' a c).map λj=>(j+1,nx+j))=av (nx+j):=by
  intro a c
  induction c generalizing a with
  |zero=>intro h1 h2;omega
  |succ c ih=>
   intro h1 h2;simp only[List.range'_succ,jj,yC];cases hb:ax (a+1) (j+1)
   ·have jr:a≠j:=λe=>by subst e;simp at hb
    exact ih (a+1) (by omega) (by omega)
   ·have:=ja hb;have e:a=j:=by omega
    subst e;rfl
 rw[List.range_eq_range'];exact this 0 (m-1) (by omega) (by omega)
def zVd {n nx m p q:Nat} (h:yC p (nG n nx m)=av q):(p=0/\q=n)\/∃j,p=j+1/\q=nx+j/\j+1<m:=by
 unfold nG at h;simp only[yC]at h;cases hb:ax 0 p
 ·rw[hb]at h;right;simp only[cond_false]at h;rw[List.range_eq_range']at h;have:∀(a c:Nat),yC p ((List.range' a c).map λj=>(j+1,nx+j))=av q->∃j,p=j+1/\q=nx+j/\j<a+c:=by
   intro a c
   induction c generalizing a with
   |zero=>intro h;simp[yC]at h
   |succ c ih=>
    intro h;simp only[List.range'_succ,jj,yC]at h;cases hb:ax (a+1) p
    ·rw[hb]at h;obtain⟨j,h1,h2,h3⟩:=ih (a+1) h;exact⟨j,h1,h2,by omega⟩
    ·rw[hb]at h;simp only[cond_true,cg]at h;exact⟨a,(ja hb).symm,h.symm,by omega⟩
  obtain⟨j,h1,h2,h3⟩:=this 0 (m-1) h;exact⟨j,h1,h2,by omega⟩
 ·rw[hb]at h;left;simp only[cond_true,cg]at h;exact⟨(ja hb).symm,h.symm⟩
def Rel.unfold {E:Ev} {s:St} {n m:Nat} {T:Type} {ix:T->Nat->fj} {x:T} (R:Rel k (gz E (n,.ra T m ix x)::L) E s w) (hm:1<=m):
 ∃E',E.le E'/\Rel k (gz E' (n,(K4 s n m (ix x)).1)::L) E' (K4 s n m (ix x)).2 w:=by
 have H:=R.out;obtain⟨hd,jx,h1,h2,h3,H⟩:∃hd jx,E.ga[n]? =av hd/\jx[0]? =av hd/\jx.length=m/\
  Hp k w (hS ((ba m).map λj=>λh=>∃oO,jx[j]? =av oO/\fp E.F (ix x j) jx oO h)::(s.rows.map (gz E)++fz E.F::L)):=by
  obtain⟨hk,hs,hh⟩:=H;cases hh with
  |cons ha iU HK hr=>
   rcases ha with⟨e,_⟩|⟨hd,q1,q2⟩
   ·cases e
   ·simp only[fp]at q2;obtain⟨jx,q3,q4,q5⟩:=q2;exact⟨hd,jx,q1,q3,q4,hk,_,.cons q5 iU HK hr⟩
 let E':Ev:=⟨E.F,E.ga++jx.drop 1⟩
 have hle:E.le E':=⟨xp.refl _,JN _ _⟩
 have AI:∀p q oO,yC p (nG n s.nx m)=av q->jx[p]? =av oO->E'.ga[q]? =av oO:=by
  intro p q oO hp ht;rcases zVd hp with⟨rfl,rfl⟩|⟨j,rfl,rfl,hj⟩
  ·rw[h2]at ht;cases ht;exact hle.get h1
  ·show(E.ga++jx.drop 1)[s.nx+j]? =av oO;rw[<- R.nx,Dg (by omega),Bs];rw[show E.ga.length+j-E.ga.length=j by omega,Ih];exact ht
 have H2:=(qv.1 H)
 have AO:ba m=0::(ba (m-1)).map (·+1):=by
  have:m=(m-1)+1:=by omega
  rw[this,List.range_succ_eq_map];simp
 rw[AO]at H2;simp only[jj,vy,ui]at H2;refine⟨E',hle,Rel.JT (by show(E.ga++jx.drop 1).length=s.nx+(m-1);rw[iv,o8,R.nx,h3]) ?_⟩;have TS:∀l:List Nat,(∀j∈l,j+1<m)->(Pc (ix x) (nG n s.nx m) s.nx l)=l.map λj=>(s.nx+j,EJ (nG n s.nx m) (ix x (j+1))):=by
  intro l
  induction l with
  |nil=>intro _;rfl
  |cons j l ih=>intro h;simp only[Pc,jj];rw[ih λj hj=>h j (jc _ hj)]
 have xo:=TS (ba (m-1)) (λj hj=>by have:=CB.1 hj;omega);show Hp k w (gz E' (n,EJ (nG n s.nx m) (ix x 0))::((Pc (ix x) (nG n s.nx m) s.nx (ba (m-1))++s.rows).map (gz E')++fz E.F::L));rw[xo,jl,vy,iY];have H3:Hp k w ((ba (m-1)).map ((λj=>λh=>∃oO,jx[j]? =av oO/\fp E.F (ix x j) jx oO h)∘(·+1))++((λh=>∃oO,jx[0]? =av oO/\fp E.F (ix x 0) jx oO h)::(s.rows.map (gz E)++fz E.F::L))):=H2.perm mh.symm
 have H4:=vG (g:=(gz E')∘λj=>(s.nx+j,EJ (nG n s.nx m) (ix x (j+1)))) (λj y hy=>by
  obtain⟨oO,e1,e2⟩:=hy;right;have hj:j+1<m:=by
   have:=(jf.1 e1).1;simp only at this;omega
  exact⟨oO,AI _ _ _ (yKr hj) e1,e2.vc AI⟩) H3
 have H5:=H4.perm mh;have H6:=H5.imp (B:=gz E' (n,EJ (nG n s.nx m) (ix x 0))) (λy hy=>by
  obtain⟨oO,e1,e2⟩:=hy;right;rw[h2]at e1;cases e1;exact⟨hd,hle.get h1,e2.vc AI⟩)
 have H7:Hp k w (s.rows.map (gz E)++(gz E' (n,EJ (nG n s.nx m) (ix x 0))::((ba (m-1)).map ((gz E')∘λj=>(s.nx+j,EJ (nG n s.nx m) (ix x (j+1))))++fz E.F::L))):=by
  refine H6.perm ?_;refine List.Perm.trans ?_ mh.symm;refine .cons _ ?_;rw[<- iY,<- iY];exact Bu.append_right _
 have H8:=vG (λr y=>gz.mono hle r) H7;refine H8.perm ?_;refine mh.trans (.cons _ ?_);rw[<- iY,<- iY];exact Bu.append_right _
def yKs {n p q:Nat} (h:yC p [(0,n)]=av q):p=0/\q=n:=by
 simp only[yC]at h;cases hb:ax 0 p
 ·rw[hb]at h;cases h
 ·rw[hb]at h;simp only[cond_true,cg]at h;exact⟨(ja hb).symm,h.symm⟩
def y2x (o':fj):Prop:=∀{k:Ko} {L:List HP} {w:ac} {n:Nat} {o:fj} {π:NM} {s:St} {K:NM->St->Prop} {E:Ev},Bx o' n o π s K->Rel k (gz E (n,o)::L) E s w->Az π E.ga->o≠.gone->
 ∃E' π' s',xg k (BP E' π' n o'::L) w E π E' π' s'/\K π' s'
def PJ (g:Nat->fj) (E:Ev) (π:NM) (j:Nat):HP:=λh=>∃n,yC j π=av n/\BP E π n (g j) h
def PJ.mono {g:Nat->fj} {E E':Ev} {π π':NM} (hle:E.le E') (hx:Ext π π') {j:Nat} {h:PH} (e:PJ g E π j h):PJ g E' π' j h:=by
 obtain⟨n,h1,h2⟩:=e;exact⟨n,hx _ _ h1,h2.mono hle hx⟩
def Rel.aam {α:Type} {f g:α->HP} (h:∀a x,f a x->g a x) {l:List α} {E:Ev} {s:St} (R:Rel k (l.map f++L) E s w):Rel k (l.map g++L) E s w:=by
 refine⟨R.nx,?_⟩;have H:Hp k w (l.map f++(s.rows.map (gz E)++fz E.F::L)):=by
  refine R.hp.perm ?_;rw[show s.rows.map (gz E)++fz E.F::(l.map f++L)=(s.rows.map (gz E)++[fz E.F])++(l.map f++L)by simp,<- iY,show l.map f++(s.rows.map (gz E)++fz E.F::L)=(l.map f++(s.rows.map (gz E)++[fz E.F]))++L by simp];exact Bu.append_right _
 have H2:=vG h H;refine H2.perm ?_;rw[show s.rows.map (gz E)++fz E.F::(l.map g++L)=((s.rows.map (gz E)++[fz E.F])++l.map g)++L by simp,show l.map g++(s.rows.map (gz E)++fz E.F::L)=(l.map g++(s.rows.map (gz E)++[fz E.F]))++L by simp];exact Bu.append_right _
def Rel.AP {E:Ev} {s:St} {A:List HP} (R:Rel k (A++L) E s w):Hp k w (A++(s.rows.map (gz E)++fz E.F::L)):=by
 refine R.hp.perm ?_;rw[show s.rows.map (gz E)++fz E.F::(A++L)=(s.rows.map (gz E)++[fz E.F])++(A++L)by simp,<- iY,show A++(s.rows.map (gz E)++fz E.F::L)=(A++(s.rows.map (gz E)++[fz E.F]))++L by simp];exact Bu.append_right _
def z6h {g:Nat->fj} (hg:∀j,y2x (g j)) {c:Option fj}:∀{js:List Nat} {done:List Nat} {π:NM} {s:St} {K:NM->St->Prop} {E:Ev},(0∉js)->
 PR (λj π s K=>match yC j π with
  |some n'=>match(match j with|0=>c|_=>s.CW n')with
   |some o'=>Bx (g j) n' o' π (match j with|0=>s|_=>s.IV n' o') K
   |none=>False
  |none=>False) js π s K->Rel k (done.map (PJ g E π)++L) E s w->Az π E.ga->
 ∃E' π' s',xg k ((js.reverse++done).map (PJ g E' π')++L) w E π E' π' s'/\K π' s'
 |[],done,π,s,K,E,h0,h,R,hw=>⟨E,π,s,⟨Ev.le.refl _,Ext.refl _,hw,by simpa using R⟩,h⟩
 |j::js,done,π,s,K,E,h0,h,R,hw=>by
  simp only[PR]at h;split at h<;>first|exact h.elim|skip
  rename_i n' XS;cases j with
  |zero=>exact absurd iS h0
  |succ j=>
   simp only at h;split at h<;>first|exact h.elim|skip
   rename_i o' oG;obtain⟨oG,T4⟩:=Wb oG
   ·have R1:=R.gq oG;obtain⟨E1,π1,s1,q1,q2⟩:=hg (j+1) h R1 hw T4;have R2:Rel k (((j+1)::done).map (PJ g E1 π1)++L) E1 s1 w:=by
     have R3:=q1.rel.qi (B:=PJ g E1 π1 (j+1)) λx hx=>⟨n',q1.ext _ _ XS,hx⟩
     have R4:Rel k (done.map (PJ g E π)++(PJ g E1 π1 (j+1)::L)) E1 s1 w:=⟨R3.nx,R3.hp.perm (by
      refine cd _ (.cons _ ?_);exact mh.symm)⟩
     have R5:=R4.aam (g:=PJ g E1 π1) λa x hx=>hx.mono q1.le q1.ext
     exact⟨R5.nx,R5.hp.perm (by
      refine cd _ (.cons _ ?_);exact mh)⟩
    obtain⟨E2,π2,s2,r1,r2⟩:=z6h hg (λhm=>h0 (jc _ hm)) q2 R2 q1.wf;refine⟨E2,π2,s2,⟨q1.le.trans r1.le,q1.ext.trans r1.ext,r1.wf,?_⟩,r2⟩;have:=r1.rel;simpa using this
def yUe {E:Ev}:∀{ds:List D} {l:List ab},gw E (ds.map V.d) l->iy E.F ds l
 |[],l,h=>by simpa only[B9,gw,iy]using h
 |d::ds,l,h=>by
  simp only[jj,gw,VR]at h;obtain⟨x,xs,h1,h2,h3⟩:=h;simp only[iy];exact⟨x,xs,h1,h2,yUe h3⟩
def y8m:∀o',y2x o':=by
 intro o'
 induction o' with
 |gone=>
  intro k L w n o π s K E h R hw hg;simp only[Bx]at h;have H:=R.out;refine⟨E,π,s,⟨Ev.le.refl _,Ext.refl _,hw,?_⟩,h⟩;obtain⟨hd,x,q1,_,_⟩:∃hd x,E.ga[n]? =av hd/\fp E.F o E.ga hd x/\Sub x w:=by
   obtain⟨x,hx,hs⟩:=H.sat;rcases hx with⟨e,_⟩|⟨hd,h1,h2⟩
   ·exact absurd e hg
   ·exact⟨hd,x,h1,h2,hs⟩
  refine Rel.JT R.nx (((@h9 k w True _).2 ⟨trivial,H.drop⟩).imp λx hx=> ?_);intro E2 π2 a b tl c;exact⟨hd,a.get q1,by simp only[fp];exact hx.2⟩
 |ug q t sz ez i f b m=>
  intro k L w n o π s K E h R hw hg;simp only[Bx]at h;split at h<;>first|exact h.elim|skip
  ·rename_i q' t' oA lg i' f' b' m';have hh:=zM h;clear h;obtain⟨hb,⟨rfl,rfl,rfl,rfl⟩,h⟩:=hh;simp only[lj]at hb;have e1:=ja hb.1;have e2:=ja hb.2;subst e1 e2;split at h<;>first|exact h.elim|skip
   rename_i p c;obtain⟨hdc,hc⟩:∃hd,E.ga[c]? =av hd:=by
    obtain⟨x,hx,_⟩:=R.out.sat;rcases hx with⟨e,_⟩|⟨hd,h1,h2⟩
    ·cases e
    simp only[fp]at h2;obtain⟨A,k',ys,xs,e1,e2,e3,⟨y,l,e4,_⟩,_⟩:=h2;exact⟨_,e4⟩
   obtain⟨π',q1,q2,q3,q4⟩:=sZ h hw hc;refine⟨E,π',s,⟨Ev.le.refl _,q1,q2,R.qi λx hx=> ?_⟩,q4⟩;rcases hx with⟨e,_⟩|⟨hd,h1,h2⟩
   ·cases e
   intro E2 π2 a b' tl hl;refine⟨hd,a.get h1,?_⟩;simp only[fp]at h2 ⊢;obtain⟨A,k',ys,xs,e1,e2,e3,⟨y,l,e4,e5⟩,e6⟩:=h2;obtain⟨oO,r1,r2⟩:=hl p c (b' p c q3);rw[a.get e4]at r1;cases r1;exact⟨A,k',ys,xs,e1,e2.mono a.1,e3,⟨y,l,r2,e5⟩,e6⟩
  ·rename_i t' oA lg;have hh:=zM h;clear h;obtain⟨hb,⟨rfl,rfl⟩,h⟩:=hh;simp only[lj]at hb;have e1:=ja hb.1;have e2:=ja hb.2;subst e1 e2;split at h<;>first|exact h.elim|skip
   rename_i p;split at h<;>first|exact h.elim|skip
   rename_i hm;obtain⟨E',r1,r2,r3⟩:=R.Gv;have yz:yC p ((p,s.nx)::π)=av s.nx:=by simp[yC]
   refine⟨E',_,_,⟨r1,λq m e=> ?_,λq m e=> ?_,r2.qi λx hx=> ?_⟩,h⟩
   ·simp only[yC];cases hb:ax p q
    ·exact e
    ·have:=ja hb;subst this;rw[hm]at e;cases e
   ·simp only[yC]at e;cases hb:ax p q
    ·rw[hb]at e;obtain⟨hd,h'⟩:=hw q m e;exact⟨hd,r1.get h'⟩
    ·rw[hb]at e;cases e;exact⟨_,r3⟩
   rcases hx with⟨e,_⟩|⟨hd,h1,h2⟩
   ·cases e
   intro E2 π2 a b' tl hl;refine⟨hd,a.get (r1.get h1),?_⟩;simp only[fp]at h2 ⊢;obtain⟨A,k',xs,e1,e2,e3,e4⟩:=h2;obtain⟨oO,z1,z2⟩:=hl p _ (b' p _ yz);rw[a.get r3]at z1;cases z1;exact⟨A,k',xs,xs,e1,(e2.mono r1.1).mono a.1,e3,⟨_,_,z2,⟨aw,0,0,rfl⟩,rfl⟩,e4⟩
 |AG=>
  intro k L w n o π s K E h R hw hg;simp only[Bx]at h;obtain⟨rfl,h⟩:=h;exact⟨E,π,s,⟨Ev.le.refl _,Ext.refl _,hw,R.qi λx hx=>fH rfl (by simp) hx⟩,h⟩
 |kg sz ez=>
  intro k L w n o π s K E h R hw hg;simp only[Bx]at h;split at h
  ·rename_i t oA lg;obtain⟨hb,e9,hK⟩:=zM h;subst e9;have e:=ja hb;subst e;have H:Hp k w (gz E (n,.own t sz ez)::fz E.F::(s.rows.map (gz E)++L)):=R.out.cons mh;obtain⟨x,hx,hd,iU,H⟩:=Yv H;rcases hx with⟨e,_⟩|⟨hv,h1,h2⟩
   ·cases e
   simp only[fp]at h2;obtain⟨a,c,xs,h3,h4,h5,h6⟩:=h2;have hle:E.le ⟨un x E.F,E.ga⟩:=⟨yBa hd,JJ _⟩
   have hdr:DR (un x E.F) (.ro sz ez) hv.1:=by
    simp only[DR];refine⟨a,c,h3,(UA h6).2,h5,?_⟩;rcases h6 with⟨rfl,q2,rfl,rfl,rfl⟩|⟨b,r,rfl,rfl,q3,q4,q5⟩
    ·exact .inl (xu q2)
    ·refine .inr ⟨b,0,xs++r,t,(0,0),rfl,?_,oS.2 ⟨xs,r,rfl,h4.mono hle.1⟩⟩;simp[un,one]
   have H1:Hp k w (s.rows.map (gz E)++fz (un x E.F)::L):=H.perm mh.symm;have H2:=vG (λr x=>gz.mono hle r) H1;have H3:=yQm H2;refine⟨⟨un x E.F,E.ga⟩,π,s,⟨hle,Ext.refl _,hw,Rel.JT R.nx (H3.imp λy hy=> ?_)⟩,hK⟩;intro E2 π2 a1 b1 tl c1;refine⟨hv,a1.get h1,?_⟩;simp only[fp];exact⟨hy,hdr.mono a1.1⟩
  ·obtain⟨rfl,h⟩:=h;exact⟨E,π,s,⟨Ev.le.refl _,Ext.refl _,hw,R.qi λx hx=>fH rfl (by simp) hx⟩,h⟩
 |jz t T m ix l hole ih=>
  intro k L w n o π s K E h R hw hg;simp only[Bx]at h;split at h
  ·obtain⟨rfl,rfl,h⟩:=h;refine⟨E,π,s,⟨Ev.le.refl _,Ext.refl _,hw,R.qi λx hx=>fH (o:= .jz t T m ix [] aw) rfl (by simp) ?_⟩,h⟩;rcases hx with⟨e,_⟩|⟨hd,h1,h2⟩
   ·cases e
   ·simp only[fp]at h2;obtain⟨rfl,e1,e2⟩:=h2;refine .inr ⟨hd,h1,qw.2 ⟨aw,0,e1,by rw[e2];rfl,λp hp=>(by rw[e2]at hp;exact(nomatch hp)),pe,pe,by rw[e2];exact yHn t 1,rfl,?_,?_⟩⟩
    ·intro b;exact .inl rfl
    ·funext b;rfl
  ·obtain⟨rfl,h⟩:=h;exact⟨E,π,s,⟨Ev.le.refl _,Ext.refl _,hw,R.qi λx hx=>fH rfl (by simp) hx⟩,h⟩
 |vec ds t=>
  intro k L w n o π s K E h R hw hg;simp only[Bx]at h;split at h
  ·obtain⟨hb,e9,hK⟩:=zM h;subst e9;have e:=ja hb;subst e;refine⟨E,π,s,⟨Ev.le.refl _,Ext.refl _,hw,R.qi λx hx=>fH (o:= .vec ds t) rfl (by simp) ?_⟩,hK⟩;rcases hx with⟨e,_⟩|⟨hd,h1,h2⟩
   ·cases e
   ·simp only[fp]at h2;obtain⟨b,l,e1,e2,e3⟩:=h2;refine .inr ⟨hd,h1,?_⟩;simp only[fp];exact⟨b,l,e1,yUe e2,e3⟩
  ·obtain⟨rfl,h⟩:=h;exact⟨E,π,s,⟨Ev.le.refl _,Ext.refl _,hw,R.qi λx hx=>fH rfl (by simp) hx⟩,h⟩
 |map es=>
  intro k L w n o π s K E h R hw hg;simp only[Bx]at h;split at h<;>first|exact h.elim|skip
  obtain⟨rfl,h⟩:=h;exact⟨E,π,s,⟨Ev.le.refl _,Ext.refl _,hw,R.qi λx hx=>fH rfl (by simp) hx⟩,h⟩
 |CN es kv x=>
  intro k L w n o π s K E h R hw hg;simp only[Bx]at h;obtain⟨rfl,h⟩:=h;exact⟨E,π,s,⟨Ev.le.refl _,Ext.refl _,hw,R.qi λx hx=>fH rfl (by simp) hx⟩,h⟩
 |HA t ez=>
  intro k L w n o π s K E h R hw hg;simp only[Bx]at h;obtain⟨rfl,h⟩:=h;exact⟨E,π,s,⟨Ev.le.refl _,Ext.refl _,hw,R.qi λx hx=>fH rfl (by simp) hx⟩,h⟩
 |iter b p=>
  intro k L w n o π s K E h R hw hg;simp only[Bx]at h;split at h<;>first|exact h.elim|skip
  obtain⟨rfl,rfl,h⟩:=h;exact⟨E,π,s,⟨Ev.le.refl _,Ext.refl _,hw,R.qi λx hx=>fH rfl (by simp) hx⟩,h⟩
 |own t sz ez=>
  intro k L w n o π s K E h R hw hg;simp only[Bx]at h;split at h<;>first|exact h.elim|skip
  ·obtain⟨hb,rfl,hk⟩:=zM h;simp only[lj]at hb;have e1:=ja hb.1;have e2:=ja hb.2;subst e1 e2;exact⟨E,π,s,⟨Ev.le.refl _,Ext.refl _,hw,R.qi λx hx=>fH rfl (by simp) hx⟩,hk⟩
  ·obtain⟨rfl,h⟩:=h;refine⟨E,π,s,⟨Ev.le.refl _,Ext.refl _,hw,R.qi λx hx=> ?_⟩,h⟩;rcases hx with⟨e,_⟩|⟨hd,h1,h2⟩
   ·cases e
   ·intro E2 π2 a b tl c;simp only[fp]at h2;refine⟨hd,a.get h1,?_⟩;simp only[fp];exact⟨aw,0,[],h2.2.1,by simp[iy],by simp,.inl ⟨rfl,rfl,rfl,rfl,h2.1⟩⟩
 |cells vs t=>
  intro k L w n o π s K E h R hw hg;have key:∀{E:Ev} {s:St} {Ar:List V} {π:NM},Rel k (gz E (n,.cells Ar t)::L) E s w->Az π E.ga->Ec vs Ar π s K->∃E' π' s',xg k (BP E' π' n (.cells vs t)::L) w E π E' π' s'/\K π' s':=by
   intro E s Ar π R hw h;have H:=R.out;obtain⟨b,l,sub,h1,h2,H⟩:∃b l sub,E.ga[n]? =av (.pointer (av ⟨b,0,aw⟩),sub)/\gw E Ar l/\Hp k w (pt b (.cells l.toArray t)::(s.rows.map (gz E)++fz E.F::L)):=by
    obtain⟨hk,hs,hh⟩:=H;cases hh with
    |cons ha iU HK hr=>
     rcases ha with⟨e,_⟩|⟨⟨hv,sub⟩,q1,q2⟩
     ·cases e
     ·simp only[fp]at q2;obtain⟨b,l,rfl,q3,rfl⟩:=q2;exact⟨b,l,sub,q1,q3,hk,_,.cons rfl iU HK hr⟩
   have R1:Rel k (pt b (.cells l.toArray t)::L) E s w:=Rel.JT R.nx H;obtain⟨E',π',s',q1,q2,q3⟩:=Js h R1 hw h2;refine⟨E',π',s',⟨q1.le,q1.ext,q1.wf,q1.rel.qi λx hx=> ?_⟩,q3⟩;intro E2 π2 a b' tl c;refine⟨_,a.get (q1.le.get h1),?_⟩;simp only[fp];exact⟨b,l,rfl,q2 E2 π2 a b' tl c,hx⟩
  simp only[Bx]at h;split at h<;>first|exact h.elim|skip
  ·obtain⟨hb,hk⟩:=zM h;have e:=ja hb;subst e;exact key R hw hk
  ·rename_i T m ix x;obtain⟨hb,h⟩:=zM h;obtain⟨E1,q1,q2⟩:=R.unfold (Cc hb);revert q2 h;generalize K4 s n m (ix x)=u;obtain⟨u1,u2⟩:=u;intro h q2;simp only at h q2;split at h<;>first|exact h.elim|skip
   rename_i Ar t' s' heq;cases heq;obtain⟨hb,hk⟩:=zM h;have e:=ja hb;subst e;obtain⟨E',π',s2,r1,r2⟩:=key q2 (hw.mono q1) hk;exact⟨E',π',s2,⟨q1.trans r1.le,r1.ext,r1.wf,r1.rel⟩,r2⟩
 |ra T m ix x ih=>
  intro k L w n o π s K E h R hw hg;unfold Bx at h;split at h
  ·rename_i vs t;obtain⟨hb,h⟩:=zM h;have hm:=Cc hb;have AO:ba m=0::(ba (m-1)).map (·+1):=by
    have:m=(m-1)+1:=by omega
    rw[this,List.range_succ_eq_map];simp
   obtain⟨hd,hd1⟩:∃hd,E.ga[n]? =av hd:=by
    obtain⟨x,hx,_⟩:=R.out.sat;rcases hx with⟨e,_⟩|⟨hd,h1,_⟩
    ·cases e
    ·exact⟨hd,h1⟩
   have RF:Az [(0,n)] E.ga:=λp q e=>by
    obtain⟨_,rfl⟩:=yKs e;exact⟨hd,hd1⟩
   rw[AO]at h;simp only[PR]at h;have yz:yC 0 [(0,n)]=av n:=rfl;rw[yz]at h;simp only at h;obtain⟨E1,π1,s1,q1,q2⟩:=ih x 0 h R RF (by simp);have R2:Rel k ([0].map (PJ (ix x) E1 π1)++L) E1 s1 w:=q1.rel.qi λy hy=>⟨n,q1.ext _ _ yz,hy⟩
   obtain⟨E2,π2,s2,r1,r2⟩:=z6h (λj=>ih x j) (c:=av (fj.cells vs t)) (by simp) q2 R2 q1.wf;have hle:=q1.le.trans r1.le;obtain⟨gn,r2⟩:=zM r2;refine⟨E2,π,s2,⟨hle,Ext.refl _,hw.mono hle,?_⟩,r2⟩;have H:=r1.rel.AP;have H2:Hp k w ((ba m).map (PJ (ix x) E2 π2)++(s2.rows.map (gz E2)++fz E2.F::L)):=by
    refine H.perm (ce _ (List.Perm.map _ ?_));rw[AO];refine(List.reverse_perm _).append_right _|>.trans ?_
    exact Bu
   refine Rel.JT r1.rel.nx ((qv.2 H2).imp λy hy=> ?_);intro E3 π3 a b tl c;have tf:∀j,j<m->∃n,yC j π2=av n:=by
    intro j hj;have hs:∀{l:List HP} {y:PH},hS l y->∀A∈l,∃z,A z:=by
     intro l
     induction l with
     |nil=>intro y _ A hA;cases hA
     |cons B l ih=>
      intro y hy A hA;cases l with
      |nil=>rcases uc.1 hA with rfl;exact⟨y,hy⟩
      |cons C l=>
       obtain⟨g,g',h1,h2,_,_⟩:=hy;rcases jq.1 hA with rfl|hA
       ·exact⟨g,h1⟩
       ·exact ih h2 A hA
    obtain⟨z,n,hz,_⟩:=hs hy (PJ (ix x) E2 π2 j) (oe.2 ⟨j,CB.2 hj,rfl⟩);exact⟨n,hz⟩
   let jx:List Hd:=(ba m).map λj=>(E3.ga[(yC j π2).getD 0]?).getD (ag,[])
   have S5:∀j n,j<m->yC j π2=av n->∃hd,E3.ga[n]? =av hd/\jx[j]? =av hd:=by
    intro j n hj hn;obtain⟨hd,h'⟩:=r1.wf j n hn;refine⟨hd,a.get h',?_⟩;show((ba m).map _)[j]? =_;rw[rf,LH hj];simp only[we,hn,zt,a.get h']
   have td:Loc π2 E3.ga jx:=λp q e=>S5 p q (pF gn p q e) e
   refine⟨hd,a.get (hle.get hd1),?_⟩;simp only[fp];refine⟨jx,?_,by simp[jx],?_⟩
   ·have h0:yC 0 π2=av n:=r1.ext _ _ (q1.ext _ _ yz);obtain⟨oO,e1,e2⟩:=S5 0 n (by omega) h0;rw[a.get (hle.get hd1)]at e1;cases e1;exact e2
   ·refine K9 ?_ hy;rintro j z ⟨nj,hj,hz⟩;obtain⟨oO,e1,e2⟩:=hz E3 π2 a (Ext.refl _) jx td;obtain⟨Aw,e3,e4⟩:=td j nj hj;rw[e1]at e3;cases e3;exact⟨oO,e4,e2⟩
  ·obtain⟨rfl,h⟩:=h;exact⟨E,π,s,⟨Ev.le.refl _,Ext.refl _,hw,R.qi λx hx=>fH rfl (by simp) hx⟩,h⟩
variable {k:Ko} {L:List HP} {w:ac}
def gV:Nat->List fj->List (Nat×fj)
 |_,[]=>[]
 |p,o::os=>(p,o)::gV (p+1) os
def PQ (E:Ev) (π:NM) (r:Nat×fj):HP:=λh=>(r.2= .gone/\h=pe)\/∃n,yC r.1 π=av n/\BP E π n r.2 h
def PQ.mono {E E':Ev} {π π':NM} (hle:E.le E') (hx:Ext π π') (r:Nat×fj) {h:PH} (e:PQ E π r h):PQ E' π' r h:=by
 rcases e with e|⟨n,h1,h2⟩
 ·exact .inl e
 ·exact .inr ⟨n,hx _ _ h1,h2.mono hle hx⟩
def Wo:∀{os:List fj} {p:Nat} {π:NM} {s:St} {K:NM->St->Prop} {E:Ev} {L:List HP},Ip p os π s K->Rel k L E s w->Az π E.ga->
 ∃E' π' s',xg k ((gV p os).map (PQ E' π')++L) w E π E' π' s'/\K π' s'
 |[],p,π,s,K,E,L,h,R,hw=>⟨E,π,s,⟨Ev.le.refl _,Ext.refl _,hw,R⟩,h⟩
 |o::os,p,π,s,K,E,L,h,R,hw=>by
  have fin:∀{E1:Ev} {π1:NM} {s1:St},xg k (PQ E1 π1 (p,o)::L) w E π E1 π1 s1->Ip (p+1) os π1 s1 K->∃E' π' s',xg k ((gV p (o::os)).map (PQ E' π')++L) w E π E' π' s'/\K π' s':=by
   intro E1 π1 s1 q1 q2;obtain⟨E2,π2,s2,r1,r2⟩:=Wo q2 q1.rel q1.wf;refine⟨E2,π2,s2,⟨q1.le.trans r1.le,q1.ext.trans r1.ext,r1.wf,?_⟩,r2⟩;have R3:=r1.rel;have R4:Rel k (PQ E1 π1 (p,o)::((gV (p+1) os).map (PQ E2 π2)++L)) E2 s2 w:=⟨R3.nx,R3.hp.perm (by
    refine cd _ (.cons _ ?_);exact mh)⟩
   exact R4.qi λx hx=>hx.mono r1.le r1.ext
  cases o with
  |gone=>
   simp only[Ip]at h;refine fin ⟨Ev.le.refl _,Ext.refl _,hw,?_⟩ h;exact Rel.JT R.nx (((@h9 k w True _).2 ⟨trivial,R.hp⟩).imp λx hx=> .inl ⟨rfl,hx.2⟩)
  |_=>
   simp only[Ip]at h;split at h<;>first|exact h.elim|skip
   rename_i n hn;split at h<;>first|exact h.elim|skip
   rename_i o' oG;obtain⟨oG,hg⟩:=Wb oG;obtain⟨E1,π1,s1,q1,q2⟩:=y8m _ h (R.gq oG) hw hg;exact fin ⟨q1.le,q1.ext,q1.wf,q1.rel.qi λx hx=> .inr ⟨n,q1.ext _ _ hn,hx⟩⟩ q2
structure Alt where
 o:Type
 res:o->V
 post:o->List fj
 rel:o->Prop
structure fy where
 ι:Type
 pat:ι->List V
 pre:ι->List fj
 dp:ι->Prop
 alts:ι->List Alt
def Hn (m nx:Nat):Nat->NM->NM
 |0,π=>π
 |q+1,π=>Hn m nx q ((m+q,nx+q)::π)
def kW (π:NM):Nat->List fj->List (Nat×fj)
 |_,[]=>[]
 |p,.gone::os=>kW π (p+1) os
 |p,o::os=>match yC p π with
  |some n=>(n,EJ π o)::kW π (p+1) os
  |none=>kW π (p+1) os
def y4o (m:Nat) (π:NM) (s:St) (os:List fj):St:=⟨kW (Hn m s.nx (os.length-m) π) 0 os++s.rows,s.nx+(os.length-m)⟩
def y7b (m:Nat) (π:NM) (s:St) (K:V->St->Prop) (a:Alt):Prop:=
 ∀o,a.rel o->bif az m (a.post o).length then K (A3 (Hn m s.nx ((a.post o).length-m) π) (a.res o)) (y4o m π s (a.post o))else False
def yLk (m:Nat) (π:NM) (s:St) (K:V->St->Prop):List Alt->Prop
 |[]=>True
 |[a]=>y7b m π s K a
 |a::l=>y7b m π s K a/\yLk m π s K l
def zWo {m:Nat} {π:NM} {s:St} {K:V->St->Prop}:∀{l:List Alt},yLk m π s K l->∀a∈l,y7b m π s K a
 |[],_,a,ha=>by cases ha
 |[b],h,a,ha=>by rcases uc.1 ha with rfl;exact h
 |b::c::l,h,a,ha=>by
  rcases jq.1 ha with rfl|ha
  ·exact h.1
  ·exact zWo h.2 a ha
def fy.call (C:fy) (args:List V) (s:St) (K:V->St->Prop):Prop:=
 ∃i:C.ι,Ec (C.pat i) args [] s λπ s=>Ip 0 (C.pre i) π s λπ s=>bif tU (C.pre i).length π then C.dp i/\yLk (C.pre i).length π s K (C.alts i)else False
def fy.ok (P:af) (f:aq) (C:fy):Prop:=∀i,C.dp i->∀(k:Ko) (L:List HP) (E:Ev) (w:ac) (ys:List ab),Rel k L E ⟨gV 0 (C.pre i),(C.pre i).length⟩ w->gw E (C.pat i) ys->
 nf P (aj f ys.toArray) w λy w'=>∃a∈C.alts i,∃o,a.rel o/\∃E',E.le E'/\VR E' (a.res o) y/\Rel k L E' ⟨gV 0 (a.post o),(a.post o).length⟩ w'
def zXu {m nx:Nat} {p n:Nat}:∀{q:Nat} {π:NM},yC p (Hn m nx q π)=av n->yC p π=av n\/(m<=p/\n=nx+(p-m))
 |0,π,h=> .inl h
 |q+1,π,h=>by
  simp only[Hn]at h;rcases zXu (q:=q) h with h|h
  ·simp only[yC]at h;cases hb:ax (m+q) p
   ·rw[hb]at h;exact .inl h
   ·rw[hb]at h;have:=ja hb;simp only[cond_true,cg]at h;exact .inr ⟨by omega,by omega⟩
  ·exact .inr h
def pJ {π:NM} {E E2:Ev} (hF:E.F=E2.F) (hr:∀p n hd,yC p π=av n->E.ga[p]? =av hd->E2.ga[n]? =av hd) {M:List HP}:∀{os:List fj} {p:Nat},Hp k w ((gV p os).map (gz E)++M)->Hp k w ((kW π p os).map (gz E2)++M)
 |[],p,H=>H
 |o::os,p,H=>by
  simp only[gV,jj,ui]at H;have drop:Hp k w ((kW π (p+1) os).map (gz E2)++M):=pJ hF hr H.drop;have main:∀n,yC p π=av n->Hp k w (gz E2 (n,EJ π o)::((kW π (p+1) os).map (gz E2)++M)):=by
   intro n hn;have H1:Hp k w ((gV (p+1) os).map (gz E)++(gz E (p,o)::M)):=H.perm mh.symm;have H2:=pJ hF hr H1;refine(H2.perm mh).imp λx hx=> ?_
   rcases hx with⟨e,e2⟩|⟨hd,h1,h2⟩
   ·left;simp only at e;subst e;exact⟨rfl,e2⟩
   ·right;exact⟨hd,hr _ _ _ hn h1,hF▸h2.vc hr⟩
  cases o with
  |gone=>simpa only[kW]using drop
  |_=>
   simp only[kW];split
   ·rename_i n hn;exact main n hn
   ·exact drop
def fy.yi {P:af} {f:aq} {C:fy} (hC:C.ok P f) {args:List V} {s:St} {K:V->St->Prop} {E:Ev} {ys:List ab} (h:C.call args s K) (R:Rel k L E s w) (hv:gw E args ys):
 nf P (aj f ys.toArray) w (pg k L E K):=by
 obtain⟨i,h⟩:=h;have RF:Az [] E.ga:=λp n e=>by cases e
 obtain⟨E1,π1,s1,q1,q2,q3⟩:=Js h R RF hv;obtain⟨E2,π2,s2,r1,r2⟩:=Wo q3 q1.rel q1.wf;obtain⟨gn,hc,ha⟩:=zM r2;have gn:=pF gn
 let m:=(C.pre i).length
 let tl:List Hd:=(ba m).map λp=>(E2.ga[(yC p π2).getD 0]?).getD (ag,[])
 have td:Loc π2 E2.ga tl:=by
  intro p n hp;obtain⟨hd,h'⟩:=r1.wf p n hp;refine⟨hd,h',?_⟩;show((ba m).map _)[p]? =_;rw[rf,LH (gn p n hp)];simp only[we,hp,zt,h']
 have Ir:tl.length=m:=by simp[tl]
 have H:=r1.rel.AP;have H1:=vG (g:=gz ⟨E2.F,tl⟩) (λr x hx=>by
  rcases hx with⟨e1,e2⟩|⟨n,h1,h2⟩
  ·exact .inl ⟨e1,e2⟩
  ·right;obtain⟨hd,h3,h4⟩:=h2 E2 π2 (Ev.le.refl _) (Ext.refl _) tl td;obtain⟨oO,h5,h6⟩:=td _ _ h1;rw[h3]at h5;cases h5;exact⟨hd,h6,h4⟩) H
 have R0:Rel k (s2.rows.map (gz E2)++L) ⟨E2.F,tl⟩ ⟨gV 0 (C.pre i),(C.pre i).length⟩ w:=⟨Ir,H1.perm (cd _ mh)⟩
 have XJ:gw ⟨E2.F,tl⟩ (C.pat i) ys:=q2 E2 π2 r1.le r1.ext tl td;refine(hC i hc k _ _ w ys R0 XJ).mono ?_;rintro y w' ⟨a,ha',o,Mk,E3,hle,RH,R3⟩;obtain⟨hm,hk⟩:=zM (zWo ha a ha' o Mk);have hm:=Cc hm
 let q:=(a.post o).length
 have hlen:E3.ga.length=q:=R3.nx
 let E4:Ev:=⟨E3.F,E2.ga++E3.ga.drop m⟩
 have ri:E2.le E4:=⟨hle.1,JN _ _⟩
 have AI:∀p n hd,yC p (Hn m s2.nx (q-m) π2)=av n->E3.ga[p]? =av hd->E4.ga[n]? =av hd:=by
  intro p n hd hp ht;rcases zXu hp with hp|⟨h1,rfl⟩
  ·obtain⟨oO,h5,h6⟩:=td _ _ hp;have:=U0 hle.2 h6;rw[ht]at this;cases this;exact ri.get h5
  ·show(E2.ga++E3.ga.drop m)[s2.nx+(p-m)]? =av hd;rw[<- r1.rel.nx,Dg (by omega),Bs];rw[show m+(E2.ga.length+(p-m)-E2.ga.length)=p by omega];exact ht
 refine⟨E4,_,_,(q1.le.trans r1.le).trans ri,?_,RH.vc (F:=E3.F) AI,hk⟩;refine⟨by show(E2.ga++E3.ga.drop m).length=s2.nx+(q-m);rw[iv,o8,r1.rel.nx,hlen],?_⟩;have H2:=pJ (E:=E3) (E2:=E4) rfl AI R3.hp;have H3:Hp k w' (s2.rows.map (gz E2)++((kW (Hn m s2.nx (q-m) π2) 0 (a.post o)).map (gz E4)++fz E3.F::L)):=by
  refine H2.perm ?_;rw[<- iY];refine List.Perm.trans ?_ (Bu.append_right _);rw[iY];exact cd _ mh.symm
 have H4:=vG (g:=gz E4) (λr x=>gz.mono ri r) H3;refine H4.perm ?_;show(s2.rows.map (gz E4)++((kW (Hn m s2.nx (q-m) π2) 0 (a.post o)).map (gz E4)++fz E3.F::L)).Perm ((kW (Hn m s2.nx (q-m) π2) 0 (a.post o)++s2.rows).map (gz E4)++fz E4.F::L);rw[<- iY,jl];exact Bu.append_right _
variable {P:af} {k:Ko} {L:List HP}
def kS (P:af) (ρ:xD) (op:Op):Nat:=
 match op with
 | .convert s d _=>bif PZ P s && K8 P d then 1 else bif K8 P s && HX P d then 2 else bif PZ P s && HX P d then 2 else 0
 | .indexAddr _ x _=>match ln ρ x with
   | .own _=>1
   |_=>0
 | .slice _ x _ _ _=>match ln ρ x with
   | .own _=>2
   |_=>0
 | .binOp _ _ x _ _=>match ln ρ x with
   | .own _=>1
   |_=>0
 | .call c=>match c.callee with
   | .builtin .len=>match Dv ρ c.args.toList with
     |[.own _]=>1
     |[.mp _]=>1
     |_=>0
   | .builtin .cap=>0
   | .builtin .min=>0
   | .builtin .max=>0
   |_=>2
 |op=>Uu P op
def opS (P:af) (H:BE) (o:ap) (ρ:xD) (s:St) (K:V->St->Prop):Prop:=
 match kS P ρ o.op with
 |0=>sq P o ρ λv=>K v s
 |1=>sr P o ρ s λv=>K v s
 |_=>se P H o ρ s K
def yIw {H:BE} (hH:IE P H) {E:Ev} {s:St} {w:ac} (R:Rel k L E s w) {ρS:xD} {ρ:Env} (he:kx E ρS ρ) {o:ap} {K:V->St->Prop} (h:opS P H o ρS s K):nf P (ae (ev ρ) o) w (pg k L E K):=by
 unfold opS at h;split at h
 ·obtain⟨v,y,hk,hv,hf⟩:=z4x he h;exact wQ (hf w) ⟨E,v,s,Ev.le.refl _,R,hv,hk⟩
 ·obtain⟨v,y,hk,hv,hf⟩:=Zp R he h;exact wQ hf ⟨E,v,s,Ev.le.refl _,R,hv,hk⟩
 ·exact z3f hH R he h
def O7 (ops:List ap) (g:Option (Nat×Bool)) (ρ:xD) (Y N:xD->Prop):Prop:=
 match g with
 |none=>Y ρ
 |some (j,want)=>
  match W6 ops j with
  |none=>N ρ
  |some d=>
   match ρ d with
   | .d (.v (.bool c))=>gd c want (Y (Bq ρ (av d) (.d (.v (.bool want))))) (N (Bq ρ (av d) (.d (.v (.bool !want)))))
   | .iZ []=>N ρ
   |_=>False
def yKc {ρ:xD} {d:Nat} {v:V} (h:ρ d=v):Bq ρ (av d) v=ρ:=by
 funext i;simp only[Bq];cases hb:ax i d
 ·rfl
 ·have:=ja hb;subst this;exact h.symm
def lG {ops:List ap} {o:ap} {a:Act} {E:Ev} {ρS:xD} (he:kx E ρS (yQ a)) {Y N:xD->Prop} (h:O7 ops o.guard ρS Y N):
 if cw o (yielded ops.toArray a.tmps)then Y ρS else N ρS:=by
 unfold O7 at h;unfold cw;split at h
 ·rename_i hg;rw[hg];exact h
 ·rename_i j want hg;rw[hg];have hy:=zIa ops a.tmps j;split at h
  ·rename_i hd;rw[hd]at hy;simp only[hy];simpa using h
  ·rename_i d hd;rw[hd]at hy;simp only[hy];have hv:yQ a d=(a.tmps[d]?).getD ag:=by simp[yQ,CE]
   have FU:=he d;rw[hv]at FU;split at h<;>first|exact h.elim|skip
   ·rename_i c hc;rw[hc]at FU;simp only[VR,DR]at FU;cases ht:a.tmps[d]? with
    |none=>rw[ht]at FU;exact absurd FU.1 (by simp[ag])
    |some v=>
     rw[ht]at FU;simp only[zt]at FU;rw[FU.1];simp only[];have hs:∀b,c=b->Bq ρS (av d) (.d (.v (.bool b)))=ρS:=λb hb=>yKc (by rw[hc,hb])
     cases c<;>cases want<;>simp only[gd,Bool.not_true,JH]at h<;>rw[hs _ rfl]at h<;>simpa using h
   ·rename_i hc;rw[hc]at FU;simp only[VR,gw]at FU;obtain⟨ys,e1,rfl⟩:=FU;cases ht:a.tmps[d]? with
    |none=>simpa using h
    |some v=>
     rw[ht]at e1;simp only[zt]at e1;subst e1;simpa using h
def PN (P:af) (H:BE) (ops:List ap):List ap->xD->St->(xD->St->Prop)->Prop
 |[],ρ,s,K=>K ρ s
 |o::rest,ρ,s,K=>O7 ops o.guard ρ (λρ=>opS P H o ρ s λv s'=>PN P H ops rest (Bq ρ o.dst v) s' K) (λρ=>PN P H ops rest (Bq ρ o.dst (.iZ [])) s K)
def zGh (E:Ev):VR E (.iZ []) ag:=by
 simp only[VR];exact⟨[],rfl,gw.nil⟩
def zOd {H:BE} (hH:IE P H) {ops:List ap} {n:Nat} {A:Nat->Bool} {e0:Env} {Q:Exit->Act->ac->Prop} {E0:Ev} {K:xD->St->Prop}
 (hQ:∀a w E ρS s,Good n A e0 a->E0.le E->Rel k L E s w->kx E ρS (yQ a)->K ρS s->Q .normal a w):
 ∀(l:List ap) (a:Act) (w:ac) (E:Ev) (ρS:xD) (s:St),Ji n A l->Good n A e0 a->E0.le E->Rel k L E s w->kx E ρS (yQ a)->PN P H ops l ρS s K->wpList P ops.toArray Q l a w
 |[],a,w,E,ρS,s,_,hg,hle,R,he,h=>hQ a w E ρS s hg hle R he h
 |o::l,a,w,E,ρS,s,hf,qn,hle,R,he,h=>by
  have yd:=hf o iS;have hf':Ji n A l:=λo' oG=>hf o' (jc _ oG)
  have hg:=lG he h;have nx:∀{v:ab} {w:ac} {E':Ev} {v':V} {s':St},E.le E'->Rel k L E' s' w->VR E' v' v->PN P H ops l (Bq ρS o.dst v') s' K->wpList P ops.toArray Q l (a.put o.dst v) w:=λ{v w E' v' s'} ji R' hv hh=>
   zOd hH hQ l _ _ E' _ s' hf' (qn.put yd v) (hle.trans ji) R' (by rw[qn.mc yd];exact(he.mono ji).put _ hv) hh
  unfold wpList;split
  ·rename_i hw;rw[fc hw]at hg;left;refine zFw ?_;have:=yIw hH R he hg;rw[vF]at this;refine this.mono ?_;rintro v w' ⟨E',v',s',h1,h2,h3,h4⟩;exact nx h1 h2 h3 h4
  ·rename_i hw;rw[eg hw]at hg;exact nx (Ev.le.refl _) R (zGh E) hg
def zOg {P:af} {E:Ev} {t sz i f:Nat} {ez:List (List D)} {b o:Nat} {l:List ab} {T:ak} {fr:Nat×Nat} {ds:List D} {v:V} (hu:∀el∈ez,el.length=sz) (h5:BG E.F ez (l.drop o))
 (hp:zD ez i f ds.length=av ds) (hm:Iq P t ds=av v):∃y,VR E v y/\∀w:ac,w.heap[b]? =av (.cells l.toArray T fr)->pT P t ⟨b,o+i*sz+f,aw⟩ w y:=by
 obtain⟨xs,r,e,hx⟩:=oS.1 h5;unfold zD at hp;split at hp<;>first|(cases hp;done)|skip
 rename_i el oV;obtain⟨hb,hp⟩:=y4 hp;have hb:=Cc hb;have tw:=ku oV;have hi:i<ez.length:=(jf.1 oV).1;rw[hu el tw]at hb;have mu:=(hx.drop (i*sz+f)).take ds.length;have hfp:=zMd hu oV hb;rw[hfp,cm hp]at mu;have hlen:xs.length=ez.length*sz:=by rw[hx.length,wJ hu]
 have wk:i*sz+sz<=ez.length*sz:=by
  have:=xj sz (show i+1<=ez.length by omega);rwa [zq]at this
 have nw:(l.drop (o+i*sz+f)).take ds.length=(xs.drop (i*sz+f)).take ds.length:=by
  rw[D',<- Db,e,Hw (by omega),yw (by rw[o8];omega)]
 unfold Iq at hm;split at hm
 ·rename_i n hn;obtain⟨hq,hm⟩:=y4 hm;have:=ja hq;cases hm;refine⟨.agg ((xs.drop (i*sz+f)).take ds.length).toArray,by simp only[VR];exact⟨_,rfl,mu.Ob⟩,λw e2=> ?_⟩;refine V3 hn e2 (by rw[<- this];exact nw) ?_;rw[mu.length,this]
 ·obtain⟨hq,hm⟩:=y4 hm;split at hm<;>first|(cases hm;done)|skip
  rename_i d;cases hm;simp only[iC,rn,iy]at mu nw;obtain⟨y,ys,e4,h4,h5⟩:=mu;subst h5;refine⟨y,by simpa only[VR]using h4,λw e2=>vQ hq e2 ?_⟩;have:((l.drop (o+i*sz+f)).take 1)[0]? =av y:=by rw[nw,e4];rfl
  rw[JO,fc (by omega),Bs]at this;simpa using this
def UM (ρ:xD) (s:St):Op->Bool
 | .load _ x=>match ln ρ x with
   | .re _ _ _ _=>bv
   | .el n _ _ _=>match s.get n with
     |some (.kg _ _)=>bv
     |_=>bz
   |_=>bz
 |_=>bz
def yKf {E:Ev} {s:St} {w:ac} (R:Rel k L E s w) {ρS:xD} {ρ:Env} (he:kx E ρS ρ) {o:ap} {K:V->Prop} (kr:UM ρS s o.op=bv) (h:sr P o ρS s K):
 ∃v y,K v/\VR E v y/\∀(E':Ev) (s':St) (w':ac),E.le E'->Rel k L E' s' w'->(ae (ev ρ) o).run P w'= .ok (.value y) w':=by
 cases ho:o.op<;>rw[ho]at kr<;>first|(cases kr;done)|skip
 case load t x=>
  simp only[sr,ho]at h;simp only[UM]at kr;have hv:=he.ev x;split at kr<;>first|(cases kr;done)|skip
  ·rename_i sz ez i f hx;rw[hx]at hv h;simp only[VR]at hv;simp only at h;obtain⟨e0,e1,b,oo,l,T,fr,e2,e3,e4⟩:=hv;obtain⟨ds,hp,h⟩:=aY h;obtain⟨v,hm,hk⟩:=zN h;obtain⟨y,hy,hh⟩:=zOg (b:=b) (T:=T) (fr:=fr) e1 e4 hp hm;refine⟨v,y,hk,hy,λE' s' w' hle R'=> ?_⟩;simp only[ae,ho,e2];exact yK (hh w' (R'.frozen _ _ (hle.1 _ _ e3)))
  ·rename_i n sz i f hx;rw[hx]at hv h;simp only[VR]at hv;simp only at h;split at kr<;>first|(cases kr;done)|skip
   rename_i sz0 abf hg;obtain⟨b,oo,m,c,l,e1,e2⟩:=hv;simp only[K7,nP,hg]at h;obtain⟨⟨oA,ez⟩,hd,h⟩:=zN h;simp only[tZ,hg,cg,Prod.mk.injEq]at hd;obtain⟨rfl,rfl⟩:=hd;obtain⟨hb,h⟩:=zM h;have:=ja hb;simp only at this;subst this;obtain⟨ds,hp,h⟩:=aY h;obtain⟨v,hm,hk⟩:=zN h;obtain⟨hd,x',q1,q2,q3⟩:=R.row hg (by simp);rw[e1]at q1;cases q1;simp only[fp,DR]at q2;obtain⟨_,a,c',q4,q5,q6,q7⟩:=q2;cases q4;rcases q7 with rfl|⟨b',o',l',T,fr,q8,q9,q10⟩
   ·simp[zD]at hp
   cases q8;obtain⟨y,hy,hh⟩:=zOg (b:=b) (T:=T) (fr:=fr) q6 q10 hp hm;refine⟨v,y,hk,hy,λE' s' w' hle R'=> ?_⟩;simp only[ae,ho,e2];exact yK (hh w' (R'.frozen _ _ (hle.1 _ _ q9)))
def y4e:V->V->Prop
 | .d (.v x),.d (.v y)=>XA x y
 | .nm n o,.nm n' o'=>bif ax n n' && ax o o' then True else False
 | .own n,.own n'=>bif ax n n' then True else False
 | .mp n,.mp n'=>bif ax n n' then True else False
 | .el n sz i f,.el n' oA i' f'=>bif ax n n' && ax sz oA && ax f f' then i=i' else False
 |_,_=>False
def gZ {E E':Ev} (hle:E.le E') {v v':V} {y y':ab} (h:y4e v' v) (hy:VR E v y) (ph:VR E' v' y'):y'=y:=by
 unfold y4e at h;split at h<;>first|exact h.elim|skip
 ·simp only[VR,DR]at hy ph;rw[hy.1,ph.1,yRt h]
 ·obtain⟨hb,_⟩:=zM h;simp only[lj]at hb;have e1:=ja hb.1;have e2:=ja hb.2;subst e1 e2;simp only[VR]at hy ph;obtain⟨b,oo,l,h1,rfl⟩:=hy;obtain⟨b',oo',l',BB,rfl⟩:=ph;rw[hle.get h1]at BB;cases BB;rfl
 ·obtain⟨hb,_⟩:=zM h;have e1:=ja hb;subst e1;simp only[VR]at hy ph;obtain⟨l,h1,_⟩:=hy;obtain⟨l',BB,_⟩:=ph;rw[hle.get h1]at BB;cases BB;rfl
 ·obtain⟨hb,_⟩:=zM h;have e1:=ja hb;subst e1;simp only[VR]at hy ph;obtain⟨b,l,h1,_⟩:=hy;obtain⟨b',l',BB,_⟩:=ph;rw[hle.get h1]at BB;cases BB;rfl
 ·obtain⟨hb,rfl⟩:=zM h;simp only[lj]at hb;have e1:=ja hb.1.1;have e2:=ja hb.1.2;have e3:=ja hb.2;subst e1 e2 e3;simp only[VR]at hy ph;obtain⟨b,oo,m,c,l,h1,rfl⟩:=hy;obtain⟨b',oo',m',c',l',BB,rfl⟩:=ph;rw[hle.get h1]at BB;cases BB;rfl
mutual
def CF:V->V->Prop
 | .agg l,v=>match v with
   | .agg l'=>NJ l l'
   |_=>False
 | .iZ l,v=>match v with
   | .iZ l'=>NJ l l'
   |_=>False
 |u,v=>y4e u v
def NJ:List V->List V->Prop
 |[],l=>match l with
  |[]=>True
  |_=>False
 |u::us,l=>match l with
  |v::vs=>CF u v/\NJ us vs
  |[]=>False
end
mutual
theorem yGf {E E':Ev} (hle:E.le E'):∀{v' v:V} {y y':ab},CF v' v->VR E v y->VR E' v' y'->y'=y
 | .agg l,v,y,y',h,hy,ph=>by
   simp only[CF]at h;split at h<;>first|exact h.elim|skip
   simp only[VR]at hy ph;obtain⟨ys,rfl,h1⟩:=hy;obtain⟨D6,rfl,h2⟩:=ph;rw[YK hle h h1 h2]
 | .iZ l,v,y,y',h,hy,ph=>by
   simp only[CF]at h;split at h<;>first|exact h.elim|skip
   simp only[VR]at hy ph;obtain⟨ys,rfl,h1⟩:=hy;obtain⟨D6,rfl,h2⟩:=ph;rw[YK hle h h1 h2]
 | .top,v,y,y',h,hy,ph=>gZ hle (by simpa only[CF]using h) hy ph
 | .d _,v,y,y',h,hy,ph=>gZ hle (by simpa only[CF]using h) hy ph
 | .nm _ _,v,y,y',h,hy,ph=>gZ hle (by simpa only[CF]using h) hy ph
 | .el _ _ _ _,v,y,y',h,hy,ph=>gZ hle (by simpa only[CF]using h) hy ph
 | .re _ _ _ _,v,y,y',h,hy,ph=>gZ hle (by simpa only[CF]using h) hy ph
 | .own _,v,y,y',h,hy,ph=>gZ hle (by simpa only[CF]using h) hy ph
 | .mp _,v,y,y',h,hy,ph=>gZ hle (by simpa only[CF]using h) hy ph
 | .sub _ _,v,y,y',h,hy,ph=>gZ hle (by simpa only[CF]using h) hy ph
 | .fn _ _ _,v,y,y',h,hy,ph=>gZ hle (by simpa only[CF]using h) hy ph
 | .zy _ _,v,y,y',h,hy,ph=>gZ hle (by simpa only[CF]using h) hy ph
theorem YK {E E':Ev} (hle:E.le E'):∀{v' v:List V} {y y':List ab},NJ v' v->gw E v y->gw E' v' y'->y'=y
 |[],v,y,y',h,hy,ph=>by
  simp only[NJ]at h;split at h<;>first|exact h.elim|skip
  simp only[gw]at hy ph;rw[hy,ph]
 |u::us,v,y,y',h,hy,ph=>by
  simp only[NJ]at h;split at h<;>first|exact h.elim|skip
  simp only[gw]at hy ph;obtain⟨x,xs,rfl,h1,h2⟩:=hy;obtain⟨x',xs',rfl,BB,h2'⟩:=ph;rw[yGf hle h.1 h1 BB,YK hle h.2 h2 h2']
end
@[reducible] def Fm:=Nat×(St->Prop)
def Jk (bf:List Nat) (i:Nat):List Fm->List Fm
 |[]=>[]
 |m::l=>bif Bn bf i m.1 then Jk bf i l else m::Jk bf i l
def xAh:List Fm->St->Prop->Prop
 |[],_,X=>X
 |m::ms,s,X=>m.2 s/\xAh ms s X
def y4m (P:af) (ops:List ap) (ρ:xD) (i:Nat):Bool:=
 match ops[i]? with
 |some o=>match kS P ρ o.op with
  |2=>bz
  |_=>bv
 |none=>bv
def Wz:Op->Bool
 | .slice _ _ _ _ aw=>bv
 |_=>bz
def yAw {o:Op} (h:Wz o=bv):∃t x lo hi,o= .slice t x lo hi aw:=by
 unfold Wz at h;split at h
 ·exact⟨_,_,_,_,rfl⟩
 ·cases h
def Fq (P:af) (H:BE) (ops:List ap) (bf:List Nat):Nat->Array Bool->List Fm->xD->St->(xD->St->Prop)->Prop
 |0,fk,_,ρ,s,K=>
  match cx .any ops.toArray fk with
  |[]=>K ρ s
  |_=>False
 |fuel+1,fk,M,ρ,s,K=>
  match cx .any ops.toArray fk with
  |[]=>K ρ s
  |r::rs=>
   match(r::rs).find? (y4m P ops ρ)with
   |some i=>
    match ops[i]? with
    |none=>False
    |some o=>O7 ops o.guard ρ
      (λρ'=>match kS P ρ' o.op with
        |0=>sq P o ρ' λv=>Fq P H ops bf fuel (fk.setIfInBounds i bv) M (Bq ρ' o.dst v) s K
        |1=>sr P o ρ' s λv=>Fq P H ops bf fuel (fk.setIfInBounds i bv) ((i,λs'=>bif UM ρ' s o.op then True else sr P o ρ' s' λv'=>CF v' v)::M) (Bq ρ' o.dst v) s K
        |_=>False)
      (λρ'=>Fq P H ops bf fuel (fk.setIfInBounds i bv) M (Bq ρ' o.dst (.iZ [])) s K)
   |none=>WH (r::rs) λi=>
    match ops[i]? with
    |none=>False
    |some o=>O7 ops o.guard ρ
      (λρ'=>se P H o ρ' s λv s'=>bif Wz o.op then Fq P H ops bf fuel (fk.setIfInBounds i bv) (Jk bf i M) (Bq ρ' o.dst v) s' K else xAh (Jk bf i M) s' (Fq P H ops bf fuel (fk.setIfInBounds i bv) (Jk bf i M) (Bq ρ' o.dst v) s' K))
      (λρ'=>Fq P H ops bf fuel (fk.setIfInBounds i bv) (Jk bf i M) (Bq ρ' o.dst (.iZ [])) s K)
inductive oz (k:Ko) (L:List HP) (E:Ev):List Fm->List Mon->Prop
 |nil:oz k L E [] []
 |cons {i:Nat} {f:St->Prop} {g:ac->Prop} {M:List Fm} {N:List Mon}:(∀E' s' w',E.le E'->Rel k L E' s' w'->f s'->g w')->oz k L E M N->oz k L E ((i,f)::M) ((i,g)::N)
def oz.mono {E E':Ev} (hle:E.le E') {M:List Fm} {N:List Mon} (h:oz k L E M N):oz k L E' M N:=by
 induction h with
 |nil=>exact .nil
 |cons h _ ih=>exact .cons (λE2 s w a=>h E2 s w (hle.trans a)) ih
def oz.oy {E:Ev} {bf:List Nat} {i:Nat} {M:List Fm} {N:List Mon} (h:oz k L E M N):oz k L E (Jk bf i M) (jX bf i N):=by
 induction h with
 |nil=>exact .nil
 | @cons j f g M N h _ ih=>
   simp only[Jk,jX,Ht]at ih ⊢;cases hb:Bn bf i j
   ·simpa using .cons h ih
   ·simpa using ih
def oz.all {E E':Ev} (hle:E.le E') {M:List Fm} {N:List Mon} (h:oz k L E M N) {s:St} {w:ac} (R:Rel k L E' s w) {X:Prop} (hm:xAh M s X):Fg N w/\X:=by
 induction h with
 |nil=>exact⟨λm hm=>(by cases hm),hm⟩
 |cons h _ ih=>
  obtain⟨h1,h2⟩:=hm;obtain⟨h3,h4⟩:=ih h2;refine⟨λm hm=> ?_,h4⟩;rcases jq.1 hm with rfl|hm
  ·exact h _ _ _ hle R h1
  ·exact h3 m hm
def z3z {H:BE} (hH:IE P H) {ops:List ap} {n:Nat} {A:Nat->Bool} {e0:Env} {Q:Act->ac->Prop} {E0:Ev} {K:xD->St->Prop} (oT:eK ops (hP ops [])=bv) (hf:Ji n A ops)
 (hQ:∀a w E ρS s,Good n A e0 a->E0.le E->Rel k L E s w->kx E ρS (yQ a)->K ρS s->Q a w):
 ∀(fuel:Nat) (fk:Array Bool) (M:List Fm) (N:List Mon) (a:Act) (w:ac) (E:Ev) (ρS:xD) (s:St),lI ops (qT fk)->Fg N w->oz k L E M N->Good n A e0 a->E0.le E->Rel k L E s w->kx E ρS (yQ a)->
  Fq P H ops (hP ops []) fuel fk M ρS s K->C' P ops.toArray (hP ops []) Q fuel N fk a w:=by
 intro fuel
 induction fuel with
 |zero=>
  intro fk M N a w E ρS s hc hM FV qn hle R he h;unfold Fq at h;split at h
  ·rename_i hr;exact⟨hr,hQ a w E ρS s qn hle R he h⟩
  ·exact h.elim
 |succ fuel ih=>
  intro fk M N a w E ρS s hc hM FV qn hle R he h;unfold Fq at h;split at h
  ·rename_i hr;exact⟨λ_=>hQ a w E ρS s qn hle R he h,λi hi=>by rw[hr]at hi;cases hi⟩
  ·rename_i r rs hr;have jr:cx .any ops.toArray fk≠[]:=by rw[hr];simp
   split at h
   ·rename_i i Gc;have hi:i∈cx .any ops.toArray fk:=by rw[hr];exact List.mem_of_find?_eq_some Gc
    split at h<;>first|exact h.elim|skip
    rename_i o ho;have zh:∀v,yQ (a.put o.dst v)=Cv.put (yQ a) o.dst v:=λv=>qn.mc (m5 hf ho) v
    have hg:=lG he h;have nx:∀{M:List Fm} {N:List Mon} {v:V} {y:ab},Fg N w->oz k L E M N->VR E v y->Fq P H ops (hP ops []) fuel (fk.setIfInBounds i bv) M (Bq ρS o.dst v) s K->
     C' P ops.toArray (hP ops []) Q fuel N (fk.setIfInBounds i bv) (a.put o.dst y) w:=λ{M N v y} hM FV hv hh=>
     ih _ _ _ _ _ _ _ _ (u0 hc hi) hM FV (qn.put (m5 hf ho) _) hle R (by rw[zh];exact he.put _ hv) hh
    by_cases hw:cw o (yielded ops.toArray a.tmps)=bv
    ·rw[fc hw]at hg;split at hg<;>first|exact hg.elim|skip
     ·obtain⟨v,y,hk,hv,uu⟩:=z4x he hg;rw[vF]at uu;have hs:∀w,lV P ops.toArray o y a w:=λw=> .inl ⟨hw,uu w⟩
      exact fL oT ho fuel N fk a w hc hi (hs w) hM (mY hs fuel _ _ _ (nx hM FV hv hk))
     ·cases kr:UM ρS s o.op
      ·obtain⟨v,y,hk,hv,jh⟩:=Zp R he hg;rw[vF]at jh;simp only[kr,cond_false]at hk;have hs:lV P ops.toArray o y a w:= .inl ⟨hw,jh⟩;refine fL oT ho fuel N fk a w hc hi hs hM (nx ?_ (.cons ?_ FV) hv hk)
       ·intro m hm;rcases jq.1 hm with rfl|hm
        ·exact hs
        ·exact hM m hm
       ·intro E' s' w' ji R' kr;obtain⟨v',y',pj,JV,KF⟩:=Zp R' (he.mono ji) kr;rw[vF]at KF;have:=yGf ji pj hv JV;subst this;exact .inl ⟨hw,KF⟩
      ·obtain⟨v,y,hk,hv,jh⟩:=yKf R he kr hg;rw[vF]at jh;simp only[kr,cond_true]at hk;have hs:lV P ops.toArray o y a w:= .inl ⟨hw,jh E s w (Ev.le.refl _) R⟩;refine fL oT ho fuel N fk a w hc hi hs hM (nx ?_ (.cons ?_ FV) hv hk)
       ·intro m hm;rcases jq.1 hm with rfl|hm
        ·exact hs
        ·exact hM m hm
       ·intro E' s' w' ji R' _;exact .inl ⟨hw,jh E' s' w' ji R'⟩
    ·rw[eg hw]at hg;have hs:∀w,lV P ops.toArray o ag a w:=λw=> .inr ⟨by simpa using hw,rfl⟩
     exact fL oT ho fuel N fk a w hc hi (hs w) hM (mY hs fuel _ _ _ (nx hM FV (zGh E) hg))
   ·refine⟨λh0=>absurd h0 jr,λi hi=> ?_⟩;have h1:=Zw h i (by rw[<- hr];exact hi);split at h1<;>first|exact h1.elim|skip
    rename_i o ho;have zh:∀v,yQ (a.put o.dst v)=Cv.put (yQ a) o.dst v:=λv=>qn.mc (m5 hf ho) v
    have hg:=lG he h1;unfold EH;simp only[Bc,ho];by_cases hw:cw o (yielded ops.toArray a.tmps)=bv
    ·rw[fc hw]at hg ⊢;cases yo:Wz o.op with
     |true=>
      obtain⟨t,x,lo,OB,oG⟩:=yAw yo;obtain⟨y,HJ,E',v,s',ji,R',hv,hh⟩:=z7i R he oG hg;rw[vF]at HJ;rw[yo]at hh;have Dt:Fg (jX (hP ops []) i N) w:=λm hm=>hM m (by simp only[jX,wb]at hm;exact hm.1)
      exact wQ (HJ w) ⟨Dt,ih _ _ _ _ _ _ _ _ (u0 hc hi) Dt (FV.oy.mono ji) (qn.put (m5 hf ho) _) (hle.trans ji) R' (by rw[zh];exact(he.mono ji).put _ hv) hh⟩
     |false=>
     have BV:=z3f hH R he hg;rw[vF]at BV;refine BV.mono ?_;rintro y w' ⟨E',v,s',ji,R',hv,hh⟩;rw[yo]at hh;obtain⟨Dt,hh⟩:=(FV.oy (bf:=hP ops []) (i:=i)).all ji R' hh;exact⟨Dt,ih _ _ _ _ _ _ _ _ (u0 hc hi) Dt (FV.oy.mono ji) (qn.put (m5 hf ho) _) (hle.trans ji) R' (by rw[zh];exact(he.mono ji).put _ hv) hh⟩
    ·rw[eg hw]at hg ⊢;have Dt:Fg (jX (hP ops []) i N) w:=λm hm=>hM m (by simp only[jX,wb]at hm;exact hm.1)
     exact⟨Dt,ih _ _ _ _ _ _ _ _ (u0 hc hi) Dt FV.oy (qn.put (m5 hf ho) _) hle R (by rw[zh];exact he.put _ (zGh E)) hg⟩
variable {P:af} {k:Ko} {L:List HP}
structure gm where
 ι:Type
 du:ι->List (Nat×V)
 rows:ι->List fj
 oy:Nat->Bool:=λ_=>bv
 un:Nat:=0
 oZ:ι->List (Nat×V):=λ_=>[]
 lu:ι->List fj:=λ_=>[]
 lits:List (Nat×ab):=[]
 Dl:List Nat:=[]
 fr:Nat->Bool:=λ_=>bz
def gm.pk (x:gm):gm:={x with du:=x.oZ,rows:=x.lu}
def Ol:Code->Nat
 | .region i _ _=>i
 | .seq a _=>Ol a
 | .block _ a=>Ol a
 | .loop a=>Ol a
 | .cond _ a _=>Ol a
 |_=>0
def xFu:Code->Nat
 | .region i _ _=>4*i
 | .cond c a b=>4*Ol (.cond c a b)+1
 | .seq a b=>4*Ol a+2
 | .block id _=>4*id+3
 |_=>0
def y2e (n:Nat):List (Nat×gm)->Option gm
 |[]=>aw
 |(m,x)::l=>bif ax m n then av x else y2e n l
def Xj (t:Nat):List (Nat×V)->Option V
 |[]=>aw
 |(u,v)::l=>bif ax u t then av v else Xj t l
def OV (ρ:xD):List (Nat×V)->List V
 |[]=>[]
 |(t,_)::l=>ρ t::OV ρ l
def PO:List (Nat×V)->List V
 |[]=>[]
 |(_,v)::l=>v::PO l
def W5:fj->Bool
 | .own _ _ _=>bv
 | .AG=>bv
 | .kg _ _=>bv
 | .jz _ _ _ _ _ _=>bv
 |_=>bz
def wV (fr:Nat->Bool) (π:NM):Nat->List fj->NM
 |_,[]=>[]
 |p,o::os=>bif W5 o then wV fr π (p+1) os else bif fr p then wV fr π (p+1) os else match yC p π with
  |some n=>(p,n)::wV fr π (p+1) os
  |none=>wV fr π (p+1) os
def aT (fr:Nat->Bool) (N:Nat) (π:NM):Nat->List fj->NM
 |_,[]=>[]
 |p,o::os=>bif W5 o then(p,N+p)::aT fr N π (p+1) os else bif fr p then(p,N+p)::aT fr N π (p+1) os else match yC p π with
  |some n=>(p,n)::aT fr N π (p+1) os
  |none=>aT fr N π (p+1) os
def Ia (N:Nat) (st:NM):Nat->NM
 |0=>[]
 |p+1=>(p,(yC p st).getD (N+p))::Ia N st p
def Zs {N:Nat} {st:NM} {p q:Nat}:∀{m:Nat},yC p (Ia N st m)=av q->q=N+p\/yC p st=av q
 |0,h=>by cases h
 |m+1,h=>by
  simp only[Ia,yC]at h;cases hb:ax m p
  ·rw[hb]at h;exact Zs h
  ·rw[hb]at h;have:=ja hb;subst this;simp only[cond_true,cg]at h;cases hs:yC m st with
   |none=>rw[hs]at h;exact .inl h.symm
   |some n=>rw[hs]at h;exact .inr (by rw[<- h];rfl)
def tE {fr:Nat->Bool} {π:NM} {p q:Nat}:∀{os:List fj} {p0:Nat},yC p (wV fr π p0 os)=av q->yC p π=av q
 |[],p0,h=>by cases h
 |o::os,p0,h=>by
  simp only[wV]at h;cases ho:W5 o<;>rw[ho]at h
  ·cases hf:fr p0<;>rw[hf]at h
   ·simp only[cond_false]at h;split at h
    ·rename_i n hn;simp only[yC]at h;cases hb:ax p0 p
     ·rw[hb]at h;exact tE h
     ·rw[hb]at h;cases h;rw[<- ja hb];exact hn
    ·exact tE h
   ·exact tE h
  ·exact tE h
def NA {fr:Nat->Bool} {N:Nat} {π:NM} {p q:Nat}:∀{os:List fj} {p0:Nat},yC p (aT fr N π p0 os)=av q->q=N+p\/yC p (wV fr π p0 os)=av q
 |[],p0,h=>by cases h
 |o::os,p0,h=>by
  simp only[aT,wV]at h ⊢;cases ho:W5 o<;>rw[ho]at h
  ·cases hf:fr p0<;>rw[hf]at h
   ·simp only[cond_false]at h ⊢;split at h
    ·rename_i n hn;simp only[yC]at h ⊢;cases hb:ax p0 p
     ·rw[hb]at h;exact NA h
     ·rw[hb]at h;exact .inr h
    ·exact NA h
   ·simp only[cond_true,cond_false,yC]at h ⊢;cases hb:ax p0 p
    ·rw[hb]at h;exact NA h
    ·rw[hb]at h;cases h;left;rw[ja hb]
  ·simp only[cond_true,yC]at h ⊢;cases hb:ax p0 p
   ·rw[hb]at h;exact NA h
   ·rw[hb]at h;cases h;left;rw[ja hb]
def NF (vc:NM) (du:List (Nat×V)) (as:List Nat) (ρ:xD):xD:=λt=>
 match Xj t du with
 |some v=>A3 vc v
 |none=>bif rF t as then .top else ρ t
mutual
def D4 (N:Nat):V->Bool
 | .nm n _=>ay n N
 | .el n _ _ _=>ay n N
 | .own n=>ay n N
 | .na n _ _=>ay n N
 | .mp n=>ay n N
 | .sub n _=>ay n N
 | .agg l=>Jw N l
 | .iZ l=>Jw N l
 | .fn _ a b=>Jw N a && Jw N b
 | .zy _ x=>D4 N x
 |_=>bv
def Jw (N:Nat):List V->Bool
 |[]=>bv
 |v::l=>D4 N v && Jw N l
end
def y9i (N:Nat):fj->Bool
 | .cells vs _=>Jw N vs
 | .ug _ _ _ _ _ _ _ (av m)=>ay m N
 |_=>bv
def Pe (N:Nat):List (Nat×fj)->Bool
 |[]=>bv
 |(n,o)::l=>ay n N && y9i N o && Pe N l
def kY (oy:Nat->Bool):List (Nat×fj)->List (Nat×fj)
 |[]=>[]
 |(n,o)::l=>bif oy n then(n,o)::kY oy l else kY oy l
def K0:List (Nat×fj)->St->Prop
 |[],_=>True
 |[(n,o)],s=>match s.CW n with
  |some o'=>o'=o
  |none=>False
 |(n,o)::l,s=>match s.CW n with
  |some o'=>o'=o/\K0 l (s.del n)
  |none=>False
def OX (N:Nat) (vc:NM) (rows:List fj) (kept:List (Nat×fj)):St:=⟨kW vc 0 rows++kept,N+rows.length⟩
def Nd (next:xD->St->Prop) (Q:Exit->xD->St->Prop):Exit->xD->St->Prop
 | .normal,ρ,s=>next ρ s
 |e,ρ,s=>Q e ρ s
def yTg (id:Nat) (Q:Exit->xD->St->Prop):Exit->xD->St->Prop
 | .exit FH,ρ,s=>bif ax FH id then Q .normal ρ s else Q (.exit FH) ρ s
 |e,ρ,s=>Q e ρ s
def Nl (x:gm) (i:x.ι) (π0:NM) (ρ:xD) (s:St) (K:NM->St->Prop):Prop:=
 Ec (PO (x.du i)) (OV ρ (x.du i)) π0 s λπ s=>Ip 0 (x.rows i) π s λπ s=>bif tU (x.rows i).length π then K π s else False
def yRx (f:(Exit->xD->St->Prop)->xD->St->Prop) (Q:Exit->xD->St->Prop):Nat->xD->St->Prop
 |0,_,_=>False
 |n+1,ρ,s=>f (Nd (yRx f Q n) Q) ρ s
def OZ (n:Nat) (s:St):St:=
 match s.get n with
 |some (.ra _ m ix x)=>bif az 1 m then⟨(n,(K4 (s.del n) n m (ix x)).1)::(K4 (s.del n) n m (ix x)).2.rows,(K4 (s.del n) n m (ix x)).2.nx⟩else s
 |_=>s
def UJ:List Nat->St->St
 |[],s=>s
 |n::l,s=>UJ l (OZ n s)
def zVv {w:ac} {E:Ev} {s:St} (R:Rel k L E s w) (n:Nat):∃E',E.le E'/\Rel k L E' (OZ n s) w:=by
 unfold OZ;split
 ·rename_i T m ix x hg;cases hb:az 1 m
  ·exact⟨E,Ev.le.refl _,R⟩
  ·obtain⟨E',h1,h2⟩:=(R.take hg).unfold (Cc hb);refine⟨E',h1,⟨h2.nx,?_⟩⟩;have:=h2.out;simpa using this
 ·exact⟨E,Ev.le.refl _,R⟩
def zFh {w:ac}:∀(l:List Nat) {E:Ev} {s:St} (R:Rel k L E s w),∃E',E.le E'/\Rel k L E' (UJ l s) w
 |[],E,s,R=>⟨E,Ev.le.refl _,R⟩
 |n::l,E,s,R=>by
  obtain⟨E1,h1,h2⟩:=zVv R n;obtain⟨E2,h3,h4⟩:=zFh l h2;exact⟨E2,h1.trans h3,h4⟩
def yBm:List Nat->xD->St->St
 |[],_,s=>s
 |t::ts,ρ,s=>yBm ts ρ (match ρ t with
  | .nm n 0=>OZ n s
  |_=>s)
def zWb {w:ac} {ρ:xD}:∀(l:List Nat) {E:Ev} {s:St} (R:Rel k L E s w),∃E',E.le E'/\Rel k L E' (yBm l ρ s) w
 |[],E,s,R=>⟨E,Ev.le.refl _,R⟩
 |t::ts,E,s,R=>by
  obtain⟨E1,h1,h2⟩:∃E',E.le E'/\Rel k L E' (match ρ t with
   | .nm n 0=>OZ n s
   |_=>s) w:=by
   split
   ·exact zVv R _
   ·exact⟨E,Ev.le.refl _,R⟩
  obtain⟨E2,h3,h4⟩:=zWb ts h2;exact⟨E2,h1.trans h3,h4⟩
def xEv (t:Nat) (x:ab) (ρ:xD) (K:xD->Prop):Prop:=match ρ t with
 | .d (.v y)=>y=x/\K (λu=>bif ax u t then .d (.v x)else ρ u)
 |_=>False
def z9h:List (Nat×ab)->xD->(xD->Prop)->Prop
 |[],_,_=>False
 |(t,x)::l,ρ,K=>xEv t x ρ K\/z9h l ρ K
def mr (P:af) (H:BE) (J:List (Nat×gm)):List gm->Code->(Exit->xD->St->Prop)->xD->St->Prop
 |_,.skip,Q,ρ,s=>Q .normal ρ s
 |an,.seq a b,Q,ρ,s=>match y2e (xFu a) J with
  |none=>mr P H J (an.take (nL a)) a (Nd (λρ s=>mr P H J (an.drop (nL a)) b Q ρ s) Q) ρ s
  |some x=>match x.Dl with
   |t0::ts=>mr P H J (an.take (nL a)) a (Nd (λρ s=>mr P H J (an.drop (nL a)) b Q ρ (yBm (t0::ts) ρ s)) Q) ρ s
   |[]=>match x.lits with
   |l0::ls=>mr P H J (an.take (nL a)) a (Nd (λρ s=>z9h (l0::ls) ρ λρ=>mr P H J (an.drop (nL a)) b Q ρ s) Q) ρ s
   |[]=>∃i0,Nl x.pk i0 [] ρ s λπ s1=>∃(I:x.ι->Prop),(bif Pe s1.nx (kY x.oy s1.rows)then
    mr P H J (an.take (nL a)) a (Nd (λρ' s'=>∃i',Nl x i' (wV x.fr π 0 (x.lu i0)) ρ' s' λ_ s2=>I i'/\K0 (kY x.oy s1.rows) s2) Q)
     (NF (Ia s1.nx (wV x.fr π 0 (x.lu i0)) (x.lu i0).length) (x.oZ i0) [] ρ) (OX s1.nx (Ia s1.nx (wV x.fr π 0 (x.lu i0)) (x.lu i0).length) (x.lu i0) (kY x.oy s1.rows))/\
    ∀i,I i->mr P H J (an.drop (nL a)) b Q (NF (Ia s1.nx (wV x.fr π 0 (x.lu i0)) (x.rows i).length) (x.du i) (um a) ρ) (OX s1.nx (Ia s1.nx (wV x.fr π 0 (x.lu i0)) (x.rows i).length) (x.rows i) (kY x.oy s1.rows))else False)
 |an,.cond c a b,Q,ρ,s=>
  match ln ρ c with
  | .d (.v (.bool t))=>dp t (mr P H J (an.take (nL a)) a Q ρ s) (mr P H J (an.drop (nL a)) b Q ρ s)
  |_=>False
 |an,.block id a,Q,ρ,s=>mr P H J an a (yTg id Q) ρ s
 |an,.loop a,Q,ρ,s=>
  match an with
  |[]=>False
  |x::rest=>bif ay 0 x.un then yRx (λQ ρ s=>mr P H J rest a Q ρ s) Q x.un ρ s else ∃i0,Nl x i0 [] ρ s λπ s1=>∃(I:x.ι->Prop) (μ:x.ι->Nat),I i0/\(bif Pe s1.nx (kY x.oy s1.rows)then
    ∀i,I i->mr P H J rest a (Nd (λρ' s'=>∃i',Nl x i' (wV x.fr π 0 (x.rows i0)) ρ' s' λ_ s2=>I i'/\μ i'<μ i/\K0 (kY x.oy s1.rows) s2) Q)
     (NF (aT x.fr s1.nx π 0 (x.rows i0)) (x.du i) (um a) ρ) (OX s1.nx (aT x.fr s1.nx π 0 (x.rows i0)) (x.rows i) (kY x.oy s1.rows))else False)
 |_,.exit id,Q,ρ,s=>Q (.exit id) ρ s
 |_,.ret,Q,ρ,s=>Q .ret ρ s
 |_,.region _ ops d,Q,ρ,s=>bif d then Fq P H ops.toList (hP ops.toList []) ops.toList.length (cp ops.toList.length bz) [] ρ s (Q .normal)
    else PN P H ops.toList ops.toList ρ s (Q .normal)
 |_,_,_,_,_=>False
def W2 (k:Ko) (L:List HP) (n:Nat) (A:Nat->Bool) (e0:Env) (E0:Ev) (Q:Exit->xD->St->Prop):Exit->Act->ac->Prop:=λe a w=>
 Good n A e0 a/\∃E ρS s,E0.le E/\Rel k L E s w/\kx E ρS (yQ a)/\Q e ρS s
mutual
theorem VR.low {F:PH} {ga oE:List Hd} {N:Nat} (h:∀n,n<N->∀hd,ga[n]? =av hd->oE[n]? =av hd):∀{v:V} {y:ab},D4 N v=bv->VR ⟨F,ga⟩ v y->VR ⟨F,oE⟩ v y
 | .top,y,hl,e=>by simp only[VR]
 | .d d,y,hl,e=>by simpa only[VR]using e
 | .nm n o,y,hl,e=>by
   simp only[D4,yj]at hl;simp only[VR]at e ⊢;obtain⟨b,oo,l,h1,h2⟩:=e;exact⟨b,oo,l,h n hl _ h1,h2⟩
 | .el n sz i f,y,hl,e=>by
   simp only[D4,yj]at hl;simp only[VR]at e ⊢;obtain⟨b,oo,m,c,l,h1,h2⟩:=e;exact⟨b,oo,m,c,l,h n hl _ h1,h2⟩
 | .re sz ez i f,y,hl,e=>by simpa only[VR]using e
 | .na n o i,y,hl,e=>by
   simp only[D4,yj]at hl;simp only[VR]at e ⊢;obtain⟨b,oo,l,h1,h2⟩:=e;exact⟨b,oo,l,h n hl _ h1,h2⟩
 | .own n,y,hl,e=>by
   simp only[D4,yj]at hl;simp only[VR]at e ⊢;obtain⟨l,h1,h2⟩:=e;exact⟨l,h n hl _ h1,h2⟩
 | .mp n,y,hl,e=>by
   simp only[D4,yj]at hl;simp only[VR]at e ⊢;obtain⟨b,l,h1,h2⟩:=e;exact⟨b,l,h n hl _ h1,h2⟩
 | .sub n i,y,hl,e=>by
   simp only[D4,yj]at hl;simp only[VR]at e ⊢;obtain⟨hd,l,b,oo,h1,h2⟩:=e;exact⟨hd,l,b,oo,h n hl _ h1,h2⟩
 | .agg l,y,hl,e=>by
   simp only[D4]at hl;simp only[VR]at e ⊢;obtain⟨ys,h1,h2⟩:=e;exact⟨ys,h1,gw.low h hl h2⟩
 | .iZ l,y,hl,e=>by
   simp only[D4]at hl;simp only[VR]at e ⊢;obtain⟨ys,h1,h2⟩:=e;exact⟨ys,h1,gw.low h hl h2⟩
 | .fn f a b,y,hl,e=>by
   simp only[D4,lj]at hl;simp only[VR]at e ⊢;obtain⟨as,bs,h1,h2,h3⟩:=e;exact⟨as,bs,h1,gw.low h hl.1 h2,gw.low h hl.2 h3⟩
 | .zy t x,y,hl,e=>by
   simp only[D4]at hl;simp only[VR]at e ⊢;obtain⟨z,h1,h2⟩:=e;exact⟨z,h1,VR.low h hl h2⟩
theorem gw.low {F:PH} {ga oE:List Hd} {N:Nat} (h:∀n,n<N->∀hd,ga[n]? =av hd->oE[n]? =av hd):∀{vs:List V} {l:List ab},Jw N vs=bv->gw ⟨F,ga⟩ vs l->gw ⟨F,oE⟩ vs l
 |[],l,hl,e=>by simpa only[gw]using e
 |v::vs,l,hl,e=>by
  simp only[Jw,lj]at hl;simp only[gw]at e ⊢;obtain⟨x,xs,h1,h2,h3⟩:=e;exact⟨x,xs,h1,VR.low h hl.1 h2,gw.low h hl.2 h3⟩
end
def fp.low {F:PH} {ga oE:List Hd} {N:Nat} (h:∀n,n<N->∀hd,ga[n]? =av hd->oE[n]? =av hd) {o:fj} (hl:y9i N o=bv) {hd:Hd} {x:PH} (e:fp F o ga hd x):fp F o oE hd x:=by
 cases o<;>first|exact e.ga rfl|skip
 ·simp only[fp]at e ⊢;obtain⟨b,l,h1,h2,h3⟩:=e;exact⟨b,l,h1,h2.low h hl,h3⟩
 ·rename_i q t sz ez i f b m;simp only[fp]at e ⊢;obtain⟨a,k,ys,xs,h1,h2,h3,h4,h5⟩:=e;refine⟨a,k,ys,xs,h1,h2,h3,?_,h5⟩;cases m with
  |none=>exact h4
  |some m=>
   simp only[y9i,yj]at hl;obtain⟨y,l,e1,e2⟩:=h4;exact⟨y,l,h m hl _ e1,e2⟩
def zXj {E:Ev} {ρS:xD} {ρ:Env} (he:kx E ρS ρ):∀l:List (Nat×V),gw E (OV ρS l) (l.map λp=>ρ p.1)
 |[]=>by simp[OV,gw]
 |(t,v)::l=>by simp only[OV,jj,gw];exact⟨_,_,rfl,he t,zXj he l⟩
def z3i {F:PH} {tl:List Hd} {ρ:Env}:∀{l:List (Nat×V)},gw ⟨F,tl⟩ (PO l) (l.map λp=>ρ p.1)->∀{t:Nat} {v:V},Xj t l=av v->VR ⟨F,tl⟩ v (ρ t)
 |[],_,t,v,h=>by cases h
 |(u,x)::l,hv,t,v,h=>by
  simp only[PO,jj,gw]at hv;obtain⟨y,ys,e,h1,h2⟩:=hv;cases e;simp only[Xj]at h;cases hb:ax u t
  ·rw[hb]at h;exact z3i h2 h
  ·rw[hb]at h;cases h;rw[<- ja hb];exact h1
def z0x {w:ac} {E3 E4:Ev} (hF:E3.F=E4.F) {N:Nat} (CT:∀n,n<N->∀hd,E3.ga[n]? =av hd->E4.ga[n]? =av hd):∀{kept:List (Nat×fj)} {s:St} {M:List HP},K0 kept s->Pe N kept=bv->
 Hp k w (s.rows.map (gz E3)++M)->Hp k w (kept.map (gz E4)++M)
 |[],s,M,_,_,H=>by
  have:∀(l:List (Nat×fj)),Hp k w (l.map (gz E3)++M)->Hp k w M:=by
   intro l
   induction l with
   |nil=>intro H;exact H
   |cons a l ih=>intro H;exact ih H.drop
  exact this _ H
 |(n,o)::kept,s,M,hk,hl,H=>by
  simp only[Pe,lj,yj]at hl;have j':s.get n=av o/\K0 kept (s.del n):=by
   cases kept with
   |nil=>
    simp only[K0]at hk;split at hk<;>first|exact hk.elim|skip
    rename_i o' ho;subst hk;exact⟨(Wb ho).1,trivial⟩
   |cons a l=>
    simp only[K0]at hk;split at hk<;>first|exact hk.elim|skip
    rename_i o' ho;obtain⟨rfl,hk⟩:=hk;exact⟨(Wb ho).1,hk⟩
  have H1:Hp k w (gz E3 (n,o)::((s.del n).rows.map (gz E3)++M)):=by
   refine H.perm ?_;have:=((uC j'.1).1.map (gz E3)).append_right M;simpa[St.del]using this
  have H2:Hp k w ((s.del n).rows.map (gz E3)++(gz E3 (n,o)::M)):=H1.perm mh.symm;have H3:=z0x hF CT j'.2 hl.2 H2;refine(H3.perm mh).imp λx hx=> ?_
  rcases hx with⟨e,e2⟩|⟨hd,h1,h2⟩
  ·exact .inl ⟨e,e2⟩
  ·exact .inr ⟨hd,CT n hl.1.1 _ h1,hF▸h2.low CT hl.1.2⟩
def Vp {w:ac} {x:gm} {i:x.ι} {π0:NM} {ρS:xD} {ρ:Env} {s:St} {K:NM->St->Prop} {E:Ev} (h:Nl x i π0 ρS s K) (R:Rel k L E s w) (he:kx E ρS ρ) (RF:Az π0 E.ga):
 ∃E3 s3 π3,E.le E3/\K π3 s3/\Ext π0 π3/\Az π3 E3.ga/\E3.ga.length=s3.nx/\∀(E1:Ev) (kept:List (Nat×fj)) (N:Nat) (ρ0:xD) (as:List Nat) (vc:NM),(∀p q,yC p vc=av q->q=N+p\/(yC p π3=av q/\q<N))->E1.ga.length=N->xp E1.F E3.F->E1.ga<+:E3.ga->(∀E4:Ev,E3.F=E4.F->E1.le E4->(∀n,n<N->∀hd,E3.ga[n]? =av hd->E4.ga[n]? =av hd)->∀M,Hp k w (s3.rows.map (gz E3)++M)->Hp k w (kept.map (gz E4)++M))->(∀t,rF t as=bz->VR E1 (ρ0 t) (ρ t))->
  ∃E4,E1.le E4/\Rel k L E4 (OX N vc (x.rows i) kept) w/\kx E4 (NF vc (x.du i) as ρ0) ρ:=by
 unfold Nl at h;obtain⟨E2,π2,s2,q1,q2,q3⟩:=Js h R RF (zXj he _);obtain⟨E3,π3,s3,r1,r2⟩:=Wo q3 q1.rel q1.wf;obtain⟨gn,hk⟩:=zM r2;have gn:=pF gn;refine⟨E3,s3,π3,q1.le.trans r1.le,hk,q1.ext.trans r1.ext,r1.wf,r1.rel.nx,?_⟩;intro E1 kept N ρ0 as vc hre hN hF Mm BU Ex
 let m:=(x.rows i).length
 let tl:List Hd:=(ba m).map λp=>(E3.ga[(yC p π3).getD 0]?).getD (ag,[])
 have td:Loc π3 E3.ga tl:=by
  intro p n hp;obtain⟨hd,h'⟩:=r1.wf p n hp;refine⟨hd,h',?_⟩;show((ba m).map _)[p]? =_;rw[rf,LH (gn p n hp)];simp only[we,hp,zt,h']
 have Ir:tl.length=m:=by simp[tl]
 let E4:Ev:=⟨E3.F,E1.ga++tl⟩
 have ri:E1.le E4:=⟨hF,JN _ _⟩
 have KG:∀n,n<N->∀hd,E3.ga[n]? =av hd->E4.ga[n]? =av hd:=by
  intro n hn hd e;have h1:E1.ga[n]? =av hd:=by
   rw[u' (by omega)];have:E3.ga[n]? =av (E1.ga[n]'(by omega)):=U0 Mm (u' (by omega));rw[this]at e;exact e
  exact ri.get h1
 have AI:∀p n hd,yC p vc=av n->tl[p]? =av hd->E4.ga[n]? =av hd:=by
  intro p n hd hp ht;rcases hre p n hp with rfl|⟨h1,h2⟩
  ·show(E1.ga++tl)[N+p]? =av hd;rw[<- hN,Dg (by omega),show E1.ga.length+p-E1.ga.length=p by omega];exact ht
  ·obtain⟨oO,e1,e2⟩:=td p n h1;rw[ht]at e2;cases e2;exact KG n h2 _ e1
 refine⟨E4,ri,⟨by show(E1.ga++tl).length=N+m;rw[iv,Ir,hN],?_⟩,?_⟩
 ·have H:=r1.rel.AP;have H1:=vG (g:=gz ⟨E3.F,tl⟩) (λr y hy=>by
   rcases hy with⟨e1,e2⟩|⟨n,h1,h2⟩
   ·exact .inl ⟨e1,e2⟩
   ·right;obtain⟨hd,h3,h4⟩:=h2 E3 π3 (Ev.le.refl _) (Ext.refl _) tl td;obtain⟨oO,h5,h6⟩:=td _ _ h1;rw[h3]at h5;cases h5;exact⟨hd,h6,h4⟩) H
  have H2:=pJ (E:=⟨E3.F,tl⟩) (E2:=E4) rfl AI H1;have H3:Hp k w (s3.rows.map (gz E3)++((kW vc 0 (x.rows i)).map (gz E4)++fz E3.F::L)):=by
   refine H2.perm ?_;rw[<- iY,<- iY];exact Bu.append_right _
  have H4:=BU E4 rfl ri KG _ H3;refine H4.perm ?_;show(kept.map (gz E4)++((kW vc 0 (x.rows i)).map (gz E4)++fz E3.F::L)).Perm ((kW vc 0 (x.rows i)++kept).map (gz E4)++fz E4.F::L);rw[<- iY,jl];exact Bu.append_right _
 ·intro t;have yo:gw ⟨E3.F,tl⟩ (PO (x.du i)) ((x.du i).map λp=>ρ p.1):=q2 E3 π3 r1.le r1.ext tl td;unfold NF;split
  ·rename_i v hv;exact(z3i yo hv).vc AI
  ·cases hb:rF t as
   ·exact(Ex t hb).mono ri
   ·simp only[cond_true,VR]
def We {w:ac} {E:Ev} {oy:Nat->Bool}:∀{l:List (Nat×fj)} {M:List HP},Hp k w (l.map (gz E)++M)->Hp k w ((kY oy l).map (gz E)++M)
 |[],M,H=>H
 |(n,o)::l,M,H=>by
  simp only[kY];cases oy n
  ·exact We H.drop
  ·have H1:Hp k w (l.map (gz E)++(gz E (n,o)::M)):=H.perm mh.symm;exact(We H1).perm mh
def zWq {E:Ev} {env:Env} {K:xD->Prop}:∀{l:List (Nat×ab)} {ρ:xD},z9h l ρ K->kx E ρ env->∃ρ',kx E ρ' env/\K ρ'
 |[],ρ,h,_=>h.elim
 |(t,x)::l,ρ,h,he=>by
  rcases h with h|h
  ·unfold xEv at h;split at h<;>first|exact h.elim|skip
   rename_i y hy;obtain⟨rfl,hk⟩:=h;refine⟨_,λu=> ?_,hk⟩;have:=he u;cases hb:ax u t
   ·exact this
   ·rw[ja hb]at this ⊢;rw[hy]at this;exact this
  ·exact zWq h he
def z2k {H:BE} (hH:IE P H) (hm:P.follows .mixedOrders=bv) {J:List (Nat×gm)} {n:Nat}:∀(c:Code) (an:List gm) (Q:Exit->xD->St->Prop) (A:Nat->Bool) (e0:Env) (E0 E:Ev) (a:Act) (w:ac) (ρS:xD) (s:St),
 xl n c=bv->(∀t∈um c,A t=bv)->Good n A e0 a->E0.le E->Rel k L E s w->kx E ρS (yQ a)->mr P H J an c Q ρS s->c.wp P (W2 k L n A e0 E0 Q) a w:=by
 intro c
 induction c with
 |skip=>intro an Q A e0 E0 E a w ρS s _ _ hg hle R he h;exact wp_skip ⟨hg,E,ρS,s,hle,R,he,h⟩
 |region id ops d=>
  intro an Q A e0 E0 E a w ρS s hc hA hg hle R he h;simp only[xl,lj]at hc;have yd:=z5j (A:=A) hc.1 hA;cases d
  ·refine wp_region_list ?_;exact zOd (Q:=W2 k L n A e0 E0 Q) (E0:=E0) (K:=Q .normal) hH (λa w E ρS s hg hle R he h=>⟨hg,E,ρS,s,hle,R,he,h⟩) ops.toList a w E ρS s yd hg hle R he h
  ·refine wp_region_any hm ?_;have oT:eK ops.toList (hP ops.toList [])=bv:=hc.2;have rl:kx E ρS (yQ a):=he;have R':Rel k L E s w.drew:=⟨R.nx,R.hp.drew⟩
   refine g8 (Q:=λa w=>W2 k L n A e0 E0 Q .normal a w) (λ_ _ h=>h) ops.size _ _ _ (M:=[]) (bf:=hP ops.toList []) ?_;have AW:lI ops.toList (qT (cp ops.toList.length bz)):=by
    intro i o ho hi;exfalso;unfold qT at hi;simp[CE]at hi;rw[Xn]at hi;split at hi<;>simp at hi
   have:=z3z (P:=P) (K:=Q .normal) (E0:=E0) (Q:=λa w=>W2 k L n A e0 E0 Q .normal a w) hH oT yd (λa w E ρS s hg hle R he h=>⟨hg,E,ρS,s,hle,R,he,h⟩) ops.toList.length _ [] [] a _ E ρS s AW (λm hm=>by cases hm) .nil hg hle R' rl h;simpa using this
 |seq x y ES ER=>
  intro an Q A e0 E0 E a w ρS s hc hA hg hle R he h;simp only[xl,lj,um,oK]at hc hA;simp only[mr]at h;split at h
  ·refine wp_seq (am (ES _ _ A e0 E0 E a w ρS s hc.1 (λt ht=>hA t (.inl ht)) hg hle R he h) ?_);rintro e a' w' ⟨qg,E',ρ',s',ji,R',rl,h'⟩;cases e<;>first|exact ER _ _ A e0 E0 E' a' w' ρ' s' hc.2 (λt ht=>hA t (.inr ht)) qg ji R' rl h'|exact⟨qg,E',ρ',s',ji,R',rl,h'⟩
  rename_i jn hjn;split at h
  ·rename_i t0 ts hts;refine wp_seq (am (ES _ _ A e0 E0 E a w ρS s hc.1 (λt ht=>hA t (.inl ht)) hg hle R he h) ?_);rintro e a' w' ⟨qg,E',ρ',s',ji,R',rl,h'⟩;cases e<;>first|exact⟨qg,E',ρ',s',ji,R',rl,h'⟩|skip
   obtain⟨E2,tx,R2⟩:=zWb (ρ:=ρ') (t0::ts) R';exact ER _ _ A e0 E0 E2 a' w' ρ' _ hc.2 (λt ht=>hA t (.inr ht)) qg (ji.trans tx) R2 (rl.mono tx) h'
  split at h
  ·rename_i l0 ls RW;refine wp_seq (am (ES _ _ A e0 E0 E a w ρS s hc.1 (λt ht=>hA t (.inl ht)) hg hle R he h) ?_);rintro e a' w' ⟨qg,E',ρ',s',ji,R',rl,h'⟩;cases e<;>first|exact⟨qg,E',ρ',s',ji,R',rl,h'⟩|skip
   obtain⟨ρ2,OC,h2⟩:=zWq h' rl;exact ER _ _ A e0 E0 E' a' w' ρ2 s' hc.2 (λt ht=>hA t (.inr ht)) qg ji R' OC h2
  ·obtain⟨i0,h⟩:=h;obtain⟨E1,s1,π1,xd,⟨I,ua⟩,_,F2,J0,hmk⟩:=Vp (x:=jn.pk) h R he (λp n e=>by cases e);obtain⟨CT,T9,BS⟩:=zM ua;have CS:∀p q,yC p (wV jn.fr π1 0 (jn.lu i0))=av q->yC p π1=av q/\q<s1.nx:=λp q e=>by
    have h1:=tE e;obtain⟨hd,h2⟩:=F2 p q h1;exact⟨h1,by rw[<- J0];exact(jf.1 h2).1⟩
   have DF:∀t,rF t []=bz->VR E1 (ρS t) (yQ a t):=λt _=>(he t).mono xd
   obtain⟨E2,tx,R2,OC⟩:=hmk E1 (kY jn.oy s1.rows) s1.nx ρS [] (Ia s1.nx (wV jn.fr π1 0 (jn.lu i0)) (jn.lu i0).length) (λp q e=>(Zs e).imp_right (CS p q)) J0 (xp.refl _) (JJ _) (λE4 _ ri _ M H=>vG (λr y=>gz.mono ri r) (We H)) DF;have Sb:Good n (λt=>A t && rF t (um x)) (yQ a) a:=⟨hg.size,hg.defers,λ_ _=>rfl⟩
   refine wp_seq (am (ES _ _ (λt=>A t && rF t (um x)) (yQ a) E2 E2 a w _ _ hc.1 (λt ht=>by rw[hA t (.inl ht),ry.2 ht];rfl) Sb (Ev.le.refl _) R2 OC T9) ?_);rintro e a2 w2 ⟨Av,E3,ρ3,s3,AK,R3,Si,h2⟩;have J3:Good n A e0 a2:=⟨Av.size,Av.defers,λt ht=>by rw[Av.same t (by simp[ht]),hg.same t ht]⟩
   have F8:E0.le E3:=hle.trans (xd.trans (tx.trans AK));cases e<;>first|exact⟨J3,E3,ρ3,s3,F8,R3,Si,h2⟩|skip
   obtain⟨i',h2⟩:=h2;have XH:Az (wV jn.fr π1 0 (jn.lu i0)) E3.ga:=λp q e=>by
    obtain⟨hd,h2⟩:=F2 p q (CS p q e).1;exact⟨hd,(tx.trans AK).get h2⟩
   obtain⟨E4,s4,π4,ri,⟨Ga,BU⟩,Gd,_,hn4,Mq⟩:=Vp h2 R3 Si XH;have DE:∀t,rF t (um x)=bz->VR E1 (ρS t) (yQ a2 t):=λt ht=>by rw[Av.same t (by simp[ht])];exact(he t).mono xd
   obtain⟨E5,Ms,R5,he5⟩:=Mq E1 (kY jn.oy s1.rows) s1.nx ρS (um x) (Ia s1.nx (wV jn.fr π1 0 (jn.lu i0)) (jn.rows i').length) (λp q e=>(Zs e).imp_right λh=>⟨Gd p q h,(CS p q h).2⟩) J0 (tx.trans (AK.trans ri)).1 (tx.trans (AK.trans ri)).2
    (λE6 hF _ hl M H=>z0x (E3:=E4) (E4:=E6) hF hl BU CT H) DE
   exact ER _ _ A e0 E0 E5 a2 w2 _ _ hc.2 (λt ht=>hA t (.inr ht)) J3 (hle.trans (xd.trans Ms)) R5 he5 (BS i' Ga)
 |cond c x y ES ER=>
  intro an Q A e0 E0 E a w ρS s hc hA hg hle R he h;simp only[xl,lj,um,oK]at hc hA;simp only[mr]at h;split at h<;>first|exact h.elim|skip
  rename_i t ht;have hv:=he.ev c;rw[ht]at hv;simp only[VR,DR]at hv;have HE:=hv.1;rw[vF]at HE;refine wp_cond_split HE (λe=> ?_) (λe=> ?_)
  ·subst e;exact ES _ _ A e0 E0 E a w ρS s hc.1 (λt ht=>hA t (.inl ht)) hg hle R he h
  ·subst e;exact ER _ _ A e0 E0 E a w ρS s hc.2 (λt ht=>hA t (.inr ht)) hg hle R he h
 |block id x ih=>
  intro an Q A e0 E0 E a w ρS s hc hA hg hle R he h;refine wp_block (am (ih an _ A e0 E0 E a w ρS s hc hA hg hle R he h) ?_);rintro e a' w' ⟨qg,E',ρ',s',ji,R',rl,h'⟩;cases e<;>first|exact⟨qg,E',ρ',s',ji,R',rl,h'⟩|skip
  rename_i FH;simp only[Exit.inBlock];simp only[yTg]at h';split
  ·rename_i heq;subst heq;rw[Nat.beq_refl]at h';exact⟨qg,E',ρ',s',ji,R',rl,h'⟩
  ·rename_i jr;have hb:ax FH id=bz:=by
    cases hb:ax FH id with
    |false=>rfl
    |true=>exact absurd (ja hb) jr
   rw[hb]at h';exact⟨qg,E',ρ',s',ji,R',rl,h'⟩
 |loop x ih=>
  intro an Q A e0 E0 E a w ρS s hc hA hg hle R he h;cases an with
  |nil=>exact h.elim
  |cons an rest=>
   have hh:=dY h;clear h;rcases hh with⟨_,h⟩|⟨_,h⟩
   ·refine wp_loop_rounds an.un ?_;revert h;generalize an.un=m;intro h
    induction m generalizing a w E ρS s with
    |zero=>exact h.elim
    |succ m ihm=>
     rw[rounds_succ];simp only[yRx]at h;refine am (ih rest _ A e0 E0 E a w ρS s hc hA hg hle R he h) ?_;rintro e a' w' ⟨qg,E',ρ',s',ji,R',rl,h'⟩;cases e<;>first|exact ihm E' a' w' ρ' s' qg ji R' rl h'|exact⟨qg,E',ρ',s',ji,R',rl,h'⟩
   obtain⟨i0,h⟩:=h;obtain⟨E1,s1,π1,xd,⟨I,μ,T3,ua⟩,_,F2,J0,hmk⟩:=Vp h R he (λp n e=>by cases e);obtain⟨CT,ua⟩:=zM ua;have CS:∀p q,yC p (wV an.fr π1 0 (an.rows i0))=av q->yC p π1=av q/\q<s1.nx:=λp q e=>by
    have h1:=tE e;obtain⟨hd,h2⟩:=F2 p q h1;exact⟨h1,by rw[<- J0];exact(jf.1 h2).1⟩
   have DF:∀t,rF t (um x)=bz->VR E1 (ρS t) (yQ a t):=λt _=>(he t).mono xd
   obtain⟨E2,tx,R2,OC⟩:=hmk E1 (kY an.oy s1.rows) s1.nx ρS (um x) (aT an.fr s1.nx π1 0 (an.rows i0)) (λp q e=>(NA e).imp_right (CS p q)) J0 (xp.refl _) (JJ _) (λE4 _ ri _ M H=>vG (λr y=>gz.mono ri r) (We H)) DF;refine wp_loop_ghost (λm a' w'=>Good n A e0 a'/\(∀t,rF t (um x)=bz->yQ a' t=yQ a t)/\∃i E',E1.le E'/\I i/\Rel k L E' (OX s1.nx (aT an.fr s1.nx π1 0 (an.rows i0)) (an.rows i) (kY an.oy s1.rows)) w'/\
    kx E' (NF (aT an.fr s1.nx π1 0 (an.rows i0)) (an.du i) (um x) ρS) (yQ a')/\μ i=m) (μ i0) ⟨hg,λ_ _=>rfl,i0,E2,tx,T3,R2,OC,rfl⟩ ?_
   rintro m a' w' ⟨qg,Ex,i,E',ji,hinv,R',rl,rfl⟩;have h1:=ua i hinv;have Sb:Good n (λt=>A t && rF t (um x)) (yQ a') a':=⟨qg.size,qg.defers,λ_ _=>rfl⟩
   refine am (ih rest _ (λt=>A t && rF t (um x)) (yQ a') E' E' a' w' _ _ hc (λt ht=>by rw[hA t ht,ry.2 ht];rfl) Sb (Ev.le.refl _) R' rl h1) ?_;rintro e a2 w2 ⟨Av,E3,ρ3,s3,AK,R3,Si,h2⟩;have J3:Good n A e0 a2:=⟨Av.size,Av.defers,λt ht=>by rw[Av.same t (by simp[ht]),qg.same t ht]⟩
   have F8:E0.le E3:=hle.trans (xd.trans (ji.trans AK));cases e<;>first|exact⟨J3,E3,ρ3,s3,F8,R3,Si,h2⟩|skip
   obtain⟨i',h2⟩:=h2;have XH:Az (wV an.fr π1 0 (an.rows i0)) E3.ga:=λp q e=>by
    obtain⟨hd,h2⟩:=F2 p q (CS p q e).1;exact⟨hd,(ji.trans AK).get h2⟩
   obtain⟨E4,s4,π4,ri,⟨Ga,hμ,BU⟩,Gd,_,hn4,Mq⟩:=Vp h2 R3 Si XH;have DE:∀t,rF t (um x)=bz->yQ a2 t=yQ a t:=λt ht=>by rw[Av.same t (by simp[ht]),Ex t ht]
   obtain⟨E5,Ms,R5,he5⟩:=Mq E1 (kY an.oy s1.rows) s1.nx ρS (um x) (aT an.fr s1.nx π1 0 (an.rows i0)) (λp q e=>(NA e).imp_right λh=>⟨Gd p q h,(CS p q h).2⟩) J0 (ji.trans (AK.trans ri)).1 (ji.trans (AK.trans ri)).2
    (λE6 hF _ hl M H=>z0x (E3:=E4) (E4:=E6) hF hl BU CT H) (λt ht=>by rw[DE t ht];exact DF t ht)
   exact⟨_,hμ,J3,DE,i',E5,Ms,Ga,R5,he5,rfl⟩
 |exit id=>intro an Q A e0 E0 E a w ρS s _ _ hg hle R he h;exact wp_exit ⟨hg,E,ρS,s,hle,R,he,h⟩
 |ret=>intro an Q A e0 E0 E a w ρS s _ _ hg hle R he h;exact wp_ret ⟨hg,E,ρS,s,hle,R,he,h⟩
 |rangeFunc f ps x y ES ER=>intro an Q A e0 E0 E a w ρS s _ _ hg hle R he h;exact h.elim
 |scope x ih=>intro an Q A e0 E0 E a w ρS s _ _ hg hle R he h;exact h.elim
 |label l=>intro an Q A e0 E0 E a w ρS s _ _ hg hle R he h;exact h.elim
 |goto l=>intro an Q A e0 E0 E a w ρS s _ _ hg hle R he h;exact h.elim
 |refuse t=>intro an Q A e0 E0 E a w ρS s _ _ hg hle R he h;exact h.elim
variable {P:af} {k:Ko} {L:List HP}
def HT (P:af) (ρ:xD) (s:St):List ResultVar->Option (List V)
 |[]=>av []
 | .tmp t::rs=>match HT P ρ s rs with
   |some vs=>av (ρ t::vs)
   |none=>aw
 | .cell a t::rs=>match ρ a with
   | .nm n off=>match s.get n with
     |some (.cells vs _)=>match Xi P t vs off with
      |some v=>match HT P ρ s rs with
       |some us=>av (v::us)
       |none=>aw
      |none=>aw
     |_=>aw
   |_=>aw
def Nh:List V->V
 |[v]=>v
 |vs=> .iZ vs
def zFe {E:Ev} {s:St} {w:ac} (R:Rel k L E s w) {ρS:xD} {a:Act} (he:kx E ρS (yQ a)):∀{rs:List ResultVar} {vs:List V},HT P ρS s rs=av vs->∃ys,(rs.mapM (Ie a.tmps)).run P w= .ok ys w/\gw E vs ys
 |[],vs,h=>by
  simp only[HT,cg]at h;subst h;exact⟨[],rfl,gw.nil⟩
 | .tmp t::rs,vs,h=>by
   simp only[HT]at h;split at h<;>first|(cases h;done)|skip
   rename_i us RJ;cases h;obtain⟨ys,h1,h2⟩:=zFe R he RJ;refine⟨yQ a t::ys,?_,by simp only[gw];exact⟨_,_,rfl,he t,h2⟩⟩;simp only[bg,Ie,bind,pure,run_bind,cu,cr]at h1 ⊢;rw[h1]
 | .cell c t::rs,vs,h=>by
   simp only[HT]at h;split at h<;>first|(cases h;done)|skip
   rename_i n off hc;split at h<;>first|(cases h;done)|skip
   rename_i cs T hg;split at h<;>first|(cases h;done)|skip
   rename_i v hp;split at h<;>first|(cases h;done)|skip
   rename_i us RJ;cases h;obtain⟨ys,h1,h2⟩:=zFe R he RJ;have hv:=he c;rw[hc]at hv;simp only[VR]at hv;obtain⟨b,oo,l,e1,e2⟩:=hv;obtain⟨b',l',sub,q1,q2,q3⟩:=R.cells hg;rw[e1]at q1;cases q1;obtain⟨y,hy,hh⟩:=zOf q2 q3 hp;refine⟨y::ys,?_,by simp only[gw];exact⟨_,_,rfl,hy,h2⟩⟩;rw[nh]at e2;have e2':a.tmps.getD c ag= .pointer (av ⟨b,off,aw⟩):=e2;unfold pT at hh;simp only[bg,Ie,bind,pure,run_bind,cu,cr,e2',asAddr,hh]at h1 ⊢;rw[h1]
def X3 (P:af) (fn:Func) (K:V->St->Prop):Exit->xD->St->Prop
 | .normal,ρ,s=>iF (HT P ρ s fn.results.toList) λvs=>K (Nh vs) s
 | .ret,ρ,s=>iF (HT P ρ s fn.results.toList) λvs=>K (Nh vs) s
 |_,_,_=>False
def P9:List V->Nat->V
 |[],_=> .top
 |v::_,0=>v
 |_::l,n+1=>P9 l n
def O5 (args:List V):xD:=λt=>P9 args t
def yEp {E:Ev}:∀{vs:List V} {ys:List ab},gw E vs ys->∀t,VR E (P9 vs t) (ys.getD t ag)
 |[],ys,h,t=>by simp only[P9,VR]
 |v::vs,ys,h,t=>by
  simp only[gw]at h;obtain⟨x,xs,rfl,h1,h2⟩:=h;cases t with
  |zero=>exact h1
  |succ t=>simpa[P9]using yEp h2 t
def nT {f:aq} {args:Array ab} {w:ac} {K:ab->ac->Prop} (hb:gD P f=bv) (h:Calls P f args w λe w'=>∃v,e= .returned v/\K v w'):nf P (aj f args) w K:=by
 unfold gD at hb;split at hb
 ·rename_i fn FQ;simp only[lj,De,Bool.not_eq_eq_eq_not,Bool.not_true]at hb;unfold nf;have:(aj f args).run P w= .ok (.enter f args) w:=by
   simp only[aj,bind,pure,run_bind,program,cr,cu,FQ,hb.1,hb.2,oL,if_false]
  rw[this];exact h
 ·cases hb
def zBd {H:BE} (hH:IE P H) (hm:P.follows .mixedOrders=bv) {f:aq} {fn:Func} {c:Code} (hf:P.funcs[f]? =av fn) (hb:fn.body=av c) (oT:xl fn.ntmps c=bv) (J:List (Nat×gm)) (an:List gm)
 {args:List V} (pf:az args.length fn.ntmps=bv) {K:V->St->Prop} {s:St} (h:mr P H J an c (X3 P fn K) (O5 args) s) {E:Ev} {w:ac} {ys:List ab} (R:Rel k L E s w) (hv:gw E args ys):
 Calls P f ys.toArray w λe w'=>∃v,e= .returned v/\pg k L E K v w':=by
 refine calls_of_wp hf hb ?_;have pf:=Cc pf;have hlen:=hv.length;have hg:Good fn.ntmps (λ_=>bv) (gP ys) {tmps:=ys.toArray++cp (fn.ntmps-ys.toArray.size) ag,defers:=[]}:=
  ⟨by simp;omega,rfl,λs hs=>by cases hs⟩
 have Mt:yQ {tmps:=ys.toArray++cp (fn.ntmps-ys.toArray.size) ag,defers:=[]}=gP ys:=by
  funext i;simp only[yQ,gP,CE,oc,Array.getElem?_append];split
  ·simp
  ·rename_i gn;simp at gn;rw[ud gn,Xn];split<;>rfl
 have he:kx E (O5 args) (yQ {tmps:=ys.toArray++cp (fn.ntmps-ys.toArray.size) ag,defers:=[]}):=by
  rw[Mt];intro t;exact yEp hv t
 refine am (z2k hH hm c an _ (λ_=>bv) (gP ys) E E _ w _ s oT (λ_ _=>rfl) hg (Ev.le.refl _) R he h) ?_;have fin:∀{a':Act} {w':ac} {E':Ev} {ρ':xD} {s':St},Good fn.ntmps (λ_=>bv) (gP ys) a'->E.le E'->Rel k L E' s' w'->kx E' ρ' (yQ a')->(iF (HT P ρ' s' fn.results.toList) λvs=>K (Nh vs) s')->
  ∃v,(results fn a'.tmps).run P w'= .ok v w'/\∃v',Ending.returned v= .returned v'/\pg k L E K v' w':=by
  intro a' w' E' ρ' s' qg ji R' rl h';obtain⟨vs,hvs,hk⟩:=zN h';obtain⟨zs,h1,h2⟩:=zFe R' rl hvs;refine⟨HY zs,?_,_,rfl,E',Nh vs,s',ji,R',?_,hk⟩
  ·unfold results;rw[Array.mapM_eq_mapM_toList,map_eq_pure_bind,bind_assoc];exact zOs h1 _ (λr=>by cases r<;>rfl)
  ·rcases vs with _|⟨v,_|⟨u,vs⟩⟩
   ·simp only[gw]at h2;subst h2;simp only[Nh,HY,VR];exact⟨[],rfl,gw.nil⟩
   ·simp only[gw]at h2;obtain⟨x,xs,rfl,h3,rfl⟩:=h2;exact h3
   ·have h20:=h2;simp only[gw]at h2;obtain⟨x,xs,rfl,h3,y,D6,rfl,h4,h5⟩:=h2;simp only[Nh,HY,VR];exact⟨_,rfl,h20⟩
 rintro e a' w' ⟨qg,E',ρ',s',ji,R',rl,h'⟩;cases e<;>first|exact h'.elim|skip
 ·obtain⟨v,h1,h2⟩:=fin qg ji R' rl h';exact⟨qg.defers,v,h1,h2⟩
 ·obtain⟨v,h1,h2⟩:=fin qg ji R' rl h';exact⟨qg.defers,v,h1,h2⟩
def zEs {H:BE} (hH:IE P H) (hm:P.follows .mixedOrders=bv) {f:aq} {fn:Func} {c:Code} (hf:P.funcs[f]? =av fn) (hb:fn.body=av c) (Ci:gD P f=bv) (oT:xl fn.ntmps c=bv) (J:List (Nat×gm)) (an:List gm)
 {args:List V} (pf:az args.length fn.ntmps=bv) {K:V->St->Prop} {s:St} (h:mr P H J an c (X3 P fn K) (O5 args) s) {E:Ev} {w:ac} {ys:List ab} (R:Rel k L E s w) (hv:gw E args ys):
 nf P (aj f ys.toArray) w (pg k L E K):=nT Ci (zBd hH hm hf hb oT J an pf h R hv)
def E0 (w:ac):Ev:=⟨λb=>w.heap[b]?,[]⟩
def xGi (w:ac) (hG:EA λb=>w.heap[b]?):Rel (Cv.ko w) [] (E0 w) ⟨[],0⟩ w:=⟨rfl,(Hp.start w).imp λx hx=>⟨hx,hG⟩⟩
def xCv (f:Nat):List (Nat×fy)->Option fy
 |[]=>aw
 |(g,C)::l=>bif ax g f then av C else xCv f l
def zd (P:af):List (Nat×fy)->Prop
 |[]=>True
 |(f,C)::l=>C.ok P f/\zd P l
def P8 (f:Nat):List (Nat×fy)->Bool
 |[]=>bz
 |(g,_)::l=>bif ax g f then bv else P8 f l
def Ng (f:Nat) (args:List V) (s:St) (K:V->St->Prop):List (Nat×fy)->Prop
 |[]=>False
 |(g,C)::l=>bif ax g f then(bif P8 f l then C.call args s K\/Ng f args s K l else C.call args s K)else Ng f args s K l
def VG {f:Nat} {args:List V} {s:St} {K:V->St->Prop}:∀{G:List (Nat×fy)},zd P G->Ng f args s K G->∃C:fy,C.ok P f/\C.call args s K
 |[],_,h=>h.elim
 |(g,C)::l,hG,h=>by
  simp only[Ng]at h;cases hb:ax g f with
  |false=>rw[hb]at h;exact VG hG.2 h
  |true=>
   rw[hb]at h;have e:=ja hb;subst e;cases hl:P8 g l with
   |false=>rw[hl]at h;exact⟨C,hG.1,h⟩
   |true=>
    rw[hl]at h;rcases h with h|h
    ·exact⟨C,hG.1,h⟩
    ·exact VG hG.2 h
def qz (P:af) (G:List (Nat×fy)):Nat->BE
 |0,f,args,s,K=>match P8 f G with
  |true=>Ng f args s K G
  |false=>False
 |d+1,f,args,s,K=>match P8 f G with
  |true=>Ng f args s K G
  |false=>match P.funcs[f]? with
   |some fn=>match fn.body with
    |some c=>bif gD P f && xl fn.ntmps c && az args.length fn.ntmps then mr P (qz P G d) [] [] c (X3 P fn K) (O5 args) s else False
    |none=>False
   |none=>False
def yOa (hm:P.follows .mixedOrders=bv) {G:List (Nat×fy)} (hG:zd P G):∀d,IE P (qz P G d):=by
 intro d
 induction d with
 |zero=>
  intro f args s K h k L E w ys R hv;simp only[qz]at h;split at h<;>first|exact h.elim|skip
  obtain⟨C,h1,h2⟩:=VG hG h;exact fy.yi h1 h2 R hv
 |succ d ih=>
  intro f args s K h k L E w ys R hv;simp only[qz]at h;split at h
  ·obtain⟨C,h1,h2⟩:=VG hG h;exact fy.yi h1 h2 R hv
  ·split at h<;>first|exact h.elim|skip
   rename_i fn FQ;split at h<;>first|exact h.elim|skip
   rename_i c hc;obtain⟨hb,h⟩:=zM h;simp only[lj]at hb;exact zEs ih hm FQ hc hb.1.1 hb.1.2 [] [] hb.2 h R hv
def Ln:Nat->NM
 |0=>[]
 |m+1=>(m,m)::Ln m
def z7e:∀{m p:Nat},p<m->yC p (Ln m)=av p
 |m+1,p,h=>by
  simp only[Ln,yC];cases hb:ax m p
  ·have:m≠p:=λe=>by subst e;simp at hb
   exact z7e (by omega)
  ·rw[<- ja hb];rfl
def zIf:∀{m p q:Nat},yC p (Ln m)=av q->p<m/\q=p
 |0,p,q,h=>by cases h
 |m+1,p,q,h=>by
  simp only[Ln,yC]at h;cases hb:ax m p
  ·rw[hb]at h;obtain⟨h1,h2⟩:=zIf h;exact⟨by omega,h2⟩
  ·rw[hb]at h;have:=ja hb;simp only[cond_true,cg]at h;exact⟨by omega,by omega⟩
def Xl (m:Nat) (v:V) (s:St) (a:Alt):Prop:=
 ∃o,Cd (a.res o) v (Ln m) s λπ s=>Ip 0 (a.post o) π s λπ _=>bif tU (a.post o).length π && az m (a.post o).length then a.rel o else False
def WO (m:Nat) (v:V) (s:St):List Alt->Prop
 |[]=>False
 |[a]=>Xl m v s a
 |a::l=>Xl m v s a\/WO m v s l
def Vl {m:Nat} {v:V} {s:St}:∀{l:List Alt},WO m v s l->∃a∈l,Xl m v s a
 |[a],h=>⟨a,by simp,h⟩
 |a::b::l,h=>by
  rcases h with h|h
  ·exact⟨a,by simp,h⟩
  ·obtain⟨c,h1,h2⟩:=Vl h;exact⟨c,jc _ h1,h2⟩
def Yu {w:ac} {m:Nat} {v:V} {s:St} {a:Alt} {E0 E:Ev} (h:Xl m v s a) (hn:E0.ga.length=m) (hle:E0.le E) (R:Rel k L E s w) {y:ab} (hv:VR E v y):
 ∃o,a.rel o/\∃E',E0.le E'/\VR E' (a.res o) y/\Rel k L E' ⟨gV 0 (a.post o),(a.post o).length⟩ w:=by
 obtain⟨o,h⟩:=h;have Bf:Az (Ln m) E.ga:=λp n e=>by
  obtain⟨h1,rfl⟩:=zIf e;exact⟨E0.ga[n]'(by omega),hle.get (u' (by omega))⟩
 obtain⟨E1,π1,s1,q1,q2,q3⟩:=z7l h R Bf hv;obtain⟨E2,π2,s2,r1,r2⟩:=Wo q3 q1.rel q1.wf;obtain⟨hb,Mk⟩:=zM r2;simp only[lj]at hb;have gn:=pF hb.1;have hmq:=Cc hb.2
 let q:=(a.post o).length
 let tl:List Hd:=(ba q).map λp=>(E2.ga[(yC p π2).getD 0]?).getD (ag,[])
 have j':∀p,p<q->tl[p]? =av ((E2.ga[(yC p π2).getD 0]?).getD (ag,[])):=λp hp=>by
  show((ba q).map _)[p]? =_;rw[rf,LH hp];rfl
 have td:Loc π2 E2.ga tl:=by
  intro p n hp;obtain⟨hd,h'⟩:=r1.wf p n hp;refine⟨hd,h',?_⟩;rw[j' p (gn p n hp)];simp only[hp,zt,h']
 have tx:E0.le E2:=hle.trans (q1.le.trans r1.le);have Mm:E0.ga<+:tl:=by
  refine⟨tl.drop m,?_⟩;apply Dd;intro p;by_cases hp:p<m
  ·rw[FC (by omega)];have yz:yC p π2=av p:=r1.ext _ _ (q1.ext _ _ (z7e hp));have e1:E0.ga[p]? =av (E0.ga[p]'(by omega)):=u' (by omega);rw[j' p (by omega),yz,zt,tx.get e1,e1];rfl
  ·rw[Dg (by omega),Bs,hn,show m+(p-m)=p by omega]
 refine⟨o,Mk,⟨E2.F,tl⟩,⟨tx.1,Mm⟩,q2 E2 π2 r1.le r1.ext tl td,⟨by simp[tl,q],?_⟩⟩;have H:=r1.rel.AP;have H1:=vG (g:=gz ⟨E2.F,tl⟩) (λr x hx=>by
  rcases hx with⟨e1,e2⟩|⟨n,h1,h2⟩
  ·exact .inl ⟨e1,e2⟩
  ·right;obtain⟨hd,h3,h4⟩:=h2 E2 π2 (Ev.le.refl _) (Ext.refl _) tl td;obtain⟨oO,h5,h6⟩:=td _ _ h1;rw[h3]at h5;cases h5;exact⟨hd,h6,h4⟩) H
 have H2:Hp k w (s2.rows.map (gz E2)++((gV 0 (a.post o)).map (gz ⟨E2.F,tl⟩)++fz E2.F::L)):=by
  refine H1.perm ?_;rw[<- iY,<- iY];exact Bu.append_right _
 have T6:∀(l:List (Nat×fj)) {M:List HP},Hp k w (l.map (gz E2)++M)->Hp k w M:=by
  intro l
  induction l with
  |nil=>intro M H;exact H
  |cons a l ih=>intro M H;exact ih H.drop
 exact T6 _ H2
def walk (P:af) (G:List (Nat×fy)) (d:Nat) (J:List (Nat×gm)) (an:List gm) (op:List Nat) (fn:Func) (c:Code) (args:List V) (rows:List fj) (alts:List Alt):Prop:=
 mr P (qz P G d) J an c (X3 P fn λv s=>WO rows.length v s alts) (O5 args) (UJ op ⟨gV 0 rows,rows.length⟩)
def qY (hm:P.follows .mixedOrders=bv) {f:aq} {fn:Func} {c:Code} {C:fy} (G:List (Nat×fy)) (hG:zd P G) (d:Nat) (J:C.ι->List (Nat×gm)) (an:C.ι->List gm) (op:List Nat) (hf:P.funcs[f]? =av fn) (hb:fn.body=av c) (Ci:gD P f=bv) (oT:xl fn.ntmps c=bv)
 (pf:∀i,az (C.pat i).length fn.ntmps=bv) (h:∀i,C.dp i->walk P G d (J i) (an i) op fn c (C.pat i) (C.pre i) (C.alts i)):C.ok P f:=by
 intro i hc k L E w ys R hv;obtain⟨E1,hle,R1⟩:=zFh op R;refine(zEs (yOa hm hG d) hm hf hb Ci oT (J i) (an i) (pf i) (h i hc) R1 (hv.mono hle)).mono ?_;rintro y w' ⟨E',v,s',ji,R',JV,hk⟩;obtain⟨a,ha,AM⟩:=Vl hk;obtain⟨o,h1,E2,h2,h3,h4⟩:=Yu AM R.nx (hle.trans ji) R' JV;exact⟨a,ha,o,h1,E2,h2,h3,h4⟩
def vY (t:ak):fy where
 ι:=List (ab×List D)
 pat:=λ_=>[.zy t (.mp 0)]
 pre:=λes=>[.map es]
 dp:=λ_=>True
 alts:=λes=>[{o:=Unit,res:=λ_=> .zy t (.mp 1),post:=λ_=>[.map es,.map es],rel:=λ_=>True}]
def z8g {f : FuncId} {fn : Func} (hf : P.funcs[f]? = some fn) (BT : (fn.name == "runtime.NumGoroutine") = false) (hb : fn.body.isNone = true) (hn : Extern.findNext fn = none) (he : Extern.find fn = some Extern.MapsClone.clone) (t : TypeId) : (vY t).ok P f := by
 intro es _ k L E w ys R hv;simp only[vY,gw,VR]at hv;obtain⟨y,_,rfl,⟨z,rfl,b,sub,e1,rfl⟩,rfl⟩:=hv;have hg:(⟨gV 0 [.map es],1⟩:St).get 0=av (.map es):=rfl;obtain⟨hd,x,q1,q2,q3⟩:=R.row hg (by simp);rw[e1]at q1;cases q1;simp only[fp]at q2;obtain⟨b',fu,ck,e4,e5,e6,rfl⟩:=q2;cases e4;have hm:=q3 b _ (by simp[one];rfl);have jh:(Extern.MapsClone.clone #[.iface t (.map (av b))]).run P w= .ok (.iface t (.map (av w.heap.size))) (w.alloc (.map fu.toArray ck)):=by
  have e:Extern.MapsClone.clone #[.iface t (.map (av b))]=(getObj b>>=λo=>match o with
   | .map entries clock=>(newObj (.map entries clock)>>=λn=>pure (.iface t (.map (av n))))
   | _ => stuck "maps.clone: a map expected") := rfl
  rw[e];simp only[bind,run_bind,qV hm trivial];rfl
 unfold nf;rw[run_callFunc_extern hf BT hb hn he,jh];simp only[Result.andThen];have MV:fp E.F (.map es) (E.ga++[(.map (av w.heap.size),[])]) (.map (av w.heap.size),[]) (one w.heap.size (.map fu.toArray ck)):=by
  simp only[fp];exact⟨_,fu,ck,rfl,e5,e6,rfl⟩
 obtain⟨h1,h2,h3⟩:=R.new MV;refine⟨_,uc.2 rfl,(),trivial,_,h1,by simp only[VR];exact⟨_,rfl,_,_,h3,rfl⟩,⟨h2.nx,h2.hp.perm ?_⟩⟩;exact .swap _ _ _
def z1z {E:Ev} {s:St} {w w':ac} (hle:(E0 w).le E) (R:Rel (Cv.ko w) [] E s w'):Below w.heap.size w w':=by
 have HJ:=R.frozen;obtain⟨h1,h2,h3⟩:=R.hp.1;have Tb:∀b,b<w.heap.size->w'.heap[b]? =w.heap[b]? :=λb hb=>by
  have:w.heap[b]? =av w.heap[b]:=Rr hb;rw[this];exact HJ b _ (hle.1 b _ this)
 refine⟨h1,h2,h3,?_,Tb⟩;rcases vh w'.heap.size w.heap.size with gn|LW
 ·have:=Tb w'.heap.size gn;rw[Hv (lh _),Rr gn]at this;cases this
 ·exact LW
def zo (hm:P.follows .mixedOrders=bv) {f:aq} {fn:Func} {c:Code} (G:List (Nat×fy)) (hG:zd P G) (d:Nat) (J:List (Nat×gm)) (an:List gm) (hf:P.funcs[f]? =av fn) (hb:fn.body=av c) (oT:xl fn.ntmps c=bv)
 {args:List V} {alts:List Alt} (pf:az args.length fn.ntmps=bv) (h:walk P G d J an [] fn c args [] alts) {w:ac} (hG0:EA λb=>w.heap[b]?) {ys:List ab} (hv:gw (E0 w) args ys):
 Calls P f ys.toArray w λe w'=>∃y,e= .returned y/\Below w.heap.size w w'/\∃a∈alts,∃o,a.rel o/\∃E',VR E' (a.res o) y:=by
 refine(zBd (yOa hm hG d) hm hf hb oT J an pf h (xGi w hG0) hv).mono ?_;rintro e w' ⟨y,he,E',v,s',hle,R,RH,hk⟩;obtain⟨a,ha,AM⟩:=Vl hk;obtain⟨o,h1,E2,h2,h3,h4⟩:=Yu AM rfl hle R RH;exact⟨y,he,z1z hle R,a,ha,o,h1,E2,h3⟩
@[reducible] def zB (n:Int):V:= .d (.v (.int .i64 n))
@[reducible] def A0 (n:Int):V:= .d (.v (.int .u64 n))
@[reducible] def WQ (n:Int):V:= .d (.v (.int .u32 n))
@[reducible] def yL (b:Bool):V:= .d (.v (.bool b))
@[reducible] def ot (sz:Nat) (ez:List (List D)):V:= .d (.ro sz ez)
def pL:V:= .iZ []
@[reducible] def fi (ι:Type) (pat:ι->List V) (pre:ι->List fj) (dp:ι->Prop) (res:ι->V) (post:ι->List fj):fy where
 ι:=ι
 pat:=pat
 pre:=pre
 dp:=dp
 alts:=λi=>[{o:=Unit,res:=λ_=>res i,post:=λ_=>post i,rel:=λ_=>True}]
def bE (l:List UInt8):List (List D):=l.map λb=>[.v (.int .u8 b.toNat)]
@[simp] theorem Us (a b:List UInt8):bE (a++b)=bE a++bE b:=by simp[bE]
@[simp] theorem xGh:bE []=[]:=rfl
@[simp] theorem yV (a:List UInt8):(bE a).length=a.length:=by simp[bE]
def lQ (a:List UInt8) (n:Nat):bE (a.take n)=(bE a).take n:=by simp[bE]
def eF (a:List UInt8) (n:Nat):bE (a.drop n)=(bE a).drop n:=by simp[bE]
def zVu (s:ByteArray):jZ s=bE s.data.toList:=rfl
def iR (n:Int):UInt8:=UInt8.ofNat (n % 256).toNat
def le (n:Int):Nat->List UInt8
 |0=>[]
 |k+1=>iR n::le (n / 256) k
def y7 (k:Nat):∀n:Int,(le n k).length=k:=by
 induction k with
 |zero=>intro n;rfl
 |succ k ih=>intro n;simp[le,ih]
def le_succ (k:Nat):∀n:Int,le n (k+1)=le n k++[iR (n / 256 ^ k)]:=by
 induction k with
 |zero=>intro n;simp[le]
 |succ k ih=>
  intro n;have:n / 256 / 256 ^ k=n / 256 ^ (k+1):=by
   rw[Int.ediv_ediv_of_nonneg (by omega),Ig,D7]
  rw[le,ih,le,this,ui]
def UT (n:Int):da.wrap n=((iR n).toNat:Int):=by
 have:(da.wrap n)=n % 256:=rfl;rw[this];unfold iR;have h1:(n % 256).toNat<256:=by omega
 rw[UInt8.toNat_ofNat_of_lt' (by simpa using h1)];omega
def iq {x:Int} (h: -9223372036854775808<=x/\x<=9223372036854775807):db.wrap x=x:=Cv.wrap_i64 h.1 h.2
def B7 {x:Int} (h:0<=x/\x<18446744073709551616):cy.wrap x=x:=by
 have:cy.wrap x=x % 18446744073709551616:=rfl;rw[this];omega
def xEj {x:Int} (h:0<=x/\x<4294967296):cz.wrap x=x:=by
 have:cz.wrap x=x % 4294967296:=rfl;rw[this];omega
def Pj (k:IntKind) (a:Int) (b:Nat) (h:b<=k.bits):aM k a b=a / 2 ^ b:=by
 unfold aM;rw[show min (Int.toNat (b:Int)) k.bits=b by simp;omega];rw[Int.fdiv_eq_ediv_of_nonneg];exact Int.pow_nonneg (by omega)
def zH {p:Prop} [Decidable p] {A B:Prop} (h1:p->A) (h2:¬p->B):dp (decide p) A B:=Cv.dp.mk (λh=>h1 (qp h)) (λh=>h2 (LG h))
def fg {P:af}:zd P []:=trivial
def dw {P:af} {f:Nat} {C:fy} {l:List (Nat×fy)} (h:C.ok P f) (hl:zd P l):zd P ((f,C)::l):=⟨h,hl⟩
end Sx
