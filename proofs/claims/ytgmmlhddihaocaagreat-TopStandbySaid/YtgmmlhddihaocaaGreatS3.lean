/- Texts of ours. No condition. -/
import Derived.Laws.Externs
import Derived.Lib.ConvBytes
import Derived.LoopN
import Derived.MapKept
import Derived.Test.YtgmmlhddihaocaaGreatS2
set_option linter.all false
open Go renaming Value->aa,World->ab,execOp->ac,Program->ae,undef->af,callFunc->ag,TypeId->aj,wp_mono->ak,grownCap->am,Oper->ao,FuncId->ap,MapEntry->aq,Operand->ar
open Option renaming some->au,none->av
open Nat renaming beq->aw,blt->ax,ble->ay
open List renaming range->az,replicate->ba,map->bc,mapM_cons->be,range'->bg
open Go.Lib renaming bytesCells->bo,bytesWorld->bu
open Bool renaming true->bv,false->bz
open List.Perm renaming append_left->cd,append_right->ce,cons->cf
open Option.some renaming injEq->cg,inj->cm
open Go.Value renaming pointer->cn,int->co
open Array renaming replicate->cp,ext'->cq
open Go.Sem renaming run->cr,bind->ct
open Go.Region renaming wanted->cu,ready->cw
open Go.IntKind renaming u64->cx,u32->cy,u8->cz,i64->da
namespace Sx
open Go Go.RowKit Cv
variable {P:ae} {k:Ko} {L:List HP} {E:Ev} {s:St} {w:ab}
def Ev.le.app {E:Ev} (hd:Hd):E.le ⟨E.F,E.gf++[hd]⟩:=⟨xg.refl _,I9 _ _⟩
def Rel.si (R:Rel k L E s w) {n t sz:Nat} {ez:List (List D)} (h:s.get n=au (.own t sz ez)):
 ∃a c xs sub,E.gf[n]? =au (.slice a ez.length c,sub)/\iF E.F ez.flatten xs/\(∀el∈ez,el.length=sz)/\Hp k w (oq t sz a ez.length c xs::((vK n s.rows).map (gz E)++fz E.F::L)):=by
 obtain⟨hk,hs,hh⟩:=R.focus h;cases hh with
 |cons ha iY hd hr=>
  rcases ha with⟨e,_⟩|⟨⟨hv,sub⟩,h1,h2⟩
  ·cases e
  ·simp only[fm]at h2;obtain⟨a,c,xs,rfl,q1,q2,q3⟩:=h2;exact⟨a,c,xs,sub,h1,q1,q2,hk,_,.cons q3 iY hd hr⟩
def bH {rows:List (Nat×fi)} {nx t sz:Nat} {ez:List (List D)} {a:Option Addr} {c:Nat} {xs:List aa} (hn:E.gf.length=nx) (hx:iF E.F ez.flatten xs) (hu:∀el∈ez,el.length=sz)
 (H:Hp k w (oq t sz a ez.length c xs::(rows.map (gz E)++fz E.F::L))):
 ∃E',E.le E'/\Rel k L E' ⟨(nx,.own t sz ez)::rows,nx+1⟩ w/\VR E' (.own nx) (.slice a ez.length c):=by
 have hle:E.le ⟨E.F,E.gf++[(.slice a ez.length c,[])]⟩:=⟨xg.refl _,I9 _ _⟩
 have kf:(E.gf++[((.slice a ez.length c,[]):Hd)])[nx]? =au (.slice a ez.length c,[]):=by rw[<- hn];simp
 refine⟨⟨E.F,E.gf++[(.slice a ez.length c,[])]⟩,hle,⟨by simp[hn],?_⟩,by simp only[VR];exact⟨[],kf,_,_,_,rfl⟩⟩;have H1:Hp k w (rows.map (gz E)++(oq t sz a ez.length c xs::fz E.F::L)):=H.perm (mo (l₁:=rows.map (gz E))).symm;have H2:=wS (λr x=>gz.mono hle r) H1;have H3:Hp k w (oq t sz a ez.length c xs::(rows.map (gz ⟨E.F,E.gf++[(.slice a ez.length c,[])]⟩)++fz E.F::L)):=H2.perm mo;exact H3.imp λx Jg=> .inr ⟨_,kf,by simp only[fm];exact⟨a,c,xs,rfl,hx,hu,Jg⟩⟩
def Tf (R:Rel k L E s w) {o:fi} {O:Obj} {hd:Hd} {K:V->St->Prop} {v:V} {y:aa} (h:fm E.F o (E.gf++[hd]) hd (one w.heap.size O)) (hv:(E.gf++[hd])[s.nx]? =au hd->VR ⟨E.F,E.gf++[hd]⟩ v y) (hk:K v (s.new o)):
 o7 k L E K y (w.alloc O):=by
 obtain⟨h1,h2,h3⟩:=R.new h;exact⟨_,v,_,h1,h2,hv h3,hk⟩
def Rel.setCells (R:Rel k L E s w) {n:Nat} {vs Ag:List V} {T:aj} (h:s.get n=au (.cells vs T)) {b:Nat} {sub:List aa} (ht:E.gf[n]? =au (.pointer (au ⟨b,0,av⟩),sub)) {l':List aa} (hv:gw E Ag l'):
 Rel k L E (s.set n (.cells Ag T)) (World.iX w b (.cells l'.toArray T)):=by
 obtain⟨hk,hs,hh⟩:=R.focus h;cases hh with
 |cons ha iY hd hr=>
  rcases ha with⟨e,_⟩|⟨oL,h1,h2⟩
  ·cases e
  ·rw[ht]at h1;cases h1;simp only[fm]at h2;obtain⟨b',l,e1,e2,rfl⟩:=h2;cases e1;have H:Hp k w (pt b (.cells l.toArray T)::((vK n s.rows).map (gz E)++fz E.F::L)):=⟨hk,_,.cons rfl iY hd hr⟩
   refine R.nu h ((H.yt (.cells l'.toArray T)).imp λx hx=> .inr ⟨_,ht,?_⟩);simp only[fm];exact⟨b,l',rfl,hv,hx⟩
def Rel.LH (R:Rel k L E s w) {n:Nat} {ds CW:List D} {T:aj} (h:s.get n=au (.vec ds T)) {b:Nat} {sub:List aa} (ht:E.gf[n]? =au (.pointer (au ⟨b,0,av⟩),sub)) {l':List aa} (hv:iF E.F CW l'):
 Rel k L E (s.set n (.vec CW T)) (World.iX w b (.cells l'.toArray T)):=by
 obtain⟨hk,hs,hh⟩:=R.focus h;cases hh with
 |cons ha iY hd hr=>
  rcases ha with⟨e,_⟩|⟨oL,h1,h2⟩
  ·cases e
  ·rw[ht]at h1;cases h1;simp only[fm]at h2;obtain⟨b',l,e1,e2,rfl⟩:=h2;cases e1;have H:Hp k w (pt b (.cells l.toArray T)::((vK n s.rows).map (gz E)++fz E.F::L)):=⟨hk,_,.cons rfl iY hd hr⟩
   refine R.nu h ((H.yt (.cells l'.toArray T)).imp λx hx=> .inr ⟨_,ht,?_⟩);simp only[fm];exact⟨b,l',rfl,hv,hx⟩
def Rel.FD (R:Rel k L E s w) {n:Nat} {es CV:List (aa×List D)} (h:s.get n=au (.map es)) {b:Nat} {sub:List aa} (ht:E.gf[n]? =au (.map (au b),sub)):
 ∃fy ck,MR E.F es fy/\w.heap[b]? =au (.map fy.toArray ck)/\vW fy ck/\∀iP td,MR E.F CV iP->vW iP td->Rel k L E (s.set n (.map CV)) (World.iX w b (.map iP.toArray td)):=by
 obtain⟨hk,hs,hh⟩:=R.focus h;cases hh with
 |cons ha iY hd hr=>
  rcases ha with⟨e,_⟩|⟨oL,h1,h2⟩
  ·cases e
  ·rw[ht]at h1;cases h1;simp only[fm]at h2;obtain⟨b',fy,ck,e1,e2,e3,rfl⟩:=h2;cases e1;have H:Hp k w (pt b (.map fy.toArray ck)::((vK n s.rows).map (gz E)++fz E.F::L)):=⟨hk,_,.cons rfl iY hd hr⟩
   refine⟨fy,ck,e2,H.get,e3,λiP td hm PN=>R.nu h ((H.yt (.map iP.toArray td)).imp λx hx=> .inr ⟨_,ht,?_⟩)⟩;simp only[fm];exact⟨b,iP,td,rfl,hm,PN,hx⟩
def Rel.Iq (R:Rel k L E s w) {n:Nat} {es CV:List (aa×List D)} {kv:aa} (h:s.get n=au (.map es)) {b:Nat} {sub:List aa} (ht:E.gf[n]? =au (.map (au b),sub)):
 ∃fy ck,MR E.F es fy/\w.heap[b]? =au (.map fy.toArray ck)/\vW fy ck/\∀iP td x,MR E.F CV iP->vW iP td->S1 iP kv x->Rel k L E (s.set n (.Cl CV kv x)) (World.iX w b (.map iP.toArray td)):=by
 obtain⟨hk,hs,hh⟩:=R.focus h;cases hh with
 |cons ha iY hd hr=>
  rcases ha with⟨e,_⟩|⟨oL,h1,h2⟩
  ·cases e
  ·rw[ht]at h1;cases h1;simp only[fm]at h2;obtain⟨b',fy,ck,e1,e2,e3,rfl⟩:=h2;cases e1;have H:Hp k w (pt b (.map fy.toArray ck)::((vK n s.rows).map (gz E)++fz E.F::L)):=⟨hk,_,.cons rfl iY hd hr⟩
   refine⟨fy,ck,e2,H.get,e3,λiP td x hm PN ln=>R.nu h ((H.yt (.map iP.toArray td)).imp λy hy=> .inr ⟨_,ht,?_⟩)⟩;simp only[fm];exact⟨b,iP,td,rfl,hm,PN,ln,hy⟩
def Rel.Ip (R:Rel k L E s w) {n:Nat} {es CV:List (aa×List D)} {kv:aa} {x:Int} (h:s.get n=au (.Cl es kv x)) {b:Nat} {sub:List aa} (ht:E.gf[n]? =au (.map (au b),sub)):
 ∃fy ck,MR E.F es fy/\w.heap[b]? =au (.map fy.toArray ck)/\vW fy ck/\S1 fy kv x/\∀iP td,MR E.F CV iP->vW iP td->Rel k L E (s.set n (.map CV)) (World.iX w b (.map iP.toArray td)):=by
 obtain⟨hk,hs,hh⟩:=R.focus h;cases hh with
 |cons ha iY hd hr=>
  rcases ha with⟨e,_⟩|⟨oL,h1,h2⟩
  ·cases e
  ·rw[ht]at h1;cases h1;simp only[fm]at h2;obtain⟨b',fy,ck,e1,e2,e3,e4,rfl⟩:=h2;cases e1;have H:Hp k w (pt b (.map fy.toArray ck)::((vK n s.rows).map (gz E)++fz E.F::L)):=⟨hk,_,.cons rfl iY hd hr⟩
   refine⟨fy,ck,e2,H.get,e3,e4,λiP td hm PN=>R.nu h ((H.yt (.map iP.toArray td)).imp λy hy=> .inr ⟨_,ht,?_⟩)⟩;simp only[fm];exact⟨b,iP,td,rfl,hm,PN,hy⟩
def yFl {l:List aq} (hn:(l.map (·.born)).Nodup):∀{q:Nat} {m:aq},l[q]? =au m->l.findIdx? (λe=>((e.born:Nat):Int)==((m.born:Nat):Int))=au q:=by
 induction l with
 |nil=>intro q m h;simp at h
 |cons a l ih=>
  intro q m h;simp only[jx,zk]at hn;cases q with
  |zero=>simp at h;subst h;simp[List.findIdx?_cons]
  |succ q=>
   simp only[A1]at h;have ji:a.born≠m.born:=λe=>hn.1 (e▸pj.2 ⟨m,lq h,rfl⟩)
   have Ij:¬((a.born:Nat):Int)=((m.born:Nat):Int):=by omega
   rw[List.findIdx?_cons,fb (by simpa using Ij),ih hn.2 h];rfl
def yFy {F:PH} {P:ae} {t:aj} {ds:List D} {v:V} (h:Me P t=au ds) (hm:GK P t ds=au v):∃z ys,pB P t=au z/\iF F ds ys/\z=rI ys:=by
 unfold Me at h;split at h
 ·rename_i cs hz;split at h<;>first|(cases h;done)|skip
  rename_i n hn;obtain⟨hb,h⟩:=yU h;cases h;simp only[GK,hn]at hm;obtain⟨nh,hm⟩:=yU hm;simp only[lr,EM]at nh;have h1:=jb nh.1;refine⟨_,cs.toList,hz,yHs hb,?_⟩;unfold rI;split
  ·rename_i y hy;rw[hy]at h1;simp only[jx,CG,iJ,ua]at h1;rw[<- h1]at nh;exact absurd nh.2 (by decide)
  ·rfl
 ·rename_i z ji hz;split at h<;>first|(cases h;done)|skip
  rename_i hn;obtain⟨hb,h⟩:=yU h;cases h;exact⟨z,[z],hz,by simp only[iF,DR];exact⟨_,_,rfl,⟨rfl,hb⟩,rfl⟩,rfl⟩
 ·cases h
def VU {F:PH} {x:aa} {ds:List D} {ys:List aa} (hd:iF F ds ys) {e:aq} (h1:e.key=x) (h2:e.val=rI ys):∀{es:List (aa×List D)} {fy:List aq},MR F es fy->MR F (es++[(x,ds)]) (fy++[e])
 |[],fy,h=>by
  simp only[MR]at h;subst h;simp only[xj,MR];exact⟨e,[],rfl,h1,⟨ys,hd,h2⟩,rfl⟩
 |(y,d)::es,fy,h=>by
  simp only[MR]at h;obtain⟨m,ms,rfl,q1,q2,q3⟩:=h;simp only[uc,MR];exact⟨m,_,rfl,q1,q2,VU hd h1 h2 q3⟩
def zGk {kd:TypeDesc} {x:aa} (hk:IS kd x):Instr.sameBits 10000 x x=bv:=by
 rcases hk with⟨ik,k,n,rfl,rfl⟩|⟨s,rfl,rfl⟩<;>simp only[Instr.sameBits]
 ·simp
 ·rw[z8z];simp
def z3d {E:Ev} {v:V} (hv:Um v=bv) {y:aa} (h:VR E v y) {ys:List aa} (hc:y.cells=ys.toArray):y=rI ys:=by
 cases v<;>simp only[Um,oK]at hv
 ·rename_i d;simp only[VR]at h;have h1:y.og=bv:=iF.one (F:=E.F) (vs:=[d]) (l:=[y]) (by simp only[iF];exact⟨_,_,rfl,h,rfl⟩) y (by simp);have hcy:y.cells= #[y]:=by cases y<;>first|rfl|cases h1
  rw[hcy]at hc;have:ys=[y]:=by
   have:=congrArg Array.toList hc;simpa using this.symm
  rw[this];rfl
 ·rename_i l;simp only[VR]at h;obtain⟨zs,rfl,h2⟩:=h;simp only[Value.cells]at hc;have:ys=zs:=by
   have:=congrArg Array.toList hc;simpa using this.symm
  subst this;have hl:=h2.length;unfold rI;split
  ·simp only[iJ,ua]at hl;rw[<- hl]at hv;exact absurd hv (by decide)
  ·rfl
def yJt {P:ae} {w:ab} {b:Nat} {l:List aa} {T t:aj} (hb:w.heap[b]? =au (.cells l.toArray T)) (ht:P.underlying t=au (.slice T)) (he:P.underlying T=au (.int .u8)) (n c:Nat):
 (convert t t (.slice (au ⟨b,0,av⟩) n c)).run P w= .ok (.slice (au ⟨b,0,av⟩) n c) (World.iX w b (.cells l.toArray T (l.length,l.length+1))):=by
 have Nm:w.shape? b=au (T,l.length):=by
  unfold World.shape?;rw[hb];simp
 have GV:w.freeze ⟨b,l.length,av⟩ 1=World.iX w b (.cells l.toArray T (l.length,l.length+1)):=by
  unfold World.freeze World.iX;rw[fb (by decide)];congr 1;apply OQ;intro i;rw[Array.getElem?_modify,O7];by_cases c:b=i
  ·subst c;have gv:b<w.heap.size:=(Array.getElem?_eq_some_iff.1 hb).1;rw[fh rfl,fh rfl,fh gv,hb];rfl
  ·rw[fb c,fb c]
 simp[convert,Go.run_underlying ht,Go.run_underlying he,markStringish,Nm];exact GV
def Rel.setIter (R:Rel k L E s w) {n pos pos':Nat} {str:ByteArray} (h:s.get n=au (.iter str pos)) {b:Nat} {sub:List aa} (ht:E.gf[n]? =au (.pointer (au ⟨b,0,av⟩),sub)):
 w.heap[b]? =au (.stringIter str pos)/\Rel k L E (s.set n (.iter str pos')) (World.iX w b (.stringIter str pos')):=by
 obtain⟨hk,hs,hh⟩:=R.focus h;cases hh with
 |cons ha iY hd hr=>
  rcases ha with⟨e,_⟩|⟨oL,h1,h2⟩
  ·cases e
  ·rw[ht]at h1;cases h1;simp only[fm]at h2;obtain⟨b',e1,rfl⟩:=h2;cases e1;have H:Hp k w (pt b (.stringIter str pos)::((vK n s.rows).map (gz E)++fz E.F::L)):=⟨hk,_,.cons rfl iY hd hr⟩
   refine⟨H.get,R.nu h ((H.yt (.stringIter str pos')).imp λx hx=> .inr ⟨_,ht,?_⟩)⟩;simp only[fm];exact⟨b,rfl,hx⟩
def Rel.LI (R:Rel k L E s w) {n T sz i f:Nat} {ez:List (List D)} {ds:List D} (h:s.get n=au (.own T sz ez)) (hi:i<ez.length) (hf:f+ds.length<=sz) {b oo m c:Nat} {sub:List aa}
 (ht:E.gf[n]? =au (.slice (au ⟨b,oo,av⟩) m c,sub)) {ys:List aa} (hy:iF E.F ds ys):
 ∃l:List aa,w.heap[b]? =au (.cells l.toArray T)/\oo+i*sz+f+ys.length<=l.length/\Rel k L E (s.set n (.own T sz (zV ez i f ds))) (World.iX w b (.cells (kj l (oo+i*sz+f) ys).toArray T)):=by
 obtain⟨a,c',xs,DO,h1,hx,hu,H⟩:=R.si h;rw[ht]at h1;cases h1;rcases H.oC with⟨e,_⟩|⟨b',r,e,h2,h3,h4,H1⟩
 ·cases e
 cases e;obtain⟨Al,Pk⟩:=nC i f ds hu hi hf;have vt:i*sz+sz<=ez.length*sz:=by
  have:=wz sz (show i+1<=ez.length by omega);rwa [zj]at this
 have CP:=hy.length;refine⟨xs++r,H1.get,by rw[iv];omega,R.nu h ((H1.yt (.cells (kj (xs++r) (0+i*sz+f) ys).toArray T)).imp λx Jg=> .inr ⟨_,ht,?_⟩)⟩;simp only[fm];have hlen:(zV ez i f ds).length=ez.length:=by simp[zV]
 have Cn:kj (xs++r) (0+i*sz+f) ys=kj xs (i*sz+f) ys++r:=by
  simp only[kj,oa];rw[xk (by omega),EN (by omega)];simp
 refine⟨_,c,kj xs (i*sz+f) ys,by rw[hlen],?_,Pk,.inr ⟨b,r,rfl,by rw[Jg,Cn],?_,?_,by rw[hlen];exact h4⟩⟩
 ·rw[Al];exact Oa hx hy _
 ·rw[hlen,<- h2];simp only[kj,iv,om,pd];omega
 ·rw[<- h3];simp only[kj,iv,om,pd];omega
def yBs {l vs:List aa} {o:Nat} (h:o+vs.length<=l.length) (j:Nat):(kj l o vs)[j]? =if j<o then l[j]? else if j<o+vs.length then vs[j-o]? else l[j]? :=by
 unfold kj;have h1:(l.take o++vs).length=o+vs.length:=by simp;omega
 split
 ·rename_i hj;rw[Ec (by omega),Ec (by simp;omega),I',fh hj]
 ·split
  ·rw[Ec (by omega),B7 (by simp;omega),om,GD (by omega)]
  ·rw[B7 (by omega),h1,AZ];congr 1;omega
def SF {l vs:List aa} {o p:Nat} {y:aa} (h:o+vs.length<=l.length) (hp:o+vs.length<=p\/p<o):kj (l.set p y) o vs=(kj l o vs).set p y:=by
 apply Hw;intro j;have hlen:(kj l o vs).length=l.length:=by simp[kj];omega
 rw[yBs (by rw[qv];exact h),GF,GF,yBs h,hlen];by_cases hj:p=j
 ·subst hj;rw[fh rfl,fh rfl];split
  ·rfl
  ·rw[fb (by omega)]
 ·rw[fb hj,fb hj]
def Rel.Dt (R:Rel k L E s w) {n:Nat} {x:wy} (h:mL s n=au x):
 ∃a c ys xs sub,E.gf[n]? =au (.slice a x.ez.length c,sub)/\iF E.F x.ez.flatten ys/\(∀el∈x.ez,el.length=x.sz)/\zf E.gf (x.i*x.sz+x.f) x.b ys xs x.m/\Hp k w (oq x.T x.sz a x.ez.length c xs::((vK n s.rows).map (gz E)++fz E.F::L)):=by
 obtain⟨hk,hs,hh⟩:=R.focus (eH h);cases hh with
 |cons ha iY hd hr=>
  rcases ha with⟨e,_⟩|⟨⟨hv,sub⟩,h1,h2⟩
  ·cases e
  ·simp only[fm]at h2;obtain⟨a,c,ys,xs,rfl,q1,q2,q3,q4⟩:=h2;exact⟨a,c,ys,xs,sub,h1,q1,q2,q3,hk,_,.cons q4 iY hd hr⟩
def yHv {gf:List Hd} {p o:Nat} {b:Bool} {ys xs vs:List aa} (hl:o+vs.length<=ys.length) (hp:b=bv->o+vs.length<=p\/p<o):∀{m:Option Nat},zf gf p b ys xs m->zf gf p b (kj ys o vs) (kj xs o vs) m:=by
 have key:∀{y:aa},xs=(bif b then ys.set p y else ys)->kj xs o vs=bif b then(kj ys o vs).set p y else kj ys o vs:=by
  intro y h;cases b with
  |false=>rw[h];rfl
  |true=>rw[h,cond_true,cond_true];exact SF hl (hp rfl)
 intro m;cases m with
 |none=>rintro⟨y,e,h⟩;exact⟨y,e,key h⟩
 |some m=>rintro⟨y,l,e1,e2,h⟩;exact⟨y,l,e1,e2,key h⟩
def Rel.LM (R:Rel k L E s w) {n i f:Nat} {x:wy} {ds:List D} (h:mL s n=au x) (hi:i<x.ez.length) (hf:f+ds.length<=x.sz) (wm:x.clear i f ds.length) {b oo m c:Nat} {sub:List aa}
 (ht:E.gf[n]? =au (.slice (au ⟨b,oo,av⟩) m c,sub)) {ys:List aa} (hy:iF E.F ds ys):
 ∃l:List aa,w.heap[b]? =au (.cells l.toArray x.T)/\oo+i*x.sz+f+ys.length<=l.length/\Rel k L E (s.set n (.vf x.q x.T x.sz (zV x.ez i f ds) x.i x.f x.b x.m)) (World.iX w b (.cells (kj l (oo+i*x.sz+f) ys).toArray x.T)):=by
 obtain⟨a,c',zs,xs,DO,h1,hz,hu,hx,H⟩:=R.Dt h;rw[ht]at h1;cases h1;rcases H.oC with⟨e,_⟩|⟨b',r,e,h2,h3,h4,H1⟩
 ·cases e
 cases e;obtain⟨Al,Pk⟩:=nC i f ds hu hi hf;have vt:i*x.sz+x.sz<=x.ez.length*x.sz:=by
  have:=wz x.sz (show i+1<=x.ez.length by omega);rwa [zj]at this
 have CP:=hy.length;have CO:=W3 hx;refine⟨xs++r,H1.get,by rw[iv];omega,R.nu (eH h) ((H1.yt (.cells (kj (xs++r) (0+i*x.sz+f) ys).toArray x.T)).imp λz Pe=> .inr ⟨_,ht,?_⟩)⟩;simp only[fm];have hlen:(zV x.ez i f ds).length=x.ez.length:=by simp[zV]
 have Cn:kj (xs++r) (0+i*x.sz+f) ys=kj xs (i*x.sz+f) ys++r:=by
  simp only[kj,oa];rw[xk (by omega),EN (by omega)];simp
 refine⟨_,c,kj zs (i*x.sz+f) ys,kj xs (i*x.sz+f) ys,by rw[hlen],?_,Pk,yHv (by omega) (λhb=> ?_) hx,.inr ⟨b,r,rfl,by rw[Pe,Cn],?_,?_,by rw[hlen];exact h4⟩⟩
 ·rw[Al];exact Oa hz hy _
 ·rw[CP];exact z8u hf wm.1 (wm.2 hb)
 ·rw[hlen,<- h2];simp only[kj,iv,om,pd];omega
 ·rw[<- h3];simp only[kj,iv,om,pd];omega
def Rel.It (R:Rel k L E s w) {n c0:Nat} {q:Bool} {x:wy} (h:mL s n=au x) (hi:x.i<x.ez.length) (hf:x.f<x.sz) {b oo m c:Nat} {sub:List aa}
 (ht:E.gf[n]? =au (.slice (au ⟨b,oo,av⟩) m c,sub)) {y:aa} {ly:List aa} (hc:E.gf[c0]? =au (y,ly)) (hs:∃a n c,y= .slice a n c):
 ∃l:List aa,w.heap[b]? =au (.cells l.toArray x.T)/\oo+x.i*x.sz+x.f+1<=l.length/\Rel k L E (s.set n (.vf q x.T x.sz x.ez x.i x.f bv (au c0))) (World.iX w b (.cells (kj l (oo+x.i*x.sz+x.f) [y]).toArray x.T)):=by
 obtain⟨a,c',zs,xs,DO,h1,hz,hu,hx,H⟩:=R.Dt h;rw[ht]at h1;cases h1;rcases H.oC with⟨e,_⟩|⟨b',r,e,h2,h3,h4,H1⟩
 ·cases e
 cases e;have vt:x.i*x.sz+x.sz<=x.ez.length*x.sz:=by
  have:=wz x.sz (show x.i+1<=x.ez.length by omega);rwa [zj]at this
 have CO:=W3 hx;refine⟨xs++r,H1.get,by rw[iv];omega,R.nu (eH h) ((H1.yt (.cells (kj (xs++r) (0+x.i*x.sz+x.f) [y]).toArray x.T)).imp λz Pe=> .inr ⟨_,ht,?_⟩)⟩;simp only[fm];have Cn:kj (xs++r) (0+x.i*x.sz+x.f) [y]=xs.set (x.i*x.sz+x.f) y++r:=by
  simp only[kj,oa];rw[xk (by omega),EN (by simp;omega),M8,fh (by omega)];simp
 have qh:xs.set (x.i*x.sz+x.f) y=zs.set (x.i*x.sz+x.f) y:=by
  have key:∀{z:aa},xs=(bif x.b then zs.set (x.i*x.sz+x.f) z else zs)->xs.set (x.i*x.sz+x.f) y=zs.set (x.i*x.sz+x.f) y:=by
   intro z h;cases hb:x.b with
   |false=>rw[h,hb];rfl
   |true=>rw[h,hb,cond_true,Ea]
  revert hx;cases x.m with
  |none=>rintro⟨z,_,h⟩;exact key h
  |some m=>rintro⟨z,l,_,_,h⟩;exact key h
 refine⟨_,c,zs,xs.set (x.i*x.sz+x.f) y,rfl,hz,hu,⟨y,ly,hc,hs,by rw[cond_true,qh]⟩,.inr ⟨b,r,rfl,by rw[Pe,Cn],by rw[qv,h2],by rw[<- h3];simp,h4⟩⟩
def z2j {P:ae} (R:Rel k L E s w) {t n sz i f:Nat} {x:wy} {v:V} {K:V->St->Prop} (hx:mL s n=au x) (h:Wj P t x n sz i f v s K) {yv:aa} (hv:VR E v yv)
 {b oo m c:Nat} {l:List aa} (e1:E.gf[n]? =au (.slice (au ⟨b,oo,av⟩) m c,l)):∃w',Gz P (storeVar t ⟨b,oo+i*sz+f,av⟩ yv) w w'/\o7 k L E K af w':=by
 unfold Wj at h;obtain⟨hb,h⟩:=zK h;have e:=jb hb;subst e;have Qe:∀{E':Ev},VR E' (.ja []) af:=λ{E'}=>by simp only[VR];exact⟨[],rfl,gw.nil⟩
 have gen:∀{s':St} {ds:List D} {mm:Nat},HR P s t v=au (ds,s')->mL s' n=au x->nU P t=au mm->ds.length=mm->i<x.ez.length->f+mm<=x.sz->x.clear i f mm->K (.ja []) (s'.set n (.vf x.q x.T x.sz (zV x.ez i f ds) x.i x.f x.b x.m))->
  ∃w',Gz P (storeVar t ⟨b,oo+i*x.sz+f,av⟩ yv) w w'/\o7 k L E K af w':=by
  intro s' ds mm hd hh hm hl hi hf wm hk;obtain⟨E',ys,q1,q2,q3,q4,q5,q6⟩:=Mq R hd hv;obtain⟨ll,r1,r2,r3⟩:=q3.LM (ds:=ds) (i:=i) (f:=f) hh hi (by omega) (by rw[hl];exact wm) (q1.get e1) q6;have ln:=uZ (P:=P) (o:=oo+i*x.sz+f) hm q5 (by rw[q6.length,hl]) (by rw[q6.length,hl]at r2;exact r2) q6.one r1;exact⟨_,ln,E',_,_,q1,r3,Qe,hk⟩
 split at h
 ·rename_i c0 vv tt hs;clear hs;split at h<;>first|exact h.elim|skip
  rename_i t2 ve lv hg;have aaJ:=zM h;clear h;obtain⟨mm,hm,QC⟩:=aaJ;have hb0:=zK QC;clear QC;obtain⟨hb,⟨hi,hf⟩,hq⟩:=hb0;simp only[lr]at hb;have qe:=jb hb.1;subst qe;simp only[VR]at hv;obtain⟨lc,hc,ha⟩:=hv;have wm:yv.cells=[yv].toArray/\∀z∈[yv],z.og=bv:=by
   obtain⟨a,b,c,rfl⟩:=ha;exact⟨rfl,λz hz=>by rw[vm.1 hz];rfl⟩
  have Qg:∀{q:Bool},i=x.i->f=x.f->K (.ja []) (s.set n (.vf q x.T x.sz x.ez x.i x.f bv (au c0)))->∃w',Gz P (storeVar t ⟨b,oo+i*x.sz+f,av⟩ yv) w w'/\o7 k L E K af w':=by
   intro q h1 h2 hk;subst h1 h2;obtain⟨ll,r1,r2,r3⟩:=R.It (q:=q) hx hi hf e1 hc ha;exact⟨_,uZ (P:=P) (o:=oo+x.i*x.sz+x.f) hm wm.1 rfl r2 wm.2 r1,E,_,_,Ev.le.refl _,r3,Qe,hk⟩
  split at hq
  ·obtain⟨⟨h1,h2⟩,hk⟩:=hq;exact Qg h1 h2 hk
  ·obtain⟨hp,xl,hn⟩:=hq;by_cases wo:i=x.i/\f=x.f
   ·exact Qg wo.1 wo.2 (hp wo.1 wo.2)
   ·have hn:=hn wo;split at hn<;>first|exact hn.elim|skip
    rename_i ds s' hd;split at hn<;>first|exact hn.elim|skip
    rename_i y hy;obtain⟨nh,rfl,hk⟩:=zK hn;exact gen hd hy hm (jb nh) hi (by omega) ⟨xl,λ_ Nw=>by
     have:¬f=y.f:=λe=>wo ⟨Nw,e⟩
     omega⟩ hk
 ·split at h<;>first|exact h.elim|skip
  rename_i ds s' hd;split at h<;>first|exact h.elim|skip
  rename_i y hy;obtain⟨mm,hm,h⟩:=zM h;obtain⟨nh,⟨rfl,hi,hf,wm⟩,hk⟩:=zK h;exact gen hd hy hm (jb nh) hi hf wm hk
def Rel.LJ (R:Rel k L E s w) {n T i:Nat} {ez:List (List D)} {ds:List D} (h:s.get n=au (.GJ T ez)) (hi:i<ez.length) (hf:ds.length=1) {b oo m c:Nat} {sub:List aa}
 (ht:E.gf[n]? =au (.slice (au ⟨b,oo,av⟩) m c,sub)) {y:aa} (hy:iF E.F ds [y]):
 ∃l:List aa,w.heap[b]? =au (.cells l.toArray T (l.length,l.length+1))/\i<l.length/\Rel k L E (s.set n (.GJ T (zV ez i 0 ds))) (World.iX w b (.cells (l.set (oo+i) y).toArray T (l.length,l.length+1)))/\oo=0:=by
 obtain⟨hk,hs,hh⟩:=R.focus h;obtain⟨b',c',xs,r,q1,q2,q3,q4,H⟩:∃b' c' xs r,(Value.slice (au ⟨b,oo,av⟩) m c)= .slice (au ⟨b',0,av⟩) ez.length c'/\iF E.F ez.flatten xs/\(∀el∈ez,el.length=1)/\ez.length<=c'/\Hp k w (pt b' (.cells (xs++r).toArray T ((xs++r).length,(xs++r).length+1))::(((vK n s.rows).map (gz E))++fz E.F::L)):=by
  cases hh with
  |cons ha iY GX hr=>
   rcases ha with⟨e,_⟩|⟨hv,h1,h2⟩
   ·cases e
   ·rw[ht]at h1;cases h1;simp only[fm]at h2;obtain⟨b',c',xs,r,e1,e2,e3,e4,rfl⟩:=h2;exact⟨b',c',xs,r,e1,e2,e3,e4,hk,_,.cons rfl iY GX hr⟩
 cases q1;obtain⟨Al,Pk⟩:=nC i 0 ds q3 hi (by omega);have xd:xs.length=ez.length*1:=by rw[q2.length,jS q3]
 have hlen:(zV ez i 0 ds).length=ez.length:=by simp[zV]
 refine⟨xs++r,H.get,by rw[iv];omega,R.nu h ((H.yt (.cells ((xs++r).set (0+i) y).toArray T ((xs++r).length,(xs++r).length+1))).imp λx Jg=> .inr ⟨_,ht,?_⟩),rfl⟩;simp only[fm];have qh:(xs++r).set (0+i) y=xs.set i y++r:=by rw[oa,List.set_append_left _ _ (by omega)]
 refine⟨b,c,xs.set i y,r,by rw[hlen],?_,Pk,by rw[hlen];exact q4,?_⟩
 ·rw[Al];have e:xs.set i y=kj xs (i*1+0) [y]:=by
   rw[M8,fh (by omega)];simp[kj]
  rw[e];exact Oa q2 hy _
 ·rw[qh]at Jg;rw[Jg];simp
def zUj (F:PH):∀l:List UInt8,iF F (l.map λb=>[D.v (.int .u8 b.toNat)]).flatten (l.map λb=>co .u8 b.toNat)
 |[]=>by simp[iF]
 |b::l=>by
  simp only[jx,AM,uc,xj,iF,DR];exact⟨_,_,rfl,⟨rfl,rfl⟩,zUj F l⟩
def yDn {a b:ab} (h1:a.heap=b.heap) (h2:a.tape=b.tape) (h3:a.drawn=b.drawn) (h4:a.os=b.os) (h5:a.output=b.output):a=b:=by
 cases a;cases b;simp only at h1 h2 h3 h4 h5;subst h1 h2 h3 h4 h5;rfl
def zSv (w:ab) (e:aj) (s:ByteArray):bu w e s=World.iX (w.drew.alloc (.cells (bo w e s) e)) w.heap.size (.cells (bo w e s) e ((bo w e s).size,(bo w e s).size+1)):=by
 have hh:(bu w e s).heap=(World.iX (w.drew.alloc (.cells (bo w e s) e)) w.heap.size (.cells (bo w e s) e ((bo w e s).size,(bo w e s).size+1))).heap:=by
  apply OQ;intro j;have oZ:(w.drew.alloc (.cells (bo w e s) e)).heap.size=w.heap.size+1:=by simp[World.alloc,World.drew,-World.alloc_eq,-World.drew_eq]
  simp only[World.iX];rw[O7];by_cases hj:w.heap.size=j
  ·subst hj;rw[fh rfl,fh (by omega),Lib.bytesWorld_at_new]
  ·rw[fb hj];rcases ur j w.heap.size with h|h
   ·rw[Lib.bytesWorld_at_old w e s j h];have:(w.drew.alloc (.cells (bo w e s) e)).heap[j]? =w.heap[j]? :=by
     simp[World.alloc,World.drew,-World.alloc_eq,-World.drew_eq,Array.getElem?_push,Ne.symm hj]
    rw[this]
   ·rw[GI (by rw[Lib.bytesWorld_size];omega),GI (by omega)]
 refine yDn hh ?_ ?_ ?_ ?_<;>(unfold bu World.freeze World.iX;rw[fb (by omega)])
def z7o (R:Rel k L E s w) (b:ByteArray) (e:aj) {K:V->St->Prop} (hk:K (.own s.nx) (s.new (.GJ e (jI b)))):
 o7 k L E K (.slice (au ⟨w.heap.size,0,av⟩) b.size (am w b.size 0 e)) (bu w e b):=by
 have hl:(jI b).length=b.size:=by simp[jI]
 have Il:b.size<=am w b.size 0 e:=grownCap_ge w b.size 0 e;have H:=((R.hp.drew).new (.cells (bo w e b) e)).yt (.cells (bo w e b) e ((bo w e b).size,(bo w e b).size+1));have hs:w.drew.heap.size=w.heap.size:=rfl;rw[hs,<- zSv]at H;obtain⟨hd,hhd⟩:∃hd:Hd,hd=(.slice (au ⟨w.heap.size,0,av⟩) b.size (am w b.size 0 e),[]):=⟨_,rfl⟩
 have hle:E.le ⟨E.F,E.gf++[hd]⟩:=Ev.le.app _;have kf:(E.gf++[hd])[s.nx]? =au hd:=by rw[<- R.nx];simp
 refine⟨⟨E.F,E.gf++[hd]⟩,.own s.nx,_,hle,⟨by simp[St.new,R.nx],?_⟩,?_,hk⟩
 ·have H1:Hp k (bu w e b) (s.rows.map (gz E)++(pt w.heap.size (.cells (bo w e b) e ((bo w e b).size,(bo w e b).size+1))::fz E.F::L)):=H.perm (mo (l₁:=s.rows.map (gz E))).symm;have H2:=wS (λr x=>gz.mono hle r) H1;have H3:Hp k (bu w e b) (pt w.heap.size (.cells (bo w e b) e ((bo w e b).size,(bo w e b).size+1))::(s.rows.map (gz ⟨E.F,E.gf++[hd]⟩)++fz E.F::L)):=H2.perm mo;refine H3.imp λx hx=> .inr ⟨hd,kf,?_⟩
  simp only[fm];refine⟨w.heap.size,am w b.size 0 e,b.data.toList.map λ(c:UInt8)=>co .u8 c.toNat,ba (am w b.size 0 e-b.size) (co .u8 0),by rw[hhd,hl],?_,?_,by rw[hl];exact Il,?_⟩
  ·exact zUj _ _
  ·simp[jI]
  ·have hx:x=one w.heap.size _:=hx;rw[hx];have ec:bo w e b=(b.data.toList.map (λ(c:UInt8)=>co .u8 c.toNat)++ba (am w b.size 0 e-b.size) (co .u8 0)).toArray:=by
    apply cq;simp[bo]
   rw[ec];simp
 ·simp only[VR];exact⟨[],by rw[kf,hhd],_,_,_,rfl⟩
def z5b (R:Rel k L E s w) {sz:Nat} {v:V} {ez:List (List D)} (h:Wg s sz v=au ez) {y:aa} (hv:VR E v y):
 ∃ys,Src sz w y ez.length ys/\iF E.F ez.flatten ys/\∀el∈ez,el.length=sz:=by
 unfold Wg at h;split at h
 ·cases h;simp only[VR,DR]at hv;obtain⟨rfl,_⟩:=hv;exact⟨[],.inl ⟨av,0,rfl,pe,.inl ⟨rfl,rfl,rfl⟩,Sub.pe w⟩,by simp[iF],by simp⟩
 ·rename_i b;obtain⟨hb,h⟩:=nD h;have:=jb hb;subst this;cases h;simp only[VR,DR]at hv;obtain⟨rfl,_⟩:=hv;refine⟨b.data.toList.map λb=> .int .u8 b.toNat,.inr ⟨b,rfl,rfl,by simp[jI],rfl⟩,?_,?_⟩
  ·unfold jI;generalize b.data.toList=l
   induction l with
   |nil=>simp[iF]
   |cons a l ih=>simp only[jx,AM,uc,xj,iF,DR];exact⟨_,_,rfl,⟨rfl,rfl⟩,ih⟩
  ·intro el oT;unfold jI at oT;obtain⟨x,_,rfl⟩:=pj.1 oT;rfl
 ·split at h<;>first|(cases h;done)|skip
  rename_i oA lj hd;obtain⟨hb,hh⟩:=nD h;clear h;have:=jb hb;subst this;cases hh;obtain⟨a,c,xs,rfl,h2,h3,h4,h5⟩:=aV R hv hd;exact⟨xs,.inl ⟨a,c,rfl,h5⟩,h3,h4⟩
def zSx (R:Rel k L E s w) {t1 t2 rt:Nat} {x y:V} {xr yr:aa} (hx:VR E x xr) (hy:VR E y yr) {K:V->St->Prop} (h:Wi P t1 t2 s x y K):
 ∃v w',gH P (Builtin.append_ #[t1,t2] rt #[xr,yr]) w v w'/\o7 k L E K v w':=by
 unfold Wi at h;obtain⟨i,hi,h⟩:=zM h;obtain⟨hb,h⟩:=zK h;simp only[lr]at hb;obtain⟨lj,DS,h⟩:=zM h;obtain⟨z,q1,q2,q3,q4⟩:=dD hi;obtain⟨ys,JZ,GM,huy⟩:=z5b R DS hy;have Em:0<i.oB:=by simpa[yf]using hb.2
 split at h<;>first|exact h.elim|skip
 ·obtain⟨hlen,hk⟩:=h;simp only[VR,DR]at hx;obtain⟨rfl,_⟩:=hx;obtain⟨a',c',w',jk,H⟩:=(R.hp.nil i.e i.sz).append (P:=P) (rt:=rt) q1 hb.1 JZ GM.one (by rw[q2]) Em (by simpa using hlen);simp only[oa,xj]at jk H;obtain⟨E',r1,r2,r3⟩:=bH R.nx GM huy H;exact⟨_,w',jk,E',_,_,r1,r2,r3,hk⟩
 ·rename_i n;split at h<;>first|exact h.elim|skip
  rename_i T sz ez hg;obtain⟨nh,hlen,hk⟩:=zK h;simp only[lr]at nh;have e1:=jb nh.1;have e2:=jb nh.2;subst e1 e2;obtain⟨a,c,xs,sub,h1,vp,hu,H⟩:=R.si hg;simp only[VR]at hx;obtain⟨l,hx,_⟩:=hx;rw[h1]at hx;cases hx;obtain⟨a',c',w',jk,H⟩:=H.append (P:=P) (rt:=rt) q1 hb.1 JZ GM.one (by rw[q2]) Em hlen;obtain⟨E',r1,r2,r3⟩:=bH (ez:=ez++lj) R.nx (by rw[M4];exact vp.append GM) (λel oT=>by
   rcases pz.1 oT with h|h
   ·exact hu el h
   ·exact huy el h) (by rw[iv];exact H)
  rw[iv]at r3;exact⟨_,w',jk,E',_,_,r1,r2,r3,hk⟩
def Rel.LR {E:Ev} {s:St} (R:Rel k L E s w) {sz:Nat} {ez:List (List D)} {y:aa} (h:DR E.F (.ro sz ez) y):∃E',E.le E'/\Rel k L E' (s.new (.jc sz ez)) w/\E'.gf[s.nx]? =au (y,[]):=by
 have hle:E.le ⟨E.F,E.gf++[(y,[])]⟩:=Ev.le.app _;have kf:(E.gf++[((y,[]):Hd)])[s.nx]? =au (y,[]):=by rw[<- R.nx];simp
 refine⟨_,hle,⟨by simp[St.new,R.nx],?_⟩,kf⟩;have H2:=wS (λr x=>gz.mono hle r) R.hp;have:=(@h9 k w True _).2 ⟨trivial,H2⟩;exact this.imp λx hx=> .inr ⟨_,kf,by simp only[fm];exact⟨hx.2,h⟩⟩
def Th:∀{vs:List V} {s:St} {K:List V->St->Prop} {E:Ev} {l:List aa},Mh vs s K->Rel k L E s w->gw E vs l->∃E' Ag s',E.le E'/\Rel k L E' s' w/\gw E' Ag l/\K Ag s'
 |[],s,K,E,l,h,R,hv=>⟨E,[],s,Ev.le.refl _,R,hv,h⟩
 |v::vs,s,K,E,l,h,R,hv=>by
  simp only[Mh]at h;simp only[gw]at hv;obtain⟨x,xs,rfl,h1,h2⟩:=hv;split at h
  ·rename_i sz ez;simp only[VR]at h1;obtain⟨E1,q1,q2,q3⟩:=R.LR h1;obtain⟨E2,Ag,s',r1,r2,r3,r4⟩:=Th h q2 (h2.mono q1);refine⟨E2,_,s',q1.trans r1,r2,?_,r4⟩;simp only[gw,VR];simp only[DR]at h1;obtain⟨a,c,e,_⟩:=h1;exact⟨x,xs,rfl,⟨[],r1.get q3,a,_,c,e⟩,r3⟩
  ·obtain⟨E2,Ag,s',r1,r2,r3,r4⟩:=Th h R h2;exact⟨E2,_,s',r1,r2,by simp only[gw];exact⟨x,xs,rfl,h1.mono r1,r3⟩,r4⟩
def o7.up {E E':Ev} (h:E.le E') {K:V->St->Prop} {y:aa} {w':ab}:o7 k L E' K y w'->o7 k L E K y w':=λ⟨E2,v,s',h1,h2⟩=>⟨E2,v,s',h.trans h1,h2⟩
def z1w {H:A7} (hH:HW P H) (R:Rel k L E s w) {f:ap} {args:List V} {ys:List aa} {K:V->St->Prop} (h:yIz H f args s K) (hv:gw E args ys):nf P (ag f ys.toArray) w (o7 k L E K):=by
 unfold yIz at h;split at h
 ·rename_i n i rest;split at h<;>first|exact h.elim|skip
  rename_i t T m iC l hg;obtain⟨x,hx,h⟩:=h;simp only[gw]at hv;obtain⟨y,ys,rfl,h1,h2⟩:=hv;have A4:=h1;obtain⟨E1,hle,R1,GN,l0,ht⟩:=R.Io hg hx h1;have Nl:gw E1 (.nm s.nx 0::rest) (y::ys):=by simp only[gw];exact⟨_,_,rfl,GN,h2.mono hle⟩
  refine(hH f _ _ _ h k L E1 w _ R1 Nl).mono ?_;rintro r w' ⟨E',v,s',jl,R',Pj,hk⟩;unfold yUl at hk;split at hk<;>first|exact hk.elim|skip
  rename_i o ha;split at hk<;>first|exact hk.elim|skip
  rename_i t' T' m' abd l' j hn;obtain⟨x',rfl,rfl,hi,hk⟩:=hk;simp only[VR]at A4;obtain⟨hd,abe,b,oo,e1,e2,e3⟩:=A4;have e1':=(hle.trans jl).get e1;have R2:=R'.Is ha hn hi (jl.get ht) (λv sub hs=>by rw[e1']at hs;cases hs;exact e2);exact⟨E',v,_,hle.trans jl,R2,Pj,hk⟩
 ·exact hH f _ s K h k L E w _ R hv
def zWu {E:Ev} {ps:List (Nat×V)} {qs:List (Nat×aa)} {m:Nat} (h:Vz ps=au m) (hp:BV E ps qs):∃y,qs=[(0,y)]/\VR E (.nm m 0) y:=by
 unfold Vz at h;split at h<;>first|(cases h;done)|skip
 cases h;simp only[BV]at hp;obtain⟨y,ys,rfl,h1,rfl⟩:=hp;exact⟨y,rfl,h1⟩
def zWo (R:Rel k L E s w) {t:aj} {i:SlI} (hi:pD P t=au i) (oZ:i.sz=1) {m:Nat} {T:Type} {mm:Nat} {iC:T->Nat->fi} {x:T} (hg:s.get m=au (.qw T mm iC x)) {qs:List (Nat×aa)}
 (hp:∃y,qs=[(0,y)]/\VR E (.nm m 0) y) {K:V->St->Prop} (hk:K (.own s.nx) ((s.del m).new (.jz i.e T mm iC [x] av))):
 ∃v w',(Instr.buildSlice t 1 qs.toArray).run P w= .ok v w'/\o7 k L E K v w':=by
 obtain⟨y,rfl,hv⟩:=hp;simp only[VR]at hv;obtain⟨b,oo,l0,e1,rfl⟩:=hv;obtain⟨z,q1,q2,q3,q4⟩:=dD hi;obtain⟨inf,zv,p1,p2,p3,p4,p5,p6⟩:=kP q1;have Lz:Le P t 1 #[(0,cn (au ⟨b,oo+0,av⟩))]=au (i.e,#[cn (au ⟨b,oo,av⟩)]):=by
  unfold Le;simp only[p1,p2];rw[fb (by rw[p3,oZ];omega)];have hz:(if 1*inf.size=0 then au #[]else inf.zero.map Value.cells)=au z:=by
   rw[fb (by rw[p3,oZ];omega),p5,we,p6]
  rw[hz];simp only;have Av:GC z (1*inf.size)=z:=by
   rw[p3,oZ];have KZ:z.size=1:=by rw[q2,oZ]
   apply cq;have:=eQ (z:=z.toList) 1;rw[OT,show z.toList.length=1 by simp[KZ]]at this;simpa using this
  rw[Av,p3,oZ];have KZ:z.toList.length=1:=by simp[q2,oZ]
  obtain⟨z0,hz0⟩:∃z0,z= #[z0]:=by
   match CO:z.toList,KZ with
   |[a],_=>exact⟨a,by apply cq;simpa using CO⟩
  subst hz0;simp[Instr.fill,Value.cells]
 refine⟨_,_,m8 Lz w,?_⟩;have R1:=R.take hg;have H:=(R1.hp.new (.cells #[cn (au ⟨b,oo,av⟩)] i.e)).lit (l:=[cn (au ⟨b,oo,av⟩)]) (sz:=1) (n:=1) rfl;have H1:Hp k (w.alloc (.cells #[cn (au ⟨b,oo,av⟩)] i.e)) (gz E (m,.qw T mm iC x)::oq i.e 1 (au ⟨w.heap.size,0,av⟩) 1 1 [cn (au ⟨b,oo,av⟩)]::((s.del m).rows.map (gz E)++fz E.F::L)):=by
  refine H.perm ?_;refine(cf _ ?_).trans (.swap _ _ _);exact(cd _ (.swap _ _ _)).trans mo
 have H2:=(H1.imp λq hq=>zMf e1 hq).swap;have H3:Hp k (w.alloc (.cells #[cn (au ⟨b,oo,av⟩)] i.e)) (oq i.e 1 (au ⟨w.heap.size,0,av⟩) [x].length 1 [cn (au ⟨b,oo,av⟩)]::((az [x].length).map (xU E.F T mm iC [x] [cn (au ⟨b,oo,av⟩)] av)++((s.del m).rows.map (gz E)++fz E.F::L))):=by
  have H3:=H2.swap.imp (B:=xU E.F T mm iC [x] [cn (au ⟨b,oo,av⟩)] av 0) λq hq=>by
   unfold xU;rw[fb (by simp)];exact⟨x,_,l0,rfl,rfl,hq⟩
  exact H3.swap
 obtain⟨E2,t1,t2,t3⟩:=X7 (l:=[x]) (by simpa[St.del]using R.nx) rfl (λp hp=>by rw[vm.1 hp];exact⟨_,_,rfl⟩) H3;exact⟨E2,_,_,t1,t2,t3,hk⟩
def zOa (R:Rel k L E s w) {t1 t2 rt:Nat} {x y:V} {xr yr:aa} (hx:VR E x xr) (hy:VR E y yr) {K:V->St->Prop} (h:Xn P t1 t2 s x y K):
 ∃v w',(Builtin.append_ #[t1,t2] rt #[xr,yr]).run P w= .ok v w'/\o7 k L E K v w':=by
 unfold Xn at h;split at h<;>first|exact h.elim|skip
 rename_i n2;split at h<;>first|exact h.elim|skip
 rename_i t2' T2 m2 vi l2 yz;obtain⟨i,hi,h⟩:=zM h;obtain⟨hb,h⟩:=zK h;simp only[lr]at hb;have Em:0<i.oB:=by simpa[yf]using hb.1.2
 have oZ:=jb hb.2;obtain⟨z,q1,q2,q3,q4⟩:=dD hi;rw[oZ]at q1 q2;obtain⟨a2,c2,sx,g1,g2,g3,H⟩:=S8 R yz;simp only[VR]at hy;obtain⟨ly,hy,_⟩:=hy;rw[g1]at hy;cases hy;have DS:Src 1 w (.slice a2 l2.length c2) l2.length sx:= .inl ⟨a2,c2,rfl,by obtain⟨q,hq,hs⟩:=H.sat;exact⟨q,mG hq,hs⟩⟩;have DT:∀v∈sx,v.og=bv:=λv hv=>by obtain⟨_,_,rfl⟩:=g3 v hv;rfl
 split at h<;>first|exact h.elim|skip
 ·obtain⟨hlen,hk⟩:=h;simp only[VR,DR]at hx;obtain⟨rfl,_⟩:=hx;obtain⟨a',c',w',jk,H1⟩:=(H.nil i.e 1).append (P:=P) (rt:=rt) q1 hb.1.1 DS DT q2 Em (by simpa using hlen);simp only[oa,xj]at jk H1;have H2:=H1.swap.drop;obtain⟨E',r1,r2,r3⟩:=X7 (rows:=vK n2 s.rows) R.nx g2 g3 H2;exact⟨_,w',jk,E',_,_,r1,r2,r3,hk⟩
 ·rename_i n Nm abf;split at h<;>first|exact h.elim|skip
  rename_i t1' T1 m1 P7 l1 hg1;obtain⟨yw,he1,hlen,hk⟩:=h;rw[he1]at hg1;have R1:=R.take yz;obtain⟨a1,c1,Bb,f1,f2,f3,H1⟩:=S8 R1 hg1;simp only[VR]at hx;obtain⟨lx,hx,_⟩:=hx;rw[f1]at hx;cases hx;obtain⟨a',c',w',jk,H2⟩:=H1.append (P:=P) (rt:=rt) q1 hb.1.1 DS DT q2 Em hlen;have p1:(bc (xU E.F T2 m2 vi yw Bb av) (az yw.length)++(bc (gz E) (vK n (s.del n2).rows)++fz E.F::gz E (n2,fi.jz t2' T2 m2 vi l2 av)::L)).Perm
   (gz E (n2,fi.jz t2' T2 m2 vi l2 av)::(bc (xU E.F T2 m2 vi yw Bb av) (az yw.length)++(bc (gz E) (vK n (s.del n2).rows)++fz E.F::L))):=
   (cd _ ((cd _ (.swap _ _ _)).trans mo)).trans mo
  have H3:=(H2.cons p1).swap;have H4:Hp k w' (PO (oq t2' 1 a2 l2.length c2 sx) (hS ((az l2.length).map (xU E.F T2 m2 vi l2 sx av)))::oq i.e 1 a' (yw.length+l2.length) c' (Bb++sx)::(bc (xU E.F T2 m2 vi yw Bb av) (az yw.length)++(bc (gz E) (vK n (s.del n2).rows)++fz E.F::L))):=
   H3.imp λq hq=>by
    rcases hq with⟨e,_⟩|⟨hd,h1,h2⟩
    ·cases e
    ·rw[g1]at h1;cases h1;obtain⟨a3,c3,e3,_,_,e4⟩:=qq.1 h2;cases e3;exact e4
  have H5:=qp.1 (uo.1 H4).drop;have H6:Hp k w' (oq i.e 1 a' (yw++l2).length c' (Bb++sx)::((az (yw++l2).length).map (xU E.F T2 m2 vi (yw++l2) (Bb++sx) av)++((vK n (s.del n2).rows).map (gz E)++fz E.F::L))):=by
   have H7:Hp k w' ((az yw.length).map (xU E.F T2 m2 vi yw Bb av)++((az l2.length).map (xU E.F T2 m2 vi l2 sx av)++(oq i.e 1 a' (yw.length+l2.length) c' (Bb++sx)::((vK n (s.del n2).rows).map (gz E)++fz E.F::L)))):=by
    refine H5.perm ?_;refine(cd _ (mo.symm)).trans ?_;rw[<- jh,<- jh];exact ce _ A0
   have H8:=yGw f2 H7;rw[iv]at H8 ⊢;exact H8.perm mo
  obtain⟨E',r1,r2,r3⟩:=X7 (rows:=vK n (s.del n2).rows) (by simpa[St.del]using R1.nx) (by rw[iv,iv,f2,g2]) (λp hp=>by
   rcases pz.1 hp with h|h
   ·exact f3 p h
   ·exact g3 p h) H6
  rw[iv]at r3;exact⟨_,w',jk,E',_,_,r1,r2,r3,hk⟩
def z0h {H:A7} {E:Ev} {s:St} {w:ab} (R:Rel k L E s w) {ρS:xA} {ρ:Env} (he:ld E ρS ρ) {o:ao} {K:V->St->Prop} {t:aj} {x:ar} {lo hi:Option ar} (ho:o.op= .slice t x lo hi av) (h:se P H o ρS s K):
 ∃y,EA P (ac (ev ρ) o) y/\o7 k L E K y w:=by
 simp only[se,ho]at h;split at h<;>first|exact h.elim|skip
 rename_i n vp;have hx:=he.ev x;rw[vp]at hx;have ro:∀{E':Ev} {s':St} {sz:Nat} {ez:List (List D)} {l u:Option Int} {K':V->Prop},E.le E'->Rel k L E' s' w->DR E'.F (.ro sz ez) (ev ρ x)->gC P t=au sz->Gu ρS lo=au l->Gu ρS hi=au u->MS sz ez l u K'->(∀v,K' v->K v s')->
  ∃y,EA P (ac (ev ρ) o) y/\o7 k L E K y w:=by
  intro E' s' sz ez l u K' hle R' PK hs h1 h2 ym hk;obtain⟨a,c,v,e1,HK,aaZ⟩:=PK.FG ym;have hp:cR P o ρ (λy=>VR E' v y):=by
   simp only[cR,ho,e1,hs,fT he h1,fT he h2,D8];exact zZy (λp n c hh=>hh E' rfl) aaZ
  obtain⟨y,hy,hf⟩:=gX hp;exact⟨y,hf,E',v,s',hle,R',hy,hk v HK⟩
 split at h<;>first|exact h.elim|skip
 ·rename_i T sz ez hg;obtain⟨oA,hs,h⟩:=zM h;obtain⟨hb,hh⟩:=zK h;clear h;have e:=jb hb;subst e;obtain⟨l,u,h1,h2,h⟩:=sA hh;clear hh;cases l with
  |none=>
   obtain⟨a,c,xs,sub,q1,q2,q3,H⟩:=R.si hg;have U7:=hx;simp only[VR]at hx;obtain⟨DO,hx,_⟩:=hx;rw[q1]at hx;have hev:ev ρ x= .slice a ez.length c:=((Prod.mk.inj (cm hx)).1).symm;have hnc:ez.length<=c:=H.len.2;cases u with
   |none=>
    have hp:cR P o ρ (λy=>VR E (.own n) y):=by
     simp only[cR,ho,hev,hs,fT he h1,fT he h2,D8,tn];exact⟨hnc,by rw[hev]at U7;exact U7⟩
    obtain⟨y,hy,hf⟩:=gX hp;exact⟨y,hf,E,_,s,Ev.le.refl _,R,hy,h⟩
   |some u=>
    obtain⟨⟨h3,h4⟩,hk⟩:=h;have hux:(ez.take u.toNat).length=u.toNat:=by rw[om];omega
    have H2:Hp k w (oq T sz a (ez.take u.toNat).length c (xs.take (u.toNat*sz))::((vK n s.rows).map (gz E)++fz E.F::L)):=by
     refine H.imp λz hz=> ?_
     rw[hux];rcases hz with⟨rfl,z1,rfl,rfl,rfl⟩|⟨b,r,rfl,rfl,z2,z3,z4⟩
     ·left;exact⟨rfl,by omega,rfl,by simp,rfl⟩
     ·right;have hle:u.toNat*sz<=ez.length*sz:=wz _ (by omega);refine⟨b,xs.drop (u.toNat*sz)++r,rfl,?_,?_,?_,by omega⟩
      ·rw[<- jh,BK]
      ·rw[om];omega
      ·rw[<- jh,BK];exact z3
    obtain⟨E',r1,r2,r3⟩:=bH (ez:=ez.take u.toNat) R.nx (by rw[<- sC _ q3];exact q2.take _) (λel oT=>q3 el (M6 oT)) H2;have hp:cR P o ρ (λy=>VR E' (.own s.nx) y):=by
     simp only[cR,ho,hev,hs,fT he h1,fT he h2,D8,tn];rw[hux]at r3;exact⟨⟨h3,by omega⟩,r3⟩
    obtain⟨y,hy,hf⟩:=gX hp;exact⟨y,hf,E',_,_,r1,r2,hy,hk⟩
  |some l=>
   have GV:=Ob R (v:= .own n) (d:= .ro sz ez) (s':=s.set n (.jc sz ez)) (by simp only[KI,hg]) hx;obtain⟨E',r1,r2,r3,r4,r5⟩:=GV;exact ro r1 r3 r5 hs h1 h2 h (λv hv=>hv)
 ·rename_i sz ez hg;obtain⟨oA,hs,h⟩:=zM h;obtain⟨hb,hh⟩:=zK h;clear h;have e:=jb hb;subst e;obtain⟨l,u,h1,h2,h⟩:=sA hh;clear hh;have GV:=Ob R (v:= .own n) (d:= .ro sz ez) (s':=s) (by simp only[KI,hg]) hx;obtain⟨E',r1,r2,r3,r4,r5⟩:=GV;exact ro r1 r3 r5 hs h1 h2 h (λv hv=>hv)
def z1t {H:A7} (hH:HW P H) (R:Rel k L E s w) {ρS:xA} {ρ:Env} (he:ld E ρS ρ) {o:ao} {K:V->St->Prop} (h:se P H o ρS s K):nf P (ac (ev ρ) o) w (o7 k L E K):=by
 cases ho:o.op
 case alloc e=>
  simp only[se,ho]at h;obtain⟨z,hz,h⟩:=zM h;obtain⟨hb,hk⟩:=zK h;obtain⟨l,hl,hv⟩:=VR.cells (E:=E) hb (NR E z);simp only[ac,ho];refine yE (v:= .pointer (au ⟨w.heap.size,0,av⟩)) (w':=w.alloc (.cells z.cells e)) ?_ ?_
  ·simp only[Instr.alloc,bind,pure,run_bind,me (cF hz),cr,zNu]
  ·refine Tf (hd:=(.pointer (au ⟨w.heap.size,0,av⟩),[])) R ?_ (λhg=> ?_) hk
   ·simp only[fm];exact⟨_,l,rfl,gw.mono (Ev.le.app _) hv,by rw[hl]⟩
   ·simp only[VR];exact⟨_,0,_,hg,rfl⟩
 case box e x=>
  simp only[se,ho]at h;obtain⟨hb,hk⟩:=zK h;obtain⟨l,hl,hv⟩:=VR.cells (E:=E) hb (he.ev x);obtain⟨E1,us,s1,wu,R1,hv,hk⟩:=Th hk R hv;simp only[ac,ho];refine yE (v:= .pointer (au ⟨w.heap.size,0,av⟩)) (w':=w.alloc (.cells (ev ρ x).cells e)) rfl (o7.up wu ?_);refine Tf (hd:=(.pointer (au ⟨w.heap.size,0,av⟩),[])) R1 ?_ (λhg=> ?_) hk
  ·simp only[fm];exact⟨_,l,rfl,gw.mono (Ev.le.app _) hv,by rw[hl]⟩
  ·simp only[VR];exact⟨_,0,_,hg,rfl⟩
 case buildSlice t len ps=>
  simp only[se,ho]at h;split at h
  ·rename_i m hm;split at h<;>first|exact h.elim|skip
   rename_i T mm iC x hg;obtain⟨i,hi,h⟩:=zM h;obtain⟨hb,hk⟩:=zK h;simp only[lr]at hb;have qe:=jb hb.1;have nh:=jb hb.2;subst nh;obtain⟨v,w',hr,ze⟩:=zWo R hi qe hg (hp:=zWu hm (TR he ps.toList)) hk;simp only[ac,ho];refine yE ?_ ze;have CQ:(ps.map λ(x:Nat×ar)=>(x.1,ev ρ x.2))=(ps.toList.map λp=>(p.1,ev ρ p.2)).toArray:=by apply cq;simp
   rw[CQ];exact hr
  obtain⟨i,hi,h⟩:=zM h;obtain⟨hb,h⟩:=zK h;split at h<;>first|exact h.elim|skip
  rename_i ez s' hf;obtain⟨z,q1,q2,q3,q4⟩:=dD hi;obtain⟨inf,zv,p1,p2,p3,p4,p5,p6⟩:=kP q1;have Nx:iF E.F (ba len i.z).flatten (GC z (len*i.sz)).toList:=by
   rw[<- q2,show z.size=z.toList.length by simp];have:=eQ (z:=z.toList) len;rw[OT]at this;rw[this];exact VD (q4 E.F) len
  obtain⟨E',Ce,r1,r2,r3,r4,r5,r6,r7,r8⟩:=z0a R hf (TR he ps.toList) (N9 q3) Nx;have Lz:Le P t len (ps.map λ(i,x)=>(i,ev ρ x))=au (i.e,Ce.toArray):=by
   unfold Le;simp only[p1,p2];rw[fb (by rw[p3];have:=BL hb;omega)];have hz:(if len*inf.size=0 then au #[]else inf.zero.map Value.cells)=au (if len*inf.size=0 then #[]else z):=by
    split
    ·rfl
    ·rw[p5,we,p6]
   have Av:GC (if len*inf.size=0 then #[]else z) (len*inf.size)=GC z (len*i.sz):=by
    rw[p3];by_cases h0:len*i.sz=0
    ·rw[fh h0,h0];rfl
    ·rw[fb h0]
   rw[hz];simp only;rw[Av];simp only[p3];rw[OT]at r8;have CQ:(ps.map λ(x:Nat×ar)=>(x.1,ev ρ x.2)).toList=ps.toList.map λp=>(p.1,ev ρ p.2):=by simp
   rw[CQ,r8];rfl
  simp only[ac,ho];refine yE (m8 Lz w) ?_;have hlen:ez.length=len:=by rw[r6,GH]
  have xd:Ce.length=ez.length*i.sz:=by rw[r7.length,jS r5]
  have H:=(r3.hp.new (.cells Ce.toArray i.e)).lit xd;obtain⟨E2,t1,t2,t3⟩:=bH r3.nx r7 r5 H;rw[hlen]at t3;exact⟨E2,_,_,r1.trans t1,t2,t3,h⟩
 case makeMap t r=>
  cases r with
  |some r=>simp only[se,ho]at h
  |none=>
   simp only[se,ho]at h;simp only[ac,ho];refine yE (v:= .map (au w.heap.size)) (w':=w.alloc (.map #[] 0)) rfl ?_;refine Tf (hd:=(.map (au w.heap.size),[])) R ?_ (λhg=> ?_) h
   ·simp only[fm];exact⟨_,[],0,rfl,by simp only[MR],yKs,rfl⟩
   ·simp only[VR];exact⟨_,_,hg,rfl⟩
 case makeSlice t l c=>
  simp only[se,ho]at h;split at h<;>first|exact h.elim|skip
  rename_i kl l' kc c' hl hc;obtain⟨i,hi,BQ,hk⟩:=zM h;obtain⟨z,q1,q2,q3,q4⟩:=dD hi;have el:=he.ev l;have ec:=he.ev c;rw[hl]at el;rw[hc]at ec;simp only[ac,ho,el.DQ,ec.DQ];refine yE (zOi q1 BQ w) ?_;have Av:(madeCells z (c'.toNat*i.sz)).toList=(ba c'.toNat z.toList).flatten:=by
   have:=eQ (z:=z.toList) c'.toNat;rw[OT,show z.toList.length=i.sz by simp[q2]]at this;rw[<- this,<- Wv];rfl
  have oX:ba c'.toNat z.toList=ba l'.toNat z.toList++ba (c'.toNat-l'.toNat) z.toList:=by
   rw[List.replicate_append_replicate];congr 1;omega
  have hx:iF E.F (ba l'.toNat i.z).flatten (ba l'.toNat z.toList).flatten:=VD (q4 E.F) _;have CO:z.toList.length=i.sz:=by simp[q2]
  have H:=R.hp.new (.cells (madeCells z (c'.toNat*i.sz)) i.e);have Fh:madeCells z (c'.toNat*i.sz)=((ba l'.toNat z.toList).flatten++(ba (c'.toNat-l'.toNat) z.toList).flatten).toArray:=by
   apply cq;rw[Av,oX,M4]
  rw[Fh]at H ⊢;have H2:=H.As (n:=l'.toNat) (c:=c'.toNat) (sz:=i.sz) (by rw[jS (N9 CO),GH]) (by
   rw[iv,jS (N9 CO),jS (N9 CO),GH,GH,<- zi];congr 1;omega) (by omega)
  obtain⟨E2,t1,t2,t3⟩:=bH (ez:=ba l'.toNat i.z) R.nx hx (N9 q3) (by rw[GH];exact H2);rw[GH]at t3;exact⟨E2,_,_,t1,t2,t3,hk⟩
 case store t x v=>
  simp only[se,ho]at h;have hx:=he.ev x;split at h<;>first|exact h.elim|skip
  ·rename_i n off vp;rw[vp]at hx;simp only[VR]at hx;obtain⟨b,oo,sub,e1,e2⟩:=hx;obtain⟨Vh,h⟩:=zK h;obtain⟨lv,Pr,Ph⟩:=VR.cells Vh (he.ev v);obtain⟨E1,us,s1,wu,R1,Ph,h⟩:=Th h R Ph;have e1:=wu.get e1;split at h<;>first|exact h.elim|skip
   rename_i vs T hg;obtain⟨m,hm,h⟩:=zM h;obtain⟨hb,hk⟩:=zK h;simp only[lr]at hb;obtain⟨⟨qe,nh⟩,CR⟩:=hb;have qe:=jb qe;have nh:=BL nh;obtain⟨b',l,DO,q1,q2,q3⟩:=R1.cells hg;rw[e1]at q1;cases q1;have h1:=q2.length;have h2:=Ph.length;have ln:=uZ (P:=P) (o:=0+off) hm Pr (by rw[h2,qe]) (by omega) (z3g CR Ph) q3;simp only[ac,ho,e2];refine wP ln ⟨E1,_,_,wu,R1.setCells hg e1 (Ag:=vs.take off++(us++vs.drop (off+m))) ?_,?_,hk⟩
   ·unfold kj;rw[jh,oa,h2,qe];exact(q2.take off).append (Ph.append (q2.drop _))
   ·simp only[VR];exact⟨[],rfl,gw.nil⟩
  ·rename_i n sz i f vp;split at h
   ·rename_i xh hxh;rw[vp]at hx;simp only[VR]at hx;obtain⟨b,oo,mm,c,sub,e1,e2⟩:=hx;obtain⟨w',ln,oG⟩:=z2j R hxh h (he.ev v) e1;simp only[ac,ho,e2];exact wP ln oG
   split at h<;>first|exact h.elim|skip
   rename_i ds s' hd;split at h<;>first|exact h.elim|skip
   rename_i T oA ez hg;obtain⟨m,hm,h⟩:=zM h;obtain⟨hb,hi,hk⟩:=zK h;simp only[lr]at hb;obtain⟨⟨qe,nh⟩,CR⟩:=hb;have e:=jb qe;subst e;have nh:=jb nh;have CR:=BL CR;obtain⟨E',ys,q1,q2,q3,q4,q5,q6⟩:=Mq R hd (he.ev v);rw[vp]at hx;simp only[VR]at hx;obtain⟨b,oo,mm,c,sub,e1,e2⟩:=hx;obtain⟨l,r1,r2,r3⟩:=q3.LI (ds:=ds) (f:=f) hg hi (by omega) (q1.get e1) q6;have ln:=uZ (P:=P) (o:=oo+i*sz+f) hm q5 (by rw[q6.length,nh]) (by rw[q6.length,nh]at r2;exact r2) q6.one r1;simp only[ac,ho,e2];exact wP ln ⟨E',_,_,q1,r3,by simp only[VR];exact⟨[],rfl,gw.nil⟩,hk⟩;rename_i T ez hg;obtain⟨m,hm,h⟩:=zM h;obtain⟨hb,hi,hk⟩:=zK h;simp only[lr]at hb;obtain⟨⟨⟨qe,nh⟩,CR⟩,Vm⟩:=hb;have qe:=jb qe;have nh:=jb nh;have CR:=jb CR;have Vm:=jb Vm;subst qe CR Vm;obtain⟨E',ys,q1,q2,q3,q4,q5,q6⟩:=Mq R hd (he.ev v);rw[vp]at hx;simp only[VR]at hx;obtain⟨b,oo,mm,c,sub,e1,e2⟩:=hx;have CP:=q6.length;obtain⟨y,rfl⟩:∃y,ys=[y]:=List.length_eq_one_iff.1 (by omega);obtain⟨l,r1,r2,r3,r4⟩:=q3.LJ (ds:=ds) hg hi nh (q1.get e1) q6;have ln:=zSm (P:=P) (o:=oo+i) hm q5 (by rw[r4];simpa using r2) (q6.one y jm) r1;simp only[ac,ho,e2];have ea:oo+i*1+0=oo+i:=by omega
   rw[ea];exact wP ln ⟨E',_,_,q1,r3,by simp only[VR];exact⟨[],rfl,gw.nil⟩,hk⟩
  ·rename_i n off i vp;rw[vp]at hx;simp only[VR]at hx;obtain⟨b,oo,sub,e1,e2⟩:=hx;have U9:=he.ev v;split at h<;>first|exact h.elim|skip
   rename_i u hu;rw[hu]at U9;have GN:=U9;simp only[VR,DR]at GN;obtain⟨GN,K0⟩:=GN;split at h<;>first|exact h.elim|skip
   rename_i vs T hg;obtain⟨m,hm,h⟩:=zM h;obtain⟨hb,hi,hk⟩:=zK h;have hb:=jb hb;subst hb;rw[pd]at hi;obtain⟨b',l,DO,q1,q2,q3⟩:=R.cells hg;rw[e1]at q1;cases q1;have h1:=q2.length;have Pr:(ev ρ v).cells=[u].toArray:=by
    rw[GN];cases u<;>first|rfl|cases K0
   have ln:=uZ (P:=P) (o:=0+(off+i)) hm Pr rfl (by omega) (by intro z hz;rw[vm.1 hz];exact K0) q3;simp only[ac,ho,e2];refine wP ln ⟨E,_,_,Ev.le.refl _,R.setCells hg e1 (Ag:=vs.take off++(vs.drop off).set i (.d (.v u))) ?_,?_,hk⟩
   ·have e:vs.take off++(vs.drop off).set i (.d (.v u))=vs.take (off+i)++([.d (.v u)]++vs.drop (off+i+1)):=by
     rw[M8,fh (by rw[pd];omega),CJ,List.take_add,jh];rfl
    rw[e];unfold kj;rw[jh,oa];exact(q2.take _).append ((gw.one (by simp only[VR,DR];exact⟨trivial,K0⟩)).append (q2.drop _))
   ·simp only[VR];exact⟨[],rfl,gw.nil⟩
   rename_i vs T hg;obtain⟨m,hm,h⟩:=zM h;obtain⟨hb,hi,hk⟩:=zK h;have hb:=jb hb;subst hb;rw[pd]at hi;obtain⟨b',l,DO,q1,q2,q3⟩:=R.vec hg;rw[e1]at q1;cases q1;have h1:=q2.length;have Pr:(ev ρ v).cells=[u].toArray:=by
    rw[GN];cases u<;>first|rfl|cases K0
   have ln:=uZ (P:=P) (o:=0+(off+i)) hm Pr rfl (by omega) (by intro z hz;rw[vm.1 hz];exact K0) q3;simp only[ac,ho,e2];refine wP ln ⟨E,_,_,Ev.le.refl _,R.LH hg e1 (CW:=vs.take off++(vs.drop off).set i (.v u)) ?_,?_,hk⟩
   ·have e:vs.take off++(vs.drop off).set i (.v u)=vs.take (off+i)++([.v u]++vs.drop (off+i+1)):=by
     rw[M8,fh (by rw[pd];omega),CJ,List.take_add,jh];rfl
    rw[e];unfold kj;rw[jh,oa];exact(q2.take _).append ((show iF E.F [.v u] [u]from(by simp only[iF,DR];exact⟨_,_,rfl,⟨rfl,K0⟩,rfl⟩)).append (q2.drop _))
   ·simp only[VR];exact⟨[],rfl,gw.nil⟩
 case convert st d x=>
  simp only[se,ho]at h;split at h<;>first|exact h.elim|skip
  ·rename_i b hx;obtain⟨hb,h⟩:=zK h;obtain⟨e,ri,hk⟩:=zM h;obtain⟨u1,u2⟩:=zTm ri;have hv:=he.ev x;rw[hx]at hv;simp only[VR,DR]at hv;simp only[ac,ho,hv.1];have jk:=Lib.run_convert_string_bytes (P:=P) w st d e b (nY hb) u1 u2;refine yE jk ?_;exact z7o R b e hk
  ·rename_i n hx;split at h<;>first|exact h.elim|skip
   rename_i T sz ez hg;obtain⟨hb,h⟩:=zK h;simp only[lr]at hb;have ln:=jb hb.1;have oZ:=jb hb.2;obtain⟨e,ri,h2⟩:=zM h;obtain⟨hTb,wo,hk⟩:=zK h2;have hT:=jb hTb;subst ln oZ hT;obtain⟨u1,u2⟩:=zTm ri;have hv:=he.ev x;rw[hx]at hv;simp only[VR]at hv;obtain⟨l0,e1,a0,m0,c0,e2⟩:=hv;obtain⟨a,c,xs,sub,q1,q2,q3,H⟩:=R.si hg;rw[q1]at e1;rcases H.oC with⟨_,h0,_⟩|⟨b,r,rfl,r1,r2,r3,H1⟩
   ·omega
   have jk:=yJt (P:=P) (w:=w) (b:=b) (l:=xs++r) (T:=T) (t:=st) H1.get u1 u2 ez.length c;have H2:=H1.yt (.cells (xs++r).toArray T ((xs++r).length,(xs++r).length+1));have H3:Hp k (World.iX w b (.cells (xs++r).toArray T ((xs++r).length,(xs++r).length+1))) (pt b (.cells (xs++r).toArray T ((xs++r).length,(xs++r).length+1))::fz E.F::((vK n s.rows).map (gz E)++L)):=H2.cons mo;obtain⟨y,hy,hd,iY,H4⟩:=We H3;have hle:E.le ⟨un y E.F,E.gf⟩:=⟨ZW hd,I6 _⟩
   have H5:=wS (λr x=>gz.mono hle r) (H4.perm (mo (l₁:=(vK n s.rows).map (gz E)) (l₂:=L) (a:=fz (un y E.F))).symm);have H6:Hp k (World.iX w b (.cells (xs++r).toArray T ((xs++r).length,(xs++r).length+1))) (gz ⟨un y E.F,E.gf⟩ (n,.jc 1 ez)::((vK n s.rows).map (gz ⟨un y E.F,E.gf⟩)++fz (un y E.F)::L)):=by
    have:=(@h9 k _ True _).2 ⟨trivial,H5⟩;refine this.imp λz hz=> .inr ⟨_,q1,?_⟩
    simp only[fm];refine⟨hz.2,?_⟩;simp only[DR];refine⟨_,c,rfl,r3,q3,.inr ⟨b,0,xs++r,T,((xs++r).length,(xs++r).length+1),rfl,?_,oR.2 ⟨xs,r,rfl,q2.mono hle.1⟩⟩⟩;rw[show y=one b _ from hy];simp[un,one]
   have R2:Rel k L ⟨un y E.F,E.gf⟩ (s.set n (.jc 1 ez)) (World.iX w b (.cells (xs++r).toArray T ((xs++r).length,(xs++r).length+1))):=by
    refine⟨by simpa[St.set]using R.nx,H6.perm ?_⟩;have:=(((vN hg).2 (.jc 1 ez)).map (gz ⟨un y E.F,E.gf⟩)).append_right (fz (un y E.F)::L);simpa[St.set]using this.symm
   have e3:ev ρ x= .slice (au ⟨b,0,av⟩) ez.length c:=(congrArg Prod.fst (cm e1)).symm;simp only[ac,ho];rw[e3];exact yE jk ⟨_,_,_,hle,R2,by simp only[VR];exact⟨_,q1,_,_,_,rfl⟩,hk⟩
 case slice t x lo hi mx=>
  cases mx with
  |some m=>simp only[se,ho]at h
  |none=>
   obtain⟨y,hf,ze⟩:=z0h R he ho h;exact wA (hf w) ze
 case mapUpdate t x i v=>
  simp only[se,ho]at h;split at h<;>first|exact h.elim|skip
  rename_i n hx;obtain⟨ke,BO,h⟩:=zM h;obtain⟨kv,HK,h⟩:=zM h;obtain⟨hb,h⟩:=zK h;simp only[lr]at hb;split at h<;>first|exact h.elim|skip
  rename_i ds s1 hd;split at h<;>first|exact h.elim|skip
  rename_i es hg;obtain⟨BR,hk⟩:=h;obtain⟨E1,ys,q1,q2,q3,q4,q5,q6⟩:=Mq R hd (he.ev v);have EU:=he.ev x;rw[hx]at EU;simp only[VR]at EU;obtain⟨bm,sub,e1,e2⟩:=EU;have e1:=q1.get e1;rw[e2]at e1;obtain⟨fy,ck,r1,r2,rb,r3⟩:=q3.FD (CV:=u9 kv ds es) hg e1;have hi:ev ρ i=kv:=eM HK (he.ev i);obtain⟨kd,hu,yy⟩:=T7 hb.1;have xq:=z3d hb.2 (he.ev v) q5;have run:∃iP td,MR E1.F (u9 kv ds es) iP/\vW iP td/\(Instr.mapUpdate t (.map (au bm)) kv (ev ρ v)).run P w= .ok () (World.iX w bm (.map iP.toArray td)):=by
   rcases MC yy 0 r1 BR with⟨t1,t2,t3,t4,_⟩|⟨q,m,CW,Dz,t1,t2,t3,t4,t5,t6,t7,t8,_⟩
   ·refine⟨fy++[{key:=kv,val:=ev ρ v,born:=ck}],ck+1,by rw[t3];exact VU q6 (e:={key:=kv,val:=ev ρ v,born:=ck}) rfl xq r1,zTi rb rfl,?_⟩;simp only[Instr.mapUpdate,bind,run_bind,Cv.run_underlying (uR BO),qM r2 trivial,pure,cr,jT hu yy,wV hu t1];rw[uM r2 trivial];simp
   ·refine⟨fy.set q {m with key:=kv,val:=ev ρ v},ck,t7 _ _ _ q6 rfl xq,Xh rb t2 rfl,?_⟩;have hq:(fy.toArray[0+q]?).map (·.key)=au kv:=by simp[t2,t3]
    simp only[Instr.mapUpdate,bind,run_bind,Cv.run_underlying (uR BO),qM r2 trivial,pure,cr,jT hu yy,wV hu t1,hq,zm,Instr.keyThatStays,zGk yy,if_true];rw[uM r2 trivial];congr 4;rw[List.modify_toArray];congr 1;rw[oa,List.modify_eq_set,t2];rfl
  obtain⟨iP,td,u1,ub,u2⟩:=run;simp only[ac,ho,e2,hi];exact wP u2 ⟨E1,.ja [],_,q1,r3 iP td u1 ub,by simp only[VR];exact⟨[],rfl,gw.nil⟩,hk⟩
 case mapEntry t x i=>
  simp only[se,ho]at h;split at h<;>first|exact h.elim|skip
  rename_i n hx;obtain⟨ke,BO,h⟩:=zM h;obtain⟨kv,HK,h⟩:=zM h;obtain⟨Pw,h⟩:=zK h;obtain⟨z,hz,h⟩:=zM h;split at h<;>first|exact h.elim|skip
  rename_i es hg;obtain⟨BR,b,h⟩:=h;obtain⟨ds,h⟩:=aC h;obtain⟨Pu,h⟩:=h;obtain⟨v,hm,hk⟩:=zM h;have EU:=he.ev x;rw[hx]at EU;simp only[VR]at EU;obtain⟨bm,sub,e1,e2⟩:=EU;rw[e2]at e1;obtain⟨fy,ck,r1,r2,rb,r3⟩:=R.Iq (CV:=u9 kv ds es) (kv:=kv) hg e1;have hi:ev ρ i=kv:=eM HK (he.ev i);obtain⟨kd,hu,yy⟩:=T7 Pw;have run:∃iP td y born,MR E.F (u9 kv ds es) iP/\vW iP td/\S1 iP kv born/\VR E v y/\(Instr.mapEntry t (.map (au bm)) kv).run P w= .ok (.tuple #[y,.int .i64 born]) (World.iX w bm (.map iP.toArray td)):=by
   rcases MC yy 0 r1 BR with⟨t1,t2,t3,t4,t5⟩|⟨q,m,CW,Dz,t1,t2,t3,t4,t5,t6,t7,t8,t9⟩
   ·rcases Pu with⟨l1,l2⟩|⟨l1,l2,l3⟩
    ·rw[t2]at l1;cases l1
    ·subst l2 l3;obtain⟨zv,ys,z1,z2,z3⟩:=yFy (F:=E.F) hz hm;refine⟨fy++[{key:=kv,val:=zv,born:=ck}],ck+1,zv,ck,by rw[t3];exact VU z2 (e:={key:=kv,val:=zv,born:=ck}) rfl z3 r1,zTi rb rfl,⟨kd,yy,fy.length,_,by have:=t5 {key:=kv,val:=zv,born:=ck} rfl;rwa [oa]at this,by simp,rfl⟩,by rw[z3];exact Wa hm z2,?_⟩;simp only[Instr.mapEntry,bind,run_bind,Cv.run_underlying (uR BO),qM r2 trivial,pure,cr,jT hu yy,wV hu t1,me (cF z1)];rw[uM r2 trivial];simp[goInt]
   ·rcases Pu with⟨l1,l2⟩|⟨l1,l2,l3⟩
    ·rw[t4]at l1;cases l1;refine⟨fy.set q {m with key:=kv},ck,m.val,m.born,t7 _ _ _ t5 rfl t6,Xh rb t2 rfl,⟨kd,yy,q,{m with key:=kv},by have:=t9 {m with key:=kv} rfl;rwa [oa]at this,by
      rw[List.getElem?_set_self (jv.1 t2).1],rfl⟩,by rw[t6];exact Wa hm t5,?_⟩
     have hq:(fy.toArray[0+q]?).map (·.key)=au kv:=by simp[t2,t3]
     have Pn:((fy.toArray[0+q]?).map λx=>((x.born:Nat):Int))=au (m.born:Int):=by simp[t2]
     simp only[Instr.mapEntry,bind,run_bind,Cv.run_underlying (uR BO),qM r2 trivial,pure,cr,jT hu yy,wV hu t1,hq,Pn,zm,Instr.keyThatStays,zGk yy,if_true];rw[uM r2 trivial];simp only[goInt,Pn,zm];congr 3;rw[List.modify_toArray];congr 1;rw[oa,List.modify_eq_set,t2];rfl
    ·rw[t4]at l1;cases l1
  obtain⟨iP,td,y,born,u1,ub,us,uy,u2⟩:=run;simp only[ac,ho,e2,hi];exact yE u2 ⟨E,.ja [v,.d (.v (.int .i64 born))],_,Ev.le.refl _,r3 iP td born u1 ub us,by simp only[VR,gw,DR];exact⟨_,rfl,_,_,rfl,uy,_,_,rfl,⟨rfl,rfl⟩,rfl⟩,hk born⟩
 case entryStore t x st v=>
  simp only[se,ho]at h;split at h<;>first|exact h.elim|skip
  rename_i n hx;split at h<;>first|exact h.elim|skip
  rename_i ik b ln;obtain⟨ke,BO,h⟩:=zM h;obtain⟨hb,h⟩:=zK h;split at h<;>first|exact h.elim|skip
  rename_i ds s1 hd;split at h<;>first|exact h.elim|skip
  rename_i es kv b' hg;obtain⟨rfl,BR,hk⟩:=h;obtain⟨E1,ys,q1,q2,q3,q4,q5,q6⟩:=Mq R hd (he.ev v);have EU:=he.ev x;rw[hx]at EU;simp only[VR]at EU;obtain⟨bm,sub,e1,e2⟩:=EU;have e1:=q1.get e1;rw[e2]at e1;have hsv:=he.ev st;rw[ln]at hsv;simp only[VR,DR]at hsv;obtain⟨fy,ck,r1,r2,rb,⟨kd,yy,q,m,u1,u2,u3⟩,r3⟩:=q3.Ip (CV:=u9 kv ds es) hg e1;have xq:=z3d hb (he.ev v) q5;rcases MC yy 0 r1 BR with⟨t1,t2,t3,t4,t5⟩|⟨q',m',CW,Dz,t1,t2,t3,t4,t5,t6,t7,t8,t9⟩
  ·rw[t1]at u1;cases u1
  ·rw[t1]at u1;simp only[cg,Prod.mk.injEq,oa]at u1;obtain⟨rfl,_⟩:=u1;rw[t2]at u2;cases u2;have hfi:=yFl rb.1 t2;have run:(Instr.entryStore t (.map (au bm)) (ev ρ st) (ev ρ v)).run P w= .ok () (World.iX w bm (.map (fy.set q' {m with val:=ev ρ v}).toArray ck)):=by
    rw[hsv.1,<- u3];have hfa:fy.toArray.findIdx? (λe=>((e.born:Nat):Int)==((m.born:Nat):Int))=au q':=by simpa using hfi
    simp only[Instr.entryStore,bind,run_bind,qM r2 trivial,pure,cr,asInt,asIntOf,hfa];rw[uM r2 trivial];congr 2;rw[List.modify_toArray];congr 1;rw[List.modify_eq_set,t2];rfl
   simp only[ac,ho,e2];exact wP run ⟨E1,.ja [],_,q1,r3 _ ck (t7 _ _ _ q6 t3 xq) (Xh rb t2 rfl),by simp only[VR];exact⟨[],rfl,gw.nil⟩,hk⟩
 case range t x=>
  simp only[se,ho]at h;split at h<;>first|exact h.elim|skip
  rename_i b hx;obtain⟨hs,hk⟩:=zK h;have hv:=he.ev x;rw[hx]at hv;simp only[VR,DR]at hv;simp only[ac,ho,hv.1];refine yE (v:= .pointer (au ⟨w.heap.size,0,av⟩)) (w':=w.alloc (.stringIter b 0)) ?_ ?_
  ·simp only[Instr.range,bind,pure,run_bind,ct,Cv.run_underlying (nY hs)];rfl
  ·refine Tf (hd:=(.pointer (au ⟨w.heap.size,0,av⟩),[])) R ?_ (λhg=> ?_) hk
   ·simp only[fm];exact⟨_,rfl,rfl⟩
   ·simp only[VR];exact⟨_,0,_,hg,rfl⟩
 case next x isS=>
  cases isS with
  |false=>simp only[se,ho]at h
  |true=>
   simp only[se,ho]at h;split at h<;>first|exact h.elim|skip
   rename_i n hx;split at h<;>first|exact h.elim|skip
   rename_i b pos hg;have hv:=he.ev x;rw[hx]at hv;simp only[VR]at hv;obtain⟨bb,oo,sub,e1,e2⟩:=hv;obtain⟨hd,hh,e3,e4,_⟩:=R.row hg (by simp);rw[e1]at e3;cases e3;simp only[fm]at e4;obtain⟨b2,e4,_⟩:=e4;cases e4;have hS:=λpos'=>R.setIter (pos':=pos') hg e1
   have kf:=(hS 0).1;simp only[ac,ho,e2];rcases yBr h with⟨hb,hk⟩|⟨hb,hk⟩
   ·have gv:pos<b.size:=by simpa[yf]using hb
    refine yE (v:= .tuple #[.bool bv,.int .i64 (pos:Nat),.int .i32 (Utf8.decode b pos).1]) (w':=World.iX w bb (.stringIter b (pos+(Utf8.decode b pos).2))) ?_
     ⟨E,_,_,Ev.le.refl _,(hS _).2,?_,hk⟩
    ·simp only[Instr.next,bind,pure,run_bind,ct,cr,qM kf trivial,fh gv,uM kf trivial];rfl
    ·simp only[VR,gw,DR];exact⟨_,rfl,_,_,rfl,⟨rfl,rfl⟩,_,_,rfl,⟨rfl,rfl⟩,_,_,rfl,⟨rfl,rfl⟩,rfl⟩
   ·have gv:¬pos<b.size:=by
     intro h';have:ax pos b.size=bv:=by rw[yf];exact h'
     rw[this]at hb;cases hb
    refine yE (v:= .tuple #[.bool bz]) (w':=w) ?_ ⟨E,_,_,Ev.le.refl _,R,?_,hk⟩
    ·simp only[Instr.next,bind,pure,run_bind,ct,cr,qM kf trivial,fb gv]
    ·simp only[VR,gw,DR];exact⟨_,rfl,_,_,rfl,⟨rfl,rfl⟩,rfl⟩
 case call c=>
  simp only[se,ho]at h;split at h<;>first|exact h.elim|skip
  ·rename_i x hc;split at h<;>first|exact h.elim|skip
   rename_i f a b hx;have hv:=he.ev x;rw[hx]at hv;simp only[VR]at hv;obtain⟨as,bs,e1,e2,e3⟩:=hv;obtain⟨ys,e4,e5⟩:=aE he c.args;have jk:(ac (ev ρ) o)=ag f (as++(ys++bs)).toArray:=by
    have tm:ac (ev ρ) o=(resolve (ev ρ) c o.type).bind λd=>invoke d.target d.args:=by
     simp only[ac,ho];rfl
    rw[tm];unfold resolve;rw[hc];simp only[e1,Deferred.ofValue,pure,ct,invoke,e4];congr 1;apply cq;simp
   rw[jk];exact z1w hH R h (e2.append (e5.append e3))
  ·rename_i hc;split at h<;>first|exact h.elim|skip
   rename_i t1 t2 hts;split at h<;>first|exact h.elim|skip
   rename_i x y nt;obtain⟨ys,e1,e2⟩:=aE he c.args;rw[nt]at e2;simp only[gw]at e2;obtain⟨xr,_,rfl,hx,yr,_,rfl,hy,rfl⟩:=e2;have ht:c.argTypes= #[t1,t2]:=by apply cq;simpa using hts
   rw[j7 ho hc,e1,ht];cases Jm:yJx s y with
   |false=>
    rw[Jm]at h;obtain⟨v,w',hr,ze⟩:=zSx (rt:=o.type) R hx hy h;exact yE hr ze
   |true=>
    rw[Jm]at h;obtain⟨v,w',hr,ze⟩:=zOa (rt:=o.type) R hx hy h;exact yE hr ze
  ·rename_i hc;split at h<;>first|exact h.elim|skip
   rename_i n y nt;obtain⟨t,ht,h⟩:=zM h;obtain⟨ke,BO,h⟩:=zM h;obtain⟨kv,HK,h⟩:=zM h;obtain⟨Pw,h⟩:=zK h;split at h<;>first|exact h.elim|skip
   rename_i es hg;obtain⟨BR,hk⟩:=h;obtain⟨ys,e1,e2⟩:=aE he c.args;rw[nt]at e2;simp only[gw,VR]at e2;obtain⟨mv,_,rfl,⟨bm,sub,e3,rfl⟩,yv,_,rfl,hy,rfl⟩:=e2;obtain rfl:=eM HK hy;obtain⟨fy,ck,r1,r2,rb,r3⟩:=R.FD (CV:=BI yv es) hg e3;obtain⟨kd,hu,yy⟩:=T7 Pw;have run:∃iP td,MR E.F (BI yv es) iP/\vW iP td/\(Builtin.delete_ c.argTypes o.type #[.map (au bm),yv]).run P w= .ok (.tuple #[]) (World.iX w bm (.map iP.toArray td)):=by
    rcases MC yy 0 r1 BR with⟨t1,t2,t3,t4,_⟩|⟨q,m,CW,Dz,t1,t2,t3,t4,t5,t6,t7,t8,_⟩
    ·refine⟨fy,ck,by rw[t4];exact r1,rb,?_⟩;simp only[Builtin.delete_,ht,AO,CK,A1,bind,run_bind,Cv.run_underlying (uR BO),qM r2 trivial,pure,cr,jT hu yy,wV hu t1];rw[uM r2 trivial]
    ·refine⟨fy.eraseIdx q,ck,t8,z8d rb,?_⟩;simp only[Builtin.delete_,ht,AO,CK,A1,bind,run_bind,Cv.run_underlying (uR BO),qM r2 trivial,pure,cr,jT hu yy,wV hu t1];rw[uM r2 trivial];simp
   obtain⟨iP,td,u1,ub,u2⟩:=run;rw[j7 ho hc,e1];exact yE u2 ⟨E,.ja [],_,Ev.le.refl _,r3 iP td u1 ub,by simp only[VR];exact⟨[],rfl,gw.nil⟩,hk⟩
 all_goals(simp only[se,ho]at h)
def zHx {n c:Nat} {x:fi} (h:aw n c=bz):∀{l:List (Nat×fi)},lD n (sR c x l)=lD n l
 |[]=>rfl
 |(m,o)::l=>by
  simp only[sR];cases hb:aw m c
  ·simp only[cond_false,lD];cases hm:aw m n
   ·simp only[cond_false];exact zHx h
   ·rfl
  ·have:=jb hb;subst this;have h':aw m n=bz:=by
    cases hm:aw m n
    ·rfl
    ·have:=jb hm;subst this;rw[Nat.beq_refl]at h;cases h
   simp only[cond_true,lD,h',cond_false]
def bZ {n:Nat} {x:fi}:∀{l:List (Nat×fi)},lD n l≠av->lD n (sR n x l)=au x
 |[],h=>absurd rfl h
 |(m,o)::l,h=>by
  simp only[lD,sR]at h ⊢;cases hb:aw m n
  ·rw[hb]at h;simp only[lD,hb,cond_false]at h ⊢;exact bZ h
  ·simp only[lD,hb,cond_true]
def zTh {n:Nat} {x y:fi}:∀{l:List (Nat×fi)},sR n y (sR n x l)=sR n y l
 |[]=>rfl
 |(m,o)::l=>by
  simp only[sR];cases hb:aw m n
  ·simp only[cond_false,sR,hb];rw[zTh]
  ·simp only[cond_true,sR,hb]
def yRb {l:List aa} {o:Nat} {y:aa} (h:o<l.length):kj l o [y]=l.set o y:=by
 unfold kj;rw[M8,fh h];simp
def Rel.Gk {k:Ko} {L:List HP} {w:ab} {E:Ev} {s:St} (R:Rel k L E s w) {q:Bool} {n c T sz i f t2 ve:Nat} {ez lv:List (List D)} (hg:s.get n=au (.vf q T sz ez i f bv (au c))) (hc:s.get c=au (.own t2 ve lv)) (ji:aw n c=bz) (hi:i<ez.length) (hf:f<sz) {y:aa} (hv:VR E (.own n) y):
 ∃E',E.le E'/\E'.gf=E.gf/\Rel k L E' ((s.set c (.jc ve lv)).set n (.jc sz (zV ez i f [.ro ve lv]))) w/\DR E'.F (.ro sz (zV ez i f [.ro ve lv])) y:=by
 obtain⟨E1,q1,q2,R1⟩:=R.freeze hc;have g1:(s.set c (.jc ve lv)).get n=au (.vf q T sz ez i f bv (au c)):=by
  simp only[St.get,St.set]at hg ⊢;rw[zHx ji,hg]
 have g2:(s.set c (.jc ve lv)).get c=au (.jc ve lv):=by
  simp only[St.get,St.set]at hc ⊢;exact bZ (by rw[hc];simp)
 obtain⟨hdc,xc,c1,c2,_⟩:=R1.row g2 (by simp);simp only[fm]at c2;have R2:Rel k L E1 ((s.set c (.jc ve lv)).set n (.own T sz (zV ez i f [.ro ve lv]))) w:=by
  refine R1.nu g1 ((R1.focus g1).imp λx hx=> ?_);rcases hx with⟨e,_⟩|⟨hd,h1,h2⟩
  ·cases e
  refine .inr ⟨hd,h1,?_⟩;simp only[fm]at h2 ⊢;obtain⟨a,kk,ys,xs,e1,e2,e3,⟨z,l,e4,e5,e6⟩,e7⟩:=h2;rw[c1]at e4;cases e4;obtain⟨f1,f2⟩:=nC i f [.ro ve lv] e3 hi (by simp only[iJ,ua];omega);have hlen:(zV ez i f [.ro ve lv]).length=ez.length:=by simp[zV]
  have CP:ys.length=ez.length*sz:=by rw[e2.length,jS e3]
  have vt:i*sz+sz<=ez.length*sz:=by
   have:=wz sz (show i+1<=ez.length by omega);rwa [zj]at this
  refine⟨a,kk,xs,by rw[hlen];exact e1,?_,f2,by rw[hlen];exact e7⟩;rw[f1,e6,cond_true,<- yRb (by omega)];exact Oa e2 (by simp only[iF];exact⟨_,_,rfl,c2.2,rfl⟩) _
 have g3:((s.set c (.jc ve lv)).set n (.own T sz (zV ez i f [.ro ve lv]))).get n=au (.own T sz (zV ez i f [.ro ve lv])):=by
  simp only[St.get,St.set]at g1 ⊢;exact bZ (by rw[g1];simp)
 obtain⟨E2,r1,r2,R3⟩:=R2.freeze g3;have e:((s.set c (.jc ve lv)).set n (.own T sz (zV ez i f [.ro ve lv]))).set n (.jc sz (zV ez i f [.ro ve lv]))=(s.set c (.jc ve lv)).set n (.jc sz (zV ez i f [.ro ve lv])):=by
  simp only[St.set,zTh]
 rw[e]at R3;have g4:((s.set c (.jc ve lv)).set n (.jc sz (zV ez i f [.ro ve lv]))).get n=au (.jc sz (zV ez i f [.ro ve lv])):=by
  simp only[St.get,St.set]at g1 ⊢;exact bZ (by rw[g1];simp)
 obtain⟨hdn,xn,n1,n2,_⟩:=R3.row g4 (by simp);simp only[fm]at n2;simp only[VR]at hv;obtain⟨l,v1,_⟩:=hv;rw[r2,q2,v1]at n1;cases n1;exact⟨E2,q1.trans r1,r2.trans q2,R3,n2.2⟩
@[reducible] def NM:=List (Nat×Nat)
def z8 (p:Nat):NM->Option Nat
 |[]=>av
 |(q,n)::l=>bif aw q p then au n else z8 p l
def U1:aa->aa->Prop
 | .int k a,.int k' b=>bif wj k k' then a=b else False
 | .bool a,.bool b=>a=b
 | .string a,.string b=>a=b
 | .pointer av,.pointer av=>True
 | .slice av 0 0,.slice av 0 0=>True
 | .map av,.map av=>True
 | .nilFunc,.nilFunc=>True
 | .nilIface,.nilIface=>True
 |_,_=>False
def yLj {x y:aa} (h:U1 x y):x=y:=by
 unfold U1 at h;split at h<;>first|exact h.elim|rfl|(subst h;rfl)|skip
 obtain⟨hk,rfl⟩:=zK h;rw[zVv hk]
def dEq:D->D->Prop
 | .v x,.v y=>U1 x y
 | .ro sz ez,.ro oA lj=>bif aw sz oA then ez=lj else False
 | .ro _ ez,.v (.slice av 0 0)=>ez=[]
 |_,_=>False
def y1p {F:PH} {p q:D} {y:aa} (h:dEq p q) (hq:DR F q y):DR F p y:=by
 unfold dEq at h;split at h<;>first|exact h.elim|skip
 ·rw[yLj h];exact hq
 ·obtain⟨hb,rfl⟩:=zK h;rw[jb hb];exact hq
 ·subst h;simp only[DR]at hq ⊢;exact⟨av,0,hq.1,lk _,by simp,.inl trivial⟩
def Kp (p n:Nat) (π:NM) (K:NM->Prop):Prop:=
 match z8 p π with
 |some m=>bif aw m n then K π else False
 |none=>K ((p,n)::π)
mutual
def BM:V->V->NM->St->(NM->St->Prop)->Prop
 | .top,_,π,s,K=>K π s
 | .d p,a,π,s,K=>match a with
   | .d q=>dEq p q/\K π s
   | .own n=>match p with
     | .ro sz ez=>match s.get n with
       |some (.own _ oA lj)=>bif aw sz oA then ez=lj/\K π (s.set n (.jc oA lj))else False
       |some (.jc oA lj)=>bif aw sz oA then ez=lj/\K π s else False
       |some (.vf bv T oA lj i f b (au c))=>match s.get c with
        |some (.own _ ve lv)=>bif aw sz oA && !(aw n c)then(b=bv/\i<lj.length/\f<sz/\ez=zV lj i f [.ro ve lv])/\K π ((s.set c (.jc ve lv)).set n (.jc oA ez))else False
        |_=>False
       |_=>False
     |_=>False
   |_=>False
 | .nm p o,a,π,s,K=>match a with
   | .nm n o'=>bif aw o o' then Kp p n π λπ=>K π s else False
   |_=>False
 | .el p sz i f,a,π,s,K=>match a with
   | .el n oA i' f'=>bif aw sz oA && aw f f' then i=i'/\Kp p n π λπ=>K π s else False
   |_=>False
 | .own p,a,π,s,K=>match a with
   | .own n=>Kp p n π λπ=>K π s
   | .d (.v (.slice av 0 0))=>match z8 p π with
     |none=>K ((p,s.nx)::π) (s.new .Au)
     |some _=>False
   |_=>False
 | .mp p,a,π,s,K=>match a with
   | .mp n=>Kp p n π λπ=>K π s
   |_=>False
 | .agg l,a,π,s,K=>match a with
   | .agg l'=>DE l l' π s K
   |_=>False
 | .ja l,a,π,s,K=>match a with
   | .ja l'=>DE l l' π s K
   |_=>False
 | .fn f x y,a,π,s,K=>match a with
   | .fn f' x' y'=>bif aw f f' then DE x x' π s λπ s=>DE y y' π s K else False
   |_=>False
 | .zo t x,a,π,s,K=>match a with
   | .zo t' x'=>bif aw t t' then BM x x' π s K else False
   |_=>False
 |_,_,_,_,_=>False
def DE:List V->List V->NM->St->(NM->St->Prop)->Prop
 |[],l,π,s,K=>match l with
  |[]=>K π s
  |_=>False
 |v::vs,l,π,s,K=>match l with
  |u::us=>BM v u π s λπ s=>DE vs us π s K
  |[]=>False
end
def Loc (π:NM) (gf tl:List Hd):Prop:=∀p n,z8 p π=au n->∃hd,gf[n]?=au hd/\tl[p]?=au hd
def Ext (π π':NM):Prop:=∀p n,z8 p π=au n->z8 p π'=au n
def Ap (π:NM) (gf:List Hd):Prop:=∀p n,z8 p π=au n->∃hd,gf[n]?=au hd
def Ext.refl (π:NM):Ext π π:=λ_ _ h=>h
def Ext.trans {a b c:NM} (h:Ext a b) (h':Ext b c):Ext a c:=λp n e=>h' p n (h p n e)
def Ap.mono {π:NM} {E E':Ev} (h:Ap π E.gf) (hle:E.le E'):Ap π E'.gf:=λp n e=>let⟨hd,q⟩:=h p n e;⟨hd,hle.get q⟩
def PV (E:Ev) (π:NM) (v:V) (y:aa):Prop:=∀E2 π2,E.le E2->Ext π π2->∀tl,Loc π2 E2.gf tl->VR ⟨E2.F,tl⟩ v y
def Vu (E:Ev) (π:NM) (v:List V) (y:List aa):Prop:=∀E2 π2,E.le E2->Ext π π2->∀tl,Loc π2 E2.gf tl->gw ⟨E2.F,tl⟩ v y
def PV.mono {E E':Ev} {π π':NM} {v:V} {y:aa} (h:PV E π v y) (hle:E.le E') (hx:Ext π π'):PV E' π' v y:=λE2 π2 a b tl c=>h E2 π2 (hle.trans a) (hx.trans b) tl c
def Vu.mono {E E':Ev} {π π':NM} {v:List V} {y:List aa} (h:Vu E π v y) (hle:E.le E') (hx:Ext π π'):Vu E' π' v y:=λE2 π2 a b tl c=>h E2 π2 (hle.trans a) (hx.trans b) tl c
def pR {p n:Nat} {π:NM} {gf:List Hd} {K:NM->Prop} (h:Kp p n π K) (hw:Ap π gf) {hd:Hd} (hn:gf[n]? =au hd):∃π',Ext π π'/\Ap π' gf/\z8 p π'=au n/\K π':=by
 unfold Kp at h;split at h
 ·rename_i m hm;obtain⟨hb,hk⟩:=zK h;have:=jb hb;subst this;exact⟨π,Ext.refl _,hw,hm,hk⟩
 ·rename_i hm;refine⟨_,λq m e=> ?_,λq m e=> ?_,by simp[z8],h⟩
  ·simp only[z8];cases hb:aw p q
   ·exact e
   ·have:=jb hb;subst this;rw[hm]at e;cases e
  ·simp only[z8]at e;cases hb:aw p q
   ·rw[hb]at e;exact hw q m e
   ·rw[hb]at e;cases e;exact⟨hd,hn⟩
variable {k:Ko} {L:List HP} {w:ab}
structure wx (k:Ko) (L:List HP) (w:ab) (E:Ev) (π:NM) (E':Ev) (π':NM) (s':St):Prop where
 le:E.le E'
 ext:Ext π π'
 wf:Ap π' E'.gf
 rel:Rel k L E' s' w
def wx.trans {E E1 E2:Ev} {π π1 π2:NM} {s1 s2:St} {L1 L2:List HP} (a:wx k L1 w E π E1 π1 s1) (b:wx k L2 w E1 π1 E2 π2 s2):wx k L2 w E π E2 π2 s2:=⟨a.le.trans b.le,a.ext.trans b.ext,b.wf,b.rel⟩
def Rel.FL {E:Ev} {s:St} (R:Rel k L E s w):∃E',E.le E'/\Rel k L E' (s.new .Au) w/\E'.gf[s.nx]? =au (.slice av 0 0,[]):=by
 have hle:E.le ⟨E.F,E.gf++[(.slice av 0 0,[])]⟩:=Ev.le.app _;have kf:(E.gf++[((.slice av 0 0,[]):Hd)])[s.nx]? =au (.slice av 0 0,[]):=by rw[<- R.nx];simp
 refine⟨_,hle,⟨by simp[St.new,R.nx],?_⟩,kf⟩;have H2:=wS (λr x=>gz.mono hle r) R.hp;have:=(@h9 k w True _).2 ⟨trivial,H2⟩;exact this.imp λx hx=> .inr ⟨_,kf,by simp only[fm];exact⟨hx.2,trivial,trivial⟩⟩
mutual
theorem ZQ:∀{v a:V} {π:NM} {s:St} {K:NM->St->Prop} {E:Ev} {y:aa},BM v a π s K->Rel k L E s w->Ap π E.gf->VR E a y->∃E' π' s',wx k L w E π E' π' s'/\PV E' π' v y/\K π' s'
 | .top,a,π,s,K,E,y,h,R,hw,hv=>by
   simp only[BM]at h;exact⟨E,π,s,⟨Ev.le.refl _,Ext.refl _,hw,R⟩,λ_ _ _ _ _ _=>by simp only[VR],h⟩
 | .d p,a,π,s,K,E,y,h,R,hw,hv=>by
   simp only[BM]at h;split at h<;>first|exact h.elim|skip
   ·rename_i q;obtain⟨h1,h⟩:=h;simp only[VR]at hv;exact⟨E,π,s,⟨Ev.le.refl _,Ext.refl _,hw,R⟩,λE2 _ a _ _ _=>by simp only[VR];exact(y1p h1 hv).mono a.1,h⟩
   ·rename_i n;split at h<;>first|exact h.elim|skip
    rename_i sz ez;split at h<;>first|exact h.elim|skip
    ·rename_i t oA lj hg;obtain⟨hb,rfl,hk⟩:=zK h;have e:=jb hb;subst e;obtain⟨E',q1,q2,q3,q4,q5⟩:=Ob R (v:= .own n) (d:= .ro sz ez) (s':=s.set n (.jc sz ez)) (by simp only[KI,hg]) hv;exact⟨E',π,_,⟨q1,Ext.refl _,by rw[q2];exact hw,q3⟩,λE2 _ a _ _ _=>by simp only[VR];exact q5.mono a.1,hk⟩
    ·rename_i oA lj hg;obtain⟨hb,rfl,hk⟩:=zK h;have e:=jb hb;subst e;obtain⟨E',q1,q2,q3,q4,q5⟩:=Ob R (v:= .own n) (d:= .ro sz ez) (s':=s) (by simp only[KI,hg]) hv;exact⟨E',π,_,⟨q1,Ext.refl _,by rw[q2];exact hw,q3⟩,λE2 _ a _ _ _=>by simp only[VR];exact q5.mono a.1,hk⟩
    ·rename_i T oA lj i f b c hg;split at h<;>first|exact h.elim|skip
     rename_i t2 ve lv yz;obtain⟨hb,⟨rfl,hi,hf,rfl⟩,hk⟩:=zK h;simp only[lr,EM]at hb;have e:=jb hb.1;subst e;obtain⟨E',q1,q2,q3,q4⟩:=R.Gk hg yz hb.2 hi hf hv;exact⟨E',π,_,⟨q1,Ext.refl _,by rw[q2];exact hw,q3⟩,λE2 _ a _ _ _=>by simp only[VR];exact q4.mono a.1,hk⟩
 | .nm p o,a,π,s,K,E,y,h,R,hw,hv=>by
   simp only[BM]at h;split at h<;>first|exact h.elim|skip
   rename_i n o';obtain⟨hb,hk⟩:=zK h;have e:=jb hb;subst e;simp only[VR]at hv;obtain⟨b,oo,l,h1,rfl⟩:=hv;obtain⟨π',q1,q2,q3,q4⟩:=pR hk hw h1;refine⟨E,π',s,⟨Ev.le.refl _,q1,q2,R⟩,λE2 π2 a b' tl hl=> ?_,q4⟩;simp only[VR];obtain⟨hd,e1,e2⟩:=hl p n (b' p n q3);rw[a.get h1]at e1;cases e1;exact⟨b,oo,l,e2,rfl⟩
 | .el p sz i f,a,π,s,K,E,y,h,R,hw,hv=>by
   simp only[BM]at h;split at h<;>first|exact h.elim|skip
   rename_i n oA i' f';obtain⟨hb,rfl,hk⟩:=zK h;simp only[lr]at hb;have e:=jb hb.1;subst e;have e:=jb hb.2;subst e;simp only[VR]at hv;obtain⟨b,oo,m,c,l,h1,rfl⟩:=hv;obtain⟨π',q1,q2,q3,q4⟩:=pR hk hw h1;refine⟨E,π',s,⟨Ev.le.refl _,q1,q2,R⟩,λE2 π2 a b' tl hl=> ?_,q4⟩;simp only[VR];obtain⟨hd,e1,e2⟩:=hl p n (b' p n q3);rw[a.get h1]at e1;cases e1;exact⟨b,oo,m,c,l,e2,rfl⟩
 | .own p,a,π,s,K,E,y,h,R,hw,hv=>by
   simp only[BM]at h;split at h<;>first|exact h.elim|skip
   ·rename_i n;simp only[VR]at hv;obtain⟨l,h1,h2⟩:=hv;obtain⟨π',q1,q2,q3,q4⟩:=pR h hw h1;refine⟨E,π',s,⟨Ev.le.refl _,q1,q2,R⟩,λE2 π2 a b' tl hl=> ?_,q4⟩;simp only[VR];obtain⟨hd,e1,e2⟩:=hl p n (b' p n q3);rw[a.get h1]at e1;cases e1;exact⟨l,e2,h2⟩
   ·split at h<;>first|exact h.elim|skip
    rename_i hm;obtain⟨E',q1,q2,q3⟩:=R.FL;simp only[VR,DR]at hv;obtain⟨rfl,_⟩:=hv;have yx:z8 p ((p,s.nx)::π)=au s.nx:=by simp[z8]
    refine⟨E',_,_,⟨q1,λq m e=> ?_,λq m e=> ?_,q2⟩,λE2 π2 a b' tl hl=> ?_,h⟩
    ·simp only[z8];cases hb:aw p q
     ·exact e
     ·have:=jb hb;subst this;rw[hm]at e;cases e
    ·simp only[z8]at e;cases hb:aw p q
     ·rw[hb]at e;obtain⟨hd,h'⟩:=hw q m e;exact⟨hd,q1.get h'⟩
     ·rw[hb]at e;cases e;exact⟨_,q3⟩
    ·simp only[VR];obtain⟨hd,e1,e2⟩:=hl p _ (b' p _ yx);rw[a.get q3]at e1;cases e1;exact⟨[],e2,_,_,_,rfl⟩
 | .mp p,a,π,s,K,E,y,h,R,hw,hv=>by
   simp only[BM]at h;split at h<;>first|exact h.elim|skip
   rename_i n;simp only[VR]at hv;obtain⟨b,l,h1,h2⟩:=hv;obtain⟨π',q1,q2,q3,q4⟩:=pR h hw h1;refine⟨E,π',s,⟨Ev.le.refl _,q1,q2,R⟩,λE2 π2 a b' tl hl=> ?_,q4⟩;simp only[VR];obtain⟨hd,e1,e2⟩:=hl p n (b' p n q3);rw[a.get h1]at e1;cases e1;exact⟨b,l,e2,h2⟩
 | .agg l,a,π,s,K,E,y,h,R,hw,hv=>by
   simp only[BM]at h;split at h<;>first|exact h.elim|skip
   simp only[VR]at hv;obtain⟨ys,rfl,hv⟩:=hv;obtain⟨E',π',s',q1,q2,q3⟩:=lP h R hw hv;exact⟨E',π',s',q1,λE2 π2 a b tl c=>by simp only[VR];exact⟨ys,rfl,q2 E2 π2 a b tl c⟩,q3⟩
 | .ja l,a,π,s,K,E,y,h,R,hw,hv=>by
   simp only[BM]at h;split at h<;>first|exact h.elim|skip
   simp only[VR]at hv;obtain⟨ys,rfl,hv⟩:=hv;obtain⟨E',π',s',q1,q2,q3⟩:=lP h R hw hv;exact⟨E',π',s',q1,λE2 π2 a b tl c=>by simp only[VR];exact⟨ys,rfl,q2 E2 π2 a b tl c⟩,q3⟩
 | .fn f x z,a,π,s,K,E,y,h,R,hw,hv=>by
   simp only[BM]at h;split at h<;>first|exact h.elim|skip
   rename_i f' x' z';obtain⟨hb,hk⟩:=zK h;have e:=jb hb;subst e;simp only[VR]at hv;obtain⟨as,bs,rfl,h1,h2⟩:=hv;obtain⟨E',π',s',q1,q2,q3⟩:=lP hk R hw h1;obtain⟨E2,π2,s2,r1,r2,r3⟩:=lP q3 q1.rel q1.wf (h2.mono q1.le);exact⟨E2,π2,s2,q1.trans r1,λE3 π3 a b tl c=>by simp only[VR];exact⟨as,bs,rfl,q2.mono r1.le r1.ext E3 π3 a b tl c,r2 E3 π3 a b tl c⟩,r3⟩
 | .zo t x,a,π,s,K,E,y,h,R,hw,hv=>by
   simp only[BM]at h;split at h<;>first|exact h.elim|skip
   rename_i t' x';obtain⟨hb,hk⟩:=zK h;have e:=jb hb;subst e;simp only[VR]at hv;obtain⟨z,rfl,h1⟩:=hv;obtain⟨E',π',s',q1,q2,q3⟩:=ZQ hk R hw h1;exact⟨E',π',s',q1,λE3 π3 a b tl c=>by simp only[VR];exact⟨z,rfl,q2 E3 π3 a b tl c⟩,q3⟩
 | .re sz ez i f,a,π,s,K,E,y,h,R,hw,hv=>by simp only[BM]at h
 | .sub n i,a,π,s,K,E,y,h,R,hw,hv=>by simp only[BM]at h
theorem lP:∀{v a:List V} {π:NM} {s:St} {K:NM->St->Prop} {E:Ev} {y:List aa},DE v a π s K->Rel k L E s w->Ap π E.gf->gw E a y->∃E' π' s',wx k L w E π E' π' s'/\Vu E' π' v y/\K π' s'
 |[],a,π,s,K,E,y,h,R,hw,hv=>by
  simp only[DE]at h;split at h<;>first|exact h.elim|skip
  simp only[gw]at hv;exact⟨E,π,s,⟨Ev.le.refl _,Ext.refl _,hw,R⟩,λ_ _ _ _ _ _=>by simpa only[gw]using hv,h⟩
 |v::vs,a,π,s,K,E,y,h,R,hw,hv=>by
  simp only[DE]at h;split at h<;>first|exact h.elim|skip
  simp only[gw]at hv;obtain⟨x,xs,rfl,h1,h2⟩:=hv;obtain⟨E',π',s',q1,q2,q3⟩:=ZQ h R hw h1;obtain⟨E2,π2,s2,r1,r2,r3⟩:=lP q3 q1.rel q1.wf (h2.mono q1.le);exact⟨E2,π2,s2,q1.trans r1,λE3 π3 a b tl c=>by simp only[gw];exact⟨_,_,rfl,q2.mono r1.le r1.ext E3 π3 a b tl c,r2 E3 π3 a b tl c⟩,r3⟩
end
mutual
def lC (π:NM):V->V
 | .top=> .top
 | .d d=> .d d
 | .nm n o=>match z8 n π with
   |some m=> .nm m o
   |none=> .top
 | .el n sz i f=>match z8 n π with
   |some m=> .el m sz i f
   |none=> .top
 | .re sz ez i f=> .re sz ez i f
 | .na _ _ _=> .top
 | .own n=>match z8 n π with
   |some m=> .own m
   |none=> .top
 | .mp n=>match z8 n π with
   |some m=> .mp m
   |none=> .top
 | .sub n i=>match z8 n π with
   |some m=> .sub m i
   |none=> .top
 | .agg l=> .agg (Hi π l)
 | .ja l=> .ja (Hi π l)
 | .fn f a b=> .fn f (Hi π a) (Hi π b)
 | .zo t x=> .zo t (lC π x)
def Hi (π:NM):List V->List V
 |[]=>[]
 |v::l=>lC π v::Hi π l
end
def oN (π:NM):Option Nat->Option Nat
 |some m=>z8 m π
 |none=>av
def D3 (π:NM):fi->fi
 | .cells vs t=> .cells (Hi π vs) t
 | .vf q t sz ez i f b m=> .vf q t sz ez i f b (oN π m)
 |o=>o
def Oi (iC:Nat->fi) (π:NM) (nx:Nat):List Nat->List (Nat×fi)
 |[]=>[]
 |j::js=>(nx+j,D3 π (iC (j+1)))::Oi iC π nx js
def m3 (n nx m:Nat):NM:=(0,n)::(az (m-1)).map λj=>(j+1,nx+j)
def Kj (s:St) (n m:Nat) (iC:Nat->fi):fi×St:=
 (D3 (m3 n s.nx m) (iC 0),⟨Oi iC (m3 n s.nx m) s.nx (az (m-1))++s.rows,s.nx+(m-1)⟩)
def St.Ct (s:St) (n:Nat):Option fi:=
 match s.get n with
 |some .gone=>av
 |o=>o
def T4 {s:St} {n:Nat} {o:fi} (h:s.Ct n=au o):s.get n=au o/\o≠.gone:=by
 unfold St.Ct at h;split at h
 ·cases h
 ·rename_i ji;exact⟨h,λe=>ji (e▸h)⟩
def tK (m:Nat):NM->Bool
 |[]=>bv
 |(p,_)::l=>bif ax p m then tK m l else bz
def mK {m:Nat}:∀{π:NM},tK m π=bv->∀p n,z8 p π=au n->p<m
 |[],h,p,n,e=>by cases e
 |(q,r)::l,h,p,n,e=>by
  simp only[tK]at h;cases hb:ax q m
  ·rw[hb]at h;cases h
  ·rw[hb]at h;simp only[z8]at e;cases hq:aw q p
   ·rw[hq]at e;exact mK h p n e
   ·have:=jb hq;subst this;simpa[yf]using hb
def OC (f:Nat->NM->St->(NM->St->Prop)->Prop):List Nat->NM->St->(NM->St->Prop)->Prop
 |[],π,s,K=>K π s
 |j::js,π,s,K=>f j π s λπ s=>OC f js π s K
def A2:fi->Nat->fi->NM->St->(NM->St->Prop)->Prop
 | .gone,_,_,π,s,K=>K π s
 | .vf _ t sz ez i f b m,n,o,π,s,K=>match o with
   | .vf _ t' oA lj i' f' b' m'=>bif aw t t' && aw sz oA then(ez=lj/\i=i'/\f=f'/\b=b')/\(match m,m' with
     |some p,au c=>Kp p c π λπ=>K π s
     |_,_=>False)else False
   | .own t' oA lj=>bif aw t t' && aw sz oA then(ez=lj/\b=bz)/\(match m with
     |some p=>(match z8 p π with
      |none=>K ((p,s.nx)::π) (s.new .Au)
      |some _=>False)
     |none=>False)else False
   |_=>False
 | .cells vs t,n,o,π,s,K=>match o with
   | .cells Ag t'=>bif aw t t' then DE vs Ag π s K else False
   | .qw T m iC x=>bif ay 1 m then(match Kj s n m (iC x)with
     |(.cells Ag t',s')=>bif aw t t' then DE vs Ag π s' K else False
     |_=>False)else False
   |_=>False
 | .own t sz ez,n,o,π,s,K=>match o with
   | .own t' oA lj=>bif aw t t' && aw sz oA then ez=lj/\K π s else False
   | .Au=>ez=[]/\K π s
   |_=>False
 | .vec ds t,n,o,π,s,K=>match o with
   | .cells vs t'=>bif aw t t' then ds.map V.d=vs/\K π s else False
   |o=>fi.vec ds t=o/\K π s
 | .map es,n,o,π,s,K=>match o with
   | .map CV=>es=CV/\K π s
   |_=>False
 | .iter b p,n,o,π,s,K=>match o with
   | .iter b' p'=>b=b'/\p=p'/\K π s
   |_=>False
 | .qw T m iC x,n,o,π,s,K=>match o with
   | .cells vs t=>bif ay 1 m then OC (λj π s K=>match z8 j π with
      |some n'=>match(match j with|0=>au (fi.cells vs t)|_=>s.Ct n')with
       |some o'=>A2 (iC x j) n' o' π (match j with|0=>s|_=>s.Im n' o') K
       |none=>False
      |none=>False) (az m) [(0,n)] s (λπ' s=>bif tK m π' then K π s else False)else False
   |o=>fi.qw T m iC x=o/\K π s
 | .jc sz ez,n,o,π,s,K=>match o with
   | .own t oA lj=>bif aw sz oA then ez=lj/\K π s else False
   |o=>fi.jc sz ez=o/\K π s
 | .jz t T m iC l hole,n,o,π,s,K=>match o with
   | .Au=>l=[]/\hole=av/\K π s
   |o=>fi.jz t T m iC l hole=o/\K π s
 |o',n,o,π,s,K=>o'=o/\K π s
def HD:Nat->List fi->NM->St->(NM->St->Prop)->Prop
 |_,[],π,s,K=>K π s
 |p,.gone::os,π,s,K=>HD (p+1) os π s K
 |p,o::os,π,s,K=>match z8 p π with
  |some n=>match s.Ct n with
   |some o'=>A2 o n o' π (s.Im n o') λπ s=>HD (p+1) os π s K
   |none=>False
  |none=>False
variable {k:Ko} {L:List HP} {w:ab}
def Bm (E:Ev) (π:NM) (n:Nat) (o:fi):HP:=λh=>∀E2 π2,E.le E2->Ext π π2->∀tl,Loc π2 E2.gf tl->∃hd,E2.gf[n]? =au hd/\fm E2.F o tl hd h
def Bm.mono {E E':Ev} {π π':NM} (hle:E.le E') (hx:Ext π π') {n:Nat} {o:fi} {h:PH} (e:Bm E π n o h):Bm E' π' n o h:=λE2 π2 a b tl c=>e E2 π2 (hle.trans a) (hx.trans b) tl c
def z9o:fi->Bool
 | .cells _ _=>bv
 | .vf _ _ _ _ _ _ _ _=>bv
 |_=>bz
def fm.gf {F:PH} {o:fi} (ho:z9o o=bz) {gf oE:List Hd} {hd:Hd} {h:PH} (e:fm F o gf hd h):fm F o oE hd h:=by
 cases o<;>first|(cases ho;done)|(simp only[fm]at e ⊢;exact e)
def gS {E:Ev} {π:NM} {n:Nat} {o:fi} (ho:z9o o=bz) (hg:o≠.gone) {h:PH} (e:gz E (n,o) h):Bm E π n o h:=by
 rcases e with⟨e,_⟩|⟨hd,h1,h2⟩
 ·exact absurd e hg
 ·intro E2 π2 a b tl c;exact⟨hd,a.get h1,(h2.mono a.1 _ a.2).gf ho⟩
mutual
theorem VR.uw {π:NM} {F:PH} {tl gf:List Hd} (hr:∀p n hd,z8 p π=au n->tl[p]? =au hd->gf[n]? =au hd):∀{v:V} {y:aa},VR ⟨F,tl⟩ v y->VR ⟨F,gf⟩ (lC π v) y
 | .top,y,h=>by simp only[lC,VR]
 | .d d,y,h=>by simpa only[lC,VR]using h
 | .nm n o,y,h=>by
   simp only[lC];split
   ·rename_i m hm;simp only[VR]at h ⊢;obtain⟨b,oo,l,h1,h2⟩:=h;exact⟨b,oo,l,hr _ _ _ hm h1,h2⟩
   ·simp only[VR]
 | .el n sz i f,y,h=>by
   simp only[lC];split
   ·rename_i m hm;simp only[VR]at h ⊢;obtain⟨b,oo,mm,c,l,h1,h2⟩:=h;exact⟨b,oo,mm,c,l,hr _ _ _ hm h1,h2⟩
   ·simp only[VR]
 | .re sz ez i f,y,h=>by simpa only[lC,VR]using h
 | .na n o i,y,h=>by simp only[lC,VR]
 | .own n,y,h=>by
   simp only[lC];split
   ·rename_i m hm;simp only[VR]at h ⊢;obtain⟨l,h1,h2⟩:=h;exact⟨l,hr _ _ _ hm h1,h2⟩
   ·simp only[VR]
 | .mp n,y,h=>by
   simp only[lC];split
   ·rename_i m hm;simp only[VR]at h ⊢;obtain⟨b,l,h1,h2⟩:=h;exact⟨b,l,hr _ _ _ hm h1,h2⟩
   ·simp only[VR]
 | .sub n i,y,h=>by
   simp only[lC];split
   ·rename_i m hm;simp only[VR]at h ⊢;obtain⟨hd,l,b,oo,h1,h2⟩:=h;exact⟨hd,l,b,oo,hr _ _ _ hm h1,h2⟩
   ·simp only[VR]
 | .agg l,y,h=>by
   simp only[lC,VR]at h ⊢;obtain⟨ys,h1,h2⟩:=h;exact⟨ys,h1,gw.uw hr h2⟩
 | .ja l,y,h=>by
   simp only[lC,VR]at h ⊢;obtain⟨ys,h1,h2⟩:=h;exact⟨ys,h1,gw.uw hr h2⟩
 | .fn f a b,y,h=>by
   simp only[lC,VR]at h ⊢;obtain⟨as,bs,h1,h2,h3⟩:=h;exact⟨as,bs,h1,gw.uw hr h2,gw.uw hr h3⟩
 | .zo t x,y,h=>by
   simp only[lC,VR]at h ⊢;obtain⟨z,h1,h2⟩:=h;exact⟨z,h1,VR.uw hr h2⟩
theorem gw.uw {π:NM} {F:PH} {tl gf:List Hd} (hr:∀p n hd,z8 p π=au n->tl[p]? =au hd->gf[n]? =au hd):∀{vs:List V} {l:List aa},gw ⟨F,tl⟩ vs l->gw ⟨F,gf⟩ (Hi π vs) l
 |[],l,h=>by simpa only[Hi,gw]using h
 |v::vs,l,h=>by
  simp only[Hi,gw]at h ⊢;obtain⟨x,xs,h1,h2,h3⟩:=h;exact⟨x,xs,h1,VR.uw hr h2,gw.uw hr h3⟩
end
def fm.uw {π:NM} {F:PH} {tl gf:List Hd} (hr:∀p n hd,z8 p π=au n->tl[p]? =au hd->gf[n]? =au hd) {o:fi} {hd:Hd} {h:PH} (e:fm F o tl hd h):fm F (D3 π o) gf hd h:=by
 cases o<;>simp only[D3]<;>first|exact e.gf rfl|skip
 ·simp only[fm]at e ⊢;obtain⟨b,l,h1,h2,h3⟩:=e;exact⟨b,l,h1,h2.uw hr,h3⟩
 ·rename_i q t sz ez i f b m;simp only[fm]at e ⊢;obtain⟨a,k,ys,xs,h1,h2,h3,h4,h5⟩:=e;refine⟨a,k,ys,xs,h1,h2,h3,?_,h5⟩;cases m with
  |none=>exact h4
  |some m=>
   obtain⟨y,l,e1,e2,e3⟩:=h4;simp only[oN];cases hm:z8 m π with
   |none=>exact⟨y,e2,e3⟩
   |some m'=>exact⟨y,l,hr _ _ _ hm e1,e2,e3⟩
def yDo {n nx m j:Nat} (hj:j+1<m):z8 (j+1) (m3 n nx m)=au (nx+j):=by
 unfold m3;simp only[z8,aw,cond_false];have:∀(a c:Nat),a<=j->j<a+c->z8 (j+1) ((bg a c).map λj=>(j+1,nx+j))=au (nx+j):=by
  intro a c
  induction c generalizing a with
  |zero=>intro h1 h2;omega
  |succ c ih=>
   intro h1 h2;simp only[List.range'_succ,jx,z8];cases hb:aw (a+1) (j+1)
   ·have ji:a≠j:=λe=>by subst e;simp at hb
    exact ih (a+1) (by omega) (by omega)
   ·have:=jb hb;have e:a=j:=by omega
    subst e;rfl
 rw[List.range_eq_range'];exact this 0 (m-1) (by omega) (by omega)
def zSt {n nx m p q:Nat} (h:z8 p (m3 n nx m)=au q):(p=0/\q=n)\/∃j,p=j+1/\q=nx+j/\j+1<m:=by
 unfold m3 at h;simp only[z8]at h;cases hb:aw 0 p
 ·rw[hb]at h;right;simp only[cond_false]at h;rw[List.range_eq_range']at h;have:∀(a c:Nat),z8 p ((bg a c).map λj=>(j+1,nx+j))=au q->∃j,p=j+1/\q=nx+j/\j<a+c:=by
   intro a c
   induction c generalizing a with
   |zero=>intro h;simp[z8]at h
   |succ c ih=>
    intro h;simp only[List.range'_succ,jx,z8]at h;cases hb:aw (a+1) p
    ·rw[hb]at h;obtain⟨j,h1,h2,h3⟩:=ih (a+1) h;exact⟨j,h1,h2,by omega⟩
    ·rw[hb]at h;simp only[cond_true,cg]at h;exact⟨a,(jb hb).symm,h.symm,by omega⟩
  obtain⟨j,h1,h2,h3⟩:=this 0 (m-1) h;exact⟨j,h1,h2,by omega⟩
 ·rw[hb]at h;left;simp only[cond_true,cg]at h;exact⟨(jb hb).symm,h.symm⟩
def Rel.unfold {E:Ev} {s:St} {n m:Nat} {T:Type} {iC:T->Nat->fi} {x:T} (R:Rel k (gz E (n,.qw T m iC x)::L) E s w) (hm:1<=m):
 ∃E',E.le E'/\Rel k (gz E' (n,(Kj s n m (iC x)).1)::L) E' (Kj s n m (iC x)).2 w:=by
 have H:=R.out;obtain⟨hd,jw,h1,h2,h3,H⟩:∃hd jw,E.gf[n]? =au hd/\jw[0]? =au hd/\jw.length=m/\
  Hp k w (hS ((az m).map λj=>λh=>∃oL,jw[j]? =au oL/\fm E.F (iC x j) jw oL h)::(s.rows.map (gz E)++fz E.F::L)):=by
  obtain⟨hk,hs,hh⟩:=H;cases hh with
  |cons ha iY GX hr=>
   rcases ha with⟨e,_⟩|⟨hd,q1,q2⟩
   ·cases e
   ·simp only[fm]at q2;obtain⟨jw,q3,q4,q5⟩:=q2;exact⟨hd,jw,q1,q3,q4,hk,_,.cons q5 iY GX hr⟩
 let E':Ev:=⟨E.F,E.gf++jw.drop 1⟩
 have hle:E.le E':=⟨xg.refl _,I9 _ _⟩
 have Aw:∀p q oL,z8 p (m3 n s.nx m)=au q->jw[p]? =au oL->E'.gf[q]? =au oL:=by
  intro p q oL hp ht;rcases zSt hp with⟨rfl,rfl⟩|⟨j,rfl,rfl,hj⟩
  ·rw[h2]at ht;cases ht;exact hle.get h1
  ·show(E.gf++jw.drop 1)[s.nx+j]? =au oL;rw[<- R.nx,B7 (by omega),AZ];rw[show E.gf.length+j-E.gf.length=j by omega,EI];exact ht
 have H2:=(qp.1 H)
 have AA:az m=0::(az (m-1)).map (·+1):=by
  have:m=(m-1)+1:=by omega
  rw[this,List.range_succ_eq_map];simp
 rw[AA]at H2;simp only[jx,wb,uc]at H2;refine⟨E',hle,Rel.Jf (by show(E.gf++jw.drop 1).length=s.nx+(m-1);rw[iv,pd,R.nx,h3]) ?_⟩;have RD:∀l:List Nat,(∀j∈l,j+1<m)->(Oi (iC x) (m3 n s.nx m) s.nx l)=l.map λj=>(s.nx+j,D3 (m3 n s.nx m) (iC x (j+1))):=by
  intro l
  induction l with
  |nil=>intro _;rfl
  |cons j l ih=>intro h;simp only[Oi,jx];rw[ih λj hj=>h j (kg _ hj)]
 have xf:=RD (az (m-1)) (λj hj=>by have:=B5.1 hj;omega);show Hp k w (gz E' (n,D3 (m3 n s.nx m) (iC x 0))::((Oi (iC x) (m3 n s.nx m) s.nx (az (m-1))++s.rows).map (gz E')++fz E.F::L));rw[xf,jr,wb,jh];have H3:Hp k w ((az (m-1)).map ((λj=>λh=>∃oL,jw[j]? =au oL/\fm E.F (iC x j) jw oL h)∘(·+1))++((λh=>∃oL,jw[0]? =au oL/\fm E.F (iC x 0) jw oL h)::(s.rows.map (gz E)++fz E.F::L))):=H2.perm mo.symm
 have H4:=wS (g:=(gz E')∘λj=>(s.nx+j,D3 (m3 n s.nx m) (iC x (j+1)))) (λj y hy=>by
  obtain⟨oL,e1,e2⟩:=hy;right;have hj:j+1<m:=by
   have:=(jv.1 e1).1;simp only at this;omega
  exact⟨oL,Aw _ _ _ (yDo hj) e1,e2.uw Aw⟩) H3
 have H5:=H4.perm mo;have H6:=H5.imp (B:=gz E' (n,D3 (m3 n s.nx m) (iC x 0))) (λy hy=>by
  obtain⟨oL,e1,e2⟩:=hy;right;rw[h2]at e1;cases e1;exact⟨hd,hle.get h1,e2.uw Aw⟩)
 have H7:Hp k w (s.rows.map (gz E)++(gz E' (n,D3 (m3 n s.nx m) (iC x 0))::((az (m-1)).map ((gz E')∘λj=>(s.nx+j,D3 (m3 n s.nx m) (iC x (j+1))))++fz E.F::L))):=by
  refine H6.perm ?_;refine List.Perm.trans ?_ mo.symm;refine .cons _ ?_;rw[<- jh,<- jh];exact A0.append_right _
 have H8:=wS (λr y=>gz.mono hle r) H7;refine H8.perm ?_;refine mo.trans (.cons _ ?_);rw[<- jh,<- jh];exact A0.append_right _
def yFf {n p q:Nat} (h:z8 p [(0,n)]=au q):p=0/\q=n:=by
 simp only[z8]at h;cases hb:aw 0 p
 ·rw[hb]at h;cases h
 ·rw[hb]at h;simp only[cond_true,cg]at h;exact⟨(jb hb).symm,h.symm⟩
def yVx (o':fi):Prop:=∀{k:Ko} {L:List HP} {w:ab} {n:Nat} {o:fi} {π:NM} {s:St} {K:NM->St->Prop} {E:Ev},A2 o' n o π s K->Rel k (gz E (n,o)::L) E s w->Ap π E.gf->o≠.gone->
 ∃E' π' s',wx k (Bm E' π' n o'::L) w E π E' π' s'/\K π' s'
def PJ (g:Nat->fi) (E:Ev) (π:NM) (j:Nat):HP:=λh=>∃n,z8 j π=au n/\Bm E π n (g j) h
def PJ.mono {g:Nat->fi} {E E':Ev} {π π':NM} (hle:E.le E') (hx:Ext π π') {j:Nat} {h:PH} (e:PJ g E π j h):PJ g E' π' j h:=by
 obtain⟨n,h1,h2⟩:=e;exact⟨n,hx _ _ h1,h2.mono hle hx⟩
def Rel.aam {α:Type} {f g:α->HP} (h:∀a x,f a x->g a x) {l:List α} {E:Ev} {s:St} (R:Rel k (l.map f++L) E s w):Rel k (l.map g++L) E s w:=by
 refine⟨R.nx,?_⟩;have H:Hp k w (l.map f++(s.rows.map (gz E)++fz E.F::L)):=by
  refine R.hp.perm ?_;rw[show s.rows.map (gz E)++fz E.F::(l.map f++L)=(s.rows.map (gz E)++[fz E.F])++(l.map f++L)by simp,<- jh,show l.map f++(s.rows.map (gz E)++fz E.F::L)=(l.map f++(s.rows.map (gz E)++[fz E.F]))++L by simp];exact A0.append_right _
 have H2:=wS h H;refine H2.perm ?_;rw[show s.rows.map (gz E)++fz E.F::(l.map g++L)=((s.rows.map (gz E)++[fz E.F])++l.map g)++L by simp,show l.map g++(s.rows.map (gz E)++fz E.F::L)=(l.map g++(s.rows.map (gz E)++[fz E.F]))++L by simp];exact A0.append_right _
def Rel.AB {E:Ev} {s:St} {A:List HP} (R:Rel k (A++L) E s w):Hp k w (A++(s.rows.map (gz E)++fz E.F::L)):=by
 refine R.hp.perm ?_;rw[show s.rows.map (gz E)++fz E.F::(A++L)=(s.rows.map (gz E)++[fz E.F])++(A++L)by simp,<- jh,show A++(s.rows.map (gz E)++fz E.F::L)=(A++(s.rows.map (gz E)++[fz E.F]))++L by simp];exact A0.append_right _
def z1d {g:Nat->fi} (hg:∀j,yVx (g j)) {c:Option fi}:∀{js:List Nat} {done:List Nat} {π:NM} {s:St} {K:NM->St->Prop} {E:Ev},(0∉js)->
 OC (λj π s K=>match z8 j π with
  |some n'=>match(match j with|0=>c|_=>s.Ct n')with
   |some o'=>A2 (g j) n' o' π (match j with|0=>s|_=>s.Im n' o') K
   |none=>False
  |none=>False) js π s K->Rel k (done.map (PJ g E π)++L) E s w->Ap π E.gf->
 ∃E' π' s',wx k ((js.reverse++done).map (PJ g E' π')++L) w E π E' π' s'/\K π' s'
 |[],done,π,s,K,E,h0,h,R,hw=>⟨E,π,s,⟨Ev.le.refl _,Ext.refl _,hw,by simpa using R⟩,h⟩
 |j::js,done,π,s,K,E,h0,h,R,hw=>by
  simp only[OC]at h;split at h<;>first|exact h.elim|skip
  rename_i n' Vi;cases j with
  |zero=>exact absurd jm h0
  |succ j=>
   simp only at h;split at h<;>first|exact h.elim|skip
   rename_i o' oG;obtain⟨oG,RP⟩:=T4 oG
   ·have R1:=R.gl oG;obtain⟨E1,π1,s1,q1,q2⟩:=hg (j+1) h R1 hw RP;have R2:Rel k (((j+1)::done).map (PJ g E1 π1)++L) E1 s1 w:=by
     have R3:=q1.rel.qg (B:=PJ g E1 π1 (j+1)) λx hx=>⟨n',q1.ext _ _ Vi,hx⟩
     have R4:Rel k (done.map (PJ g E π)++(PJ g E1 π1 (j+1)::L)) E1 s1 w:=⟨R3.nx,R3.hp.perm (by
      refine cd _ (.cons _ ?_);exact mo.symm)⟩
     have R5:=R4.aam (g:=PJ g E1 π1) λa x hx=>hx.mono q1.le q1.ext
     exact⟨R5.nx,R5.hp.perm (by
      refine cd _ (.cons _ ?_);exact mo)⟩
    obtain⟨E2,π2,s2,r1,r2⟩:=z1d hg (λhm=>h0 (kg _ hm)) q2 R2 q1.wf;refine⟨E2,π2,s2,⟨q1.le.trans r1.le,q1.ext.trans r1.ext,r1.wf,?_⟩,r2⟩;have:=r1.rel;simpa using this
def yOk {E:Ev}:∀{ds:List D} {l:List aa},gw E (ds.map V.d) l->iF E.F ds l
 |[],l,h=>by simpa only[CG,gw,iF]using h
 |d::ds,l,h=>by
  simp only[jx,gw,VR]at h;obtain⟨x,xs,h1,h2,h3⟩:=h;simp only[iF];exact⟨x,xs,h1,h2,yOk h3⟩
def yYj:∀o',yVx o':=by
 intro o'
 induction o' with
 |gone=>
  intro k L w n o π s K E h R hw hg;simp only[A2]at h;have H:=R.out;refine⟨E,π,s,⟨Ev.le.refl _,Ext.refl _,hw,?_⟩,h⟩;obtain⟨hd,x,q1,_,_⟩:∃hd x,E.gf[n]? =au hd/\fm E.F o E.gf hd x/\Sub x w:=by
   obtain⟨x,hx,hs⟩:=H.sat;rcases hx with⟨e,_⟩|⟨hd,h1,h2⟩
   ·exact absurd e hg
   ·exact⟨hd,x,h1,h2,hs⟩
  refine Rel.Jf R.nx (((@h9 k w True _).2 ⟨trivial,H.drop⟩).imp λx hx=> ?_);intro E2 π2 a b tl c;exact⟨hd,a.get q1,by simp only[fm];exact hx.2⟩
 |vf q t sz ez i f b m=>
  intro k L w n o π s K E h R hw hg;simp only[A2]at h;split at h<;>first|exact h.elim|skip
  ·rename_i q' t' oA lj i' f' b' m';have hh:=zK h;clear h;obtain⟨hb,⟨rfl,rfl,rfl,rfl⟩,h⟩:=hh;simp only[lr]at hb;have e1:=jb hb.1;have e2:=jb hb.2;subst e1 e2;split at h<;>first|exact h.elim|skip
   rename_i p c;obtain⟨hdc,hc⟩:∃hd,E.gf[c]? =au hd:=by
    obtain⟨x,hx,_⟩:=R.out.sat;rcases hx with⟨e,_⟩|⟨hd,h1,h2⟩
    ·cases e
    simp only[fm]at h2;obtain⟨A,k',ys,xs,e1,e2,e3,⟨y,l,e4,_⟩,_⟩:=h2;exact⟨_,e4⟩
   obtain⟨π',q1,q2,q3,q4⟩:=pR h hw hc;refine⟨E,π',s,⟨Ev.le.refl _,q1,q2,R.qg λx hx=> ?_⟩,q4⟩;rcases hx with⟨e,_⟩|⟨hd,h1,h2⟩
   ·cases e
   intro E2 π2 a b' tl hl;refine⟨hd,a.get h1,?_⟩;simp only[fm]at h2 ⊢;obtain⟨A,k',ys,xs,e1,e2,e3,⟨y,l,e4,e5⟩,e6⟩:=h2;obtain⟨oL,r1,r2⟩:=hl p c (b' p c q3);rw[a.get e4]at r1;cases r1;exact⟨A,k',ys,xs,e1,e2.mono a.1,e3,⟨y,l,r2,e5⟩,e6⟩
  ·rename_i t' oA lj;have hh:=zK h;clear h;obtain⟨hb,⟨rfl,rfl⟩,h⟩:=hh;simp only[lr]at hb;have e1:=jb hb.1;have e2:=jb hb.2;subst e1 e2;split at h<;>first|exact h.elim|skip
   rename_i p;split at h<;>first|exact h.elim|skip
   rename_i hm;obtain⟨E',r1,r2,r3⟩:=R.FL;have yx:z8 p ((p,s.nx)::π)=au s.nx:=by simp[z8]
   refine⟨E',_,_,⟨r1,λq m e=> ?_,λq m e=> ?_,r2.qg λx hx=> ?_⟩,h⟩
   ·simp only[z8];cases hb:aw p q
    ·exact e
    ·have:=jb hb;subst this;rw[hm]at e;cases e
   ·simp only[z8]at e;cases hb:aw p q
    ·rw[hb]at e;obtain⟨hd,h'⟩:=hw q m e;exact⟨hd,r1.get h'⟩
    ·rw[hb]at e;cases e;exact⟨_,r3⟩
   rcases hx with⟨e,_⟩|⟨hd,h1,h2⟩
   ·cases e
   intro E2 π2 a b' tl hl;refine⟨hd,a.get (r1.get h1),?_⟩;simp only[fm]at h2 ⊢;obtain⟨A,k',xs,e1,e2,e3,e4⟩:=h2;obtain⟨oL,z1,z2⟩:=hl p _ (b' p _ yx);rw[a.get r3]at z1;cases z1;exact⟨A,k',xs,xs,e1,(e2.mono r1.1).mono a.1,e3,⟨_,_,z2,⟨av,0,0,rfl⟩,rfl⟩,e4⟩
 |Au=>
  intro k L w n o π s K E h R hw hg;simp only[A2]at h;obtain⟨rfl,h⟩:=h;exact⟨E,π,s,⟨Ev.le.refl _,Ext.refl _,hw,R.qg λx hx=>gS rfl (by simp) hx⟩,h⟩
 |jc sz ez=>
  intro k L w n o π s K E h R hw hg;simp only[A2]at h;split at h
  ·rename_i t oA lj;obtain⟨hb,e9,hK⟩:=zK h;subst e9;have e:=jb hb;subst e;have H:Hp k w (gz E (n,.own t sz ez)::fz E.F::(s.rows.map (gz E)++L)):=R.out.cons mo;obtain⟨x,hx,hd,iY,H⟩:=We H;rcases hx with⟨e,_⟩|⟨hv,h1,h2⟩
   ·cases e
   simp only[fm]at h2;obtain⟨a,c,xs,h3,h4,h5,h6⟩:=h2;have hle:E.le ⟨un x E.F,E.gf⟩:=⟨ZW hd,I6 _⟩
   have PK:DR (un x E.F) (.ro sz ez) hv.1:=by
    simp only[DR];refine⟨a,c,h3,(SY h6).2,h5,?_⟩;rcases h6 with⟨rfl,q2,rfl,rfl,rfl⟩|⟨b,r,rfl,rfl,q3,q4,q5⟩
    ·exact .inl (yh q2)
    ·refine .inr ⟨b,0,xs++r,t,(0,0),rfl,?_,oR.2 ⟨xs,r,rfl,h4.mono hle.1⟩⟩;simp[un,one]
   have H1:Hp k w (s.rows.map (gz E)++fz (un x E.F)::L):=H.perm mo.symm;have H2:=wS (λr x=>gz.mono hle r) H1;have H3:=yOa H2;refine⟨⟨un x E.F,E.gf⟩,π,s,⟨hle,Ext.refl _,hw,Rel.Jf R.nx (H3.imp λy hy=> ?_)⟩,hK⟩;intro E2 π2 a1 b1 tl c1;refine⟨hv,a1.get h1,?_⟩;simp only[fm];exact⟨hy,PK.mono a1.1⟩
  ·obtain⟨rfl,h⟩:=h;exact⟨E,π,s,⟨Ev.le.refl _,Ext.refl _,hw,R.qg λx hx=>gS rfl (by simp) hx⟩,h⟩
 |jz t T m iC l hole ih=>
  intro k L w n o π s K E h R hw hg;simp only[A2]at h;split at h
  ·obtain⟨rfl,rfl,h⟩:=h;refine⟨E,π,s,⟨Ev.le.refl _,Ext.refl _,hw,R.qg λx hx=>gS (o:= .jz t T m iC [] av) rfl (by simp) ?_⟩,h⟩;rcases hx with⟨e,_⟩|⟨hd,h1,h2⟩
   ·cases e
   ·simp only[fm]at h2;obtain⟨rfl,e1,e2⟩:=h2;refine .inr ⟨hd,h1,qq.2 ⟨av,0,e1,by rw[e2];rfl,λp hp=>(by rw[e2]at hp;exact(nomatch hp)),pe,pe,by rw[e2];exact z8q t 1,rfl,?_,?_⟩⟩
    ·intro b;exact .inl rfl
    ·funext b;rfl
  ·obtain⟨rfl,h⟩:=h;exact⟨E,π,s,⟨Ev.le.refl _,Ext.refl _,hw,R.qg λx hx=>gS rfl (by simp) hx⟩,h⟩
 |vec ds t=>
  intro k L w n o π s K E h R hw hg;simp only[A2]at h;split at h
  ·obtain⟨hb,e9,hK⟩:=zK h;subst e9;have e:=jb hb;subst e;refine⟨E,π,s,⟨Ev.le.refl _,Ext.refl _,hw,R.qg λx hx=>gS (o:= .vec ds t) rfl (by simp) ?_⟩,hK⟩;rcases hx with⟨e,_⟩|⟨hd,h1,h2⟩
   ·cases e
   ·simp only[fm]at h2;obtain⟨b,l,e1,e2,e3⟩:=h2;refine .inr ⟨hd,h1,?_⟩;simp only[fm];exact⟨b,l,e1,yOk e2,e3⟩
  ·obtain⟨rfl,h⟩:=h;exact⟨E,π,s,⟨Ev.le.refl _,Ext.refl _,hw,R.qg λx hx=>gS rfl (by simp) hx⟩,h⟩
 |map es=>
  intro k L w n o π s K E h R hw hg;simp only[A2]at h;split at h<;>first|exact h.elim|skip
  obtain⟨rfl,h⟩:=h;exact⟨E,π,s,⟨Ev.le.refl _,Ext.refl _,hw,R.qg λx hx=>gS rfl (by simp) hx⟩,h⟩
 |Cl es kv x=>
  intro k L w n o π s K E h R hw hg;simp only[A2]at h;obtain⟨rfl,h⟩:=h;exact⟨E,π,s,⟨Ev.le.refl _,Ext.refl _,hw,R.qg λx hx=>gS rfl (by simp) hx⟩,h⟩
 |GJ t ez=>
  intro k L w n o π s K E h R hw hg;simp only[A2]at h;obtain⟨rfl,h⟩:=h;exact⟨E,π,s,⟨Ev.le.refl _,Ext.refl _,hw,R.qg λx hx=>gS rfl (by simp) hx⟩,h⟩
 |iter b p=>
  intro k L w n o π s K E h R hw hg;simp only[A2]at h;split at h<;>first|exact h.elim|skip
  obtain⟨rfl,rfl,h⟩:=h;exact⟨E,π,s,⟨Ev.le.refl _,Ext.refl _,hw,R.qg λx hx=>gS rfl (by simp) hx⟩,h⟩
 |own t sz ez=>
  intro k L w n o π s K E h R hw hg;simp only[A2]at h;split at h<;>first|exact h.elim|skip
  ·obtain⟨hb,rfl,hk⟩:=zK h;simp only[lr]at hb;have e1:=jb hb.1;have e2:=jb hb.2;subst e1 e2;exact⟨E,π,s,⟨Ev.le.refl _,Ext.refl _,hw,R.qg λx hx=>gS rfl (by simp) hx⟩,hk⟩
  ·obtain⟨rfl,h⟩:=h;refine⟨E,π,s,⟨Ev.le.refl _,Ext.refl _,hw,R.qg λx hx=> ?_⟩,h⟩;rcases hx with⟨e,_⟩|⟨hd,h1,h2⟩
   ·cases e
   ·intro E2 π2 a b tl c;simp only[fm]at h2;refine⟨hd,a.get h1,?_⟩;simp only[fm];exact⟨av,0,[],h2.2.1,by simp[iF],by simp,.inl ⟨rfl,rfl,rfl,rfl,h2.1⟩⟩
 |cells vs t=>
  intro k L w n o π s K E h R hw hg;have key:∀{E:Ev} {s:St} {Ag:List V} {π:NM},Rel k (gz E (n,.cells Ag t)::L) E s w->Ap π E.gf->DE vs Ag π s K->∃E' π' s',wx k (Bm E' π' n (.cells vs t)::L) w E π E' π' s'/\K π' s':=by
   intro E s Ag π R hw h;have H:=R.out;obtain⟨b,l,sub,h1,h2,H⟩:∃b l sub,E.gf[n]? =au (.pointer (au ⟨b,0,av⟩),sub)/\gw E Ag l/\Hp k w (pt b (.cells l.toArray t)::(s.rows.map (gz E)++fz E.F::L)):=by
    obtain⟨hk,hs,hh⟩:=H;cases hh with
    |cons ha iY GX hr=>
     rcases ha with⟨e,_⟩|⟨⟨hv,sub⟩,q1,q2⟩
     ·cases e
     ·simp only[fm]at q2;obtain⟨b,l,rfl,q3,rfl⟩:=q2;exact⟨b,l,sub,q1,q3,hk,_,.cons rfl iY GX hr⟩
   have R1:Rel k (pt b (.cells l.toArray t)::L) E s w:=Rel.Jf R.nx H;obtain⟨E',π',s',q1,q2,q3⟩:=lP h R1 hw h2;refine⟨E',π',s',⟨q1.le,q1.ext,q1.wf,q1.rel.qg λx hx=> ?_⟩,q3⟩;intro E2 π2 a b' tl c;refine⟨_,a.get (q1.le.get h1),?_⟩;simp only[fm];exact⟨b,l,rfl,q2 E2 π2 a b' tl c,hx⟩
  simp only[A2]at h;split at h<;>first|exact h.elim|skip
  ·obtain⟨hb,hk⟩:=zK h;have e:=jb hb;subst e;exact key R hw hk
  ·rename_i T m iC x;obtain⟨hb,h⟩:=zK h;obtain⟨E1,q1,q2⟩:=R.unfold (BL hb);revert q2 h;generalize Kj s n m (iC x)=u;obtain⟨u1,u2⟩:=u;intro h q2;simp only at h q2;split at h<;>first|exact h.elim|skip
   rename_i Ag t' s' heq;cases heq;obtain⟨hb,hk⟩:=zK h;have e:=jb hb;subst e;obtain⟨E',π',s2,r1,r2⟩:=key q2 (hw.mono q1) hk;exact⟨E',π',s2,⟨q1.trans r1.le,r1.ext,r1.wf,r1.rel⟩,r2⟩
 |qw T m iC x ih=>
  intro k L w n o π s K E h R hw hg;unfold A2 at h;split at h
  ·rename_i vs t;obtain⟨hb,h⟩:=zK h;have hm:=BL hb;have AA:az m=0::(az (m-1)).map (·+1):=by
    have:m=(m-1)+1:=by omega
    rw[this,List.range_succ_eq_map];simp
   obtain⟨hd,hd1⟩:∃hd,E.gf[n]? =au hd:=by
    obtain⟨x,hx,_⟩:=R.out.sat;rcases hx with⟨e,_⟩|⟨hd,h1,_⟩
    ·cases e
    ·exact⟨hd,h1⟩
   have Pg:Ap [(0,n)] E.gf:=λp q e=>by
    obtain⟨_,rfl⟩:=yFf e;exact⟨hd,hd1⟩
   rw[AA]at h;simp only[OC]at h;have yx:z8 0 [(0,n)]=au n:=rfl;rw[yx]at h;simp only at h;obtain⟨E1,π1,s1,q1,q2⟩:=ih x 0 h R Pg (by simp);have R2:Rel k ([0].map (PJ (iC x) E1 π1)++L) E1 s1 w:=q1.rel.qg λy hy=>⟨n,q1.ext _ _ yx,hy⟩
   obtain⟨E2,π2,s2,r1,r2⟩:=z1d (λj=>ih x j) (c:=au (fi.cells vs t)) (by simp) q2 R2 q1.wf;have hle:=q1.le.trans r1.le;obtain⟨gv,r2⟩:=zK r2;refine⟨E2,π,s2,⟨hle,Ext.refl _,hw.mono hle,?_⟩,r2⟩;have H:=r1.rel.AB;have H2:Hp k w ((az m).map (PJ (iC x) E2 π2)++(s2.rows.map (gz E2)++fz E2.F::L)):=by
    refine H.perm (ce _ (List.Perm.map _ ?_));rw[AA];refine(List.reverse_perm _).append_right _|>.trans ?_
    exact A0
   refine Rel.Jf r1.rel.nx ((qp.2 H2).imp λy hy=> ?_);intro E3 π3 a b tl c;have vj:∀j,j<m->∃n,z8 j π2=au n:=by
    intro j hj;have hs:∀{l:List HP} {y:PH},hS l y->∀A∈l,∃z,A z:=by
     intro l
     induction l with
     |nil=>intro y _ A hA;cases hA
     |cons B l ih=>
      intro y hy A hA;cases l with
      |nil=>rcases vm.1 hA with rfl;exact⟨y,hy⟩
      |cons C l=>
       obtain⟨g,g',h1,h2,_,_⟩:=hy;rcases mn.1 hA with rfl|hA
       ·exact⟨g,h1⟩
       ·exact ih h2 A hA
    obtain⟨z,n,hz,_⟩:=hs hy (PJ (iC x) E2 π2 j) (pj.2 ⟨j,B5.2 hj,rfl⟩);exact⟨n,hz⟩
   let jw:List Hd:=(az m).map λj=>(E3.gf[(z8 j π2).getD 0]?).getD (af,[])
   have Qt:∀j n,j<m->z8 j π2=au n->∃hd,E3.gf[n]? =au hd/\jw[j]? =au hd:=by
    intro j n hj hn;obtain⟨hd,h'⟩:=r1.wf j n hn;refine⟨hd,a.get h',?_⟩;show((az m).map _)[j]? =_;rw[vc,KT hj];simp only[we,hn,zm,a.get h']
   have sy:Loc π2 E3.gf jw:=λp q e=>Qt p q (mK gv p q e) e
   refine⟨hd,a.get (hle.get hd1),?_⟩;simp only[fm];refine⟨jw,?_,by simp[jw],?_⟩
   ·have h0:z8 0 π2=au n:=r1.ext _ _ (q1.ext _ _ yx);obtain⟨oL,e1,e2⟩:=Qt 0 n (by omega) h0;rw[a.get (hle.get hd1)]at e1;cases e1;exact e2
   ·refine Ks ?_ hy;rintro j z ⟨nj,hj,hz⟩;obtain⟨oL,e1,e2⟩:=hz E3 π2 a (Ext.refl _) jw sy;obtain⟨zq,e3,e4⟩:=sy j nj hj;rw[e1]at e3;cases e3;exact⟨oL,e4,e2⟩
  ·obtain⟨rfl,h⟩:=h;exact⟨E,π,s,⟨Ev.le.refl _,Ext.refl _,hw,R.qg λx hx=>gS rfl (by simp) hx⟩,h⟩
variable {k:Ko} {L:List HP} {w:ab}
def gF:Nat->List fi->List (Nat×fi)
 |_,[]=>[]
 |p,o::os=>(p,o)::gF (p+1) os
def PQ (E:Ev) (π:NM) (r:Nat×fi):HP:=λh=>(r.2= .gone/\h=pe)\/∃n,z8 r.1 π=au n/\Bm E π n r.2 h
def PQ.mono {E E':Ev} {π π':NM} (hle:E.le E') (hx:Ext π π') (r:Nat×fi) {h:PH} (e:PQ E π r h):PQ E' π' r h:=by
 rcases e with e|⟨n,h1,h2⟩
 ·exact .inl e
 ·exact .inr ⟨n,hx _ _ h1,h2.mono hle hx⟩
def Sm:∀{os:List fi} {p:Nat} {π:NM} {s:St} {K:NM->St->Prop} {E:Ev} {L:List HP},HD p os π s K->Rel k L E s w->Ap π E.gf->
 ∃E' π' s',wx k ((gF p os).map (PQ E' π')++L) w E π E' π' s'/\K π' s'
 |[],p,π,s,K,E,L,h,R,hw=>⟨E,π,s,⟨Ev.le.refl _,Ext.refl _,hw,R⟩,h⟩
 |o::os,p,π,s,K,E,L,h,R,hw=>by
  have fin:∀{E1:Ev} {π1:NM} {s1:St},wx k (PQ E1 π1 (p,o)::L) w E π E1 π1 s1->HD (p+1) os π1 s1 K->∃E' π' s',wx k ((gF p (o::os)).map (PQ E' π')++L) w E π E' π' s'/\K π' s':=by
   intro E1 π1 s1 q1 q2;obtain⟨E2,π2,s2,r1,r2⟩:=Sm q2 q1.rel q1.wf;refine⟨E2,π2,s2,⟨q1.le.trans r1.le,q1.ext.trans r1.ext,r1.wf,?_⟩,r2⟩;have R3:=r1.rel;have R4:Rel k (PQ E1 π1 (p,o)::((gF (p+1) os).map (PQ E2 π2)++L)) E2 s2 w:=⟨R3.nx,R3.hp.perm (by
    refine cd _ (.cons _ ?_);exact mo)⟩
   exact R4.qg λx hx=>hx.mono r1.le r1.ext
  cases o with
  |gone=>
   simp only[HD]at h;refine fin ⟨Ev.le.refl _,Ext.refl _,hw,?_⟩ h;exact Rel.Jf R.nx (((@h9 k w True _).2 ⟨trivial,R.hp⟩).imp λx hx=> .inl ⟨rfl,hx.2⟩)
  |_=>
   simp only[HD]at h;split at h<;>first|exact h.elim|skip
   rename_i n hn;split at h<;>first|exact h.elim|skip
   rename_i o' oG;obtain⟨oG,hg⟩:=T4 oG;obtain⟨E1,π1,s1,q1,q2⟩:=yYj _ h (R.gl oG) hw hg;exact fin ⟨q1.le,q1.ext,q1.wf,q1.rel.qg λx hx=> .inr ⟨n,q1.ext _ _ hn,hx⟩⟩ q2
structure Alt where
 o:Type
 res:o->V
 post:o->List fi
 rel:o->Prop
structure gi where
 ι:Type
 pat:ι->List V
 pre:ι->List fi
 dq:ι->Prop
 alts:ι->List Alt
def Hr (m nx:Nat):Nat->NM->NM
 |0,π=>π
 |q+1,π=>Hr m nx q ((m+q,nx+q)::π)
def kE (π:NM):Nat->List fi->List (Nat×fi)
 |_,[]=>[]
 |p,.gone::os=>kE π (p+1) os
 |p,o::os=>match z8 p π with
  |some n=>(n,D3 π o)::kE π (p+1) os
  |none=>kE π (p+1) os
def yXu (m:Nat) (π:NM) (s:St) (os:List fi):St:=⟨kE (Hr m s.nx (os.length-m) π) 0 os++s.rows,s.nx+(os.length-m)⟩
def y0e (m:Nat) (π:NM) (s:St) (K:V->St->Prop) (a:Alt):Prop:=
 ∀o,a.rel o->bif ay m (a.post o).length then K (lC (Hr m s.nx ((a.post o).length-m) π) (a.res o)) (yXu m π s (a.post o))else False
def yMy (m:Nat) (π:NM) (s:St) (K:V->St->Prop):List Alt->Prop
 |[]=>True
 |[a]=>y0e m π s K a
 |a::l=>y0e m π s K a/\yMy m π s K l
def zVt {m:Nat} {π:NM} {s:St} {K:V->St->Prop}:∀{l:List Alt},yMy m π s K l->∀a∈l,y0e m π s K a
 |[],_,a,ha=>by cases ha
 |[b],h,a,ha=>by rcases vm.1 ha with rfl;exact h
 |b::c::l,h,a,ha=>by
  rcases mn.1 ha with rfl|ha
  ·exact h.1
  ·exact zVt h.2 a ha
def gi.call (C:gi) (args:List V) (s:St) (K:V->St->Prop):Prop:=
 ∃i:C.ι,DE (C.pat i) args [] s λπ s=>HD 0 (C.pre i) π s λπ s=>bif tK (C.pre i).length π then C.dq i/\yMy (C.pre i).length π s K (C.alts i)else False
def gi.ok (P:ae) (f:ap) (C:gi):Prop:=∀i,C.dq i->∀(k:Ko) (L:List HP) (E:Ev) (w:ab) (ys:List aa),Rel k L E ⟨gF 0 (C.pre i),(C.pre i).length⟩ w->gw E (C.pat i) ys->
 nf P (ag f ys.toArray) w λy w'=>∃a∈C.alts i,∃o,a.rel o/\∃E',E.le E'/\VR E' (a.res o) y/\Rel k L E' ⟨gF 0 (a.post o),(a.post o).length⟩ w'
def zUv {m nx:Nat} {p n:Nat}:∀{q:Nat} {π:NM},z8 p (Hr m nx q π)=au n->z8 p π=au n\/(m<=p/\n=nx+(p-m))
 |0,π,h=> .inl h
 |q+1,π,h=>by
  simp only[Hr]at h;rcases zUv (q:=q) h with h|h
  ·simp only[z8]at h;cases hb:aw (m+q) p
   ·rw[hb]at h;exact .inl h
   ·rw[hb]at h;have:=jb hb;simp only[cond_true,cg]at h;exact .inr ⟨by omega,by omega⟩
  ·exact .inr h
def nZ {π:NM} {E E2:Ev} (hF:E.F=E2.F) (hr:∀p n hd,z8 p π=au n->E.gf[p]? =au hd->E2.gf[n]? =au hd) {M:List HP}:∀{os:List fi} {p:Nat},Hp k w ((gF p os).map (gz E)++M)->Hp k w ((kE π p os).map (gz E2)++M)
 |[],p,H=>H
 |o::os,p,H=>by
  simp only[gF,jx,uc]at H;have drop:Hp k w ((kE π (p+1) os).map (gz E2)++M):=nZ hF hr H.drop;have main:∀n,z8 p π=au n->Hp k w (gz E2 (n,D3 π o)::((kE π (p+1) os).map (gz E2)++M)):=by
   intro n hn;have H1:Hp k w ((gF (p+1) os).map (gz E)++(gz E (p,o)::M)):=H.perm mo.symm;have H2:=nZ hF hr H1;refine(H2.perm mo).imp λx hx=> ?_
   rcases hx with⟨e,e2⟩|⟨hd,h1,h2⟩
   ·left;simp only at e;subst e;exact⟨rfl,e2⟩
   ·right;exact⟨hd,hr _ _ _ hn h1,hF▸h2.uw hr⟩
  cases o with
  |gone=>simpa only[kE]using drop
  |_=>
   simp only[kE];split
   ·rename_i n hn;exact main n hn
   ·exact drop
def gi.ye {P:ae} {f:ap} {C:gi} (hC:C.ok P f) {args:List V} {s:St} {K:V->St->Prop} {E:Ev} {ys:List aa} (h:C.call args s K) (R:Rel k L E s w) (hv:gw E args ys):
 nf P (ag f ys.toArray) w (o7 k L E K):=by
 obtain⟨i,h⟩:=h;have Pg:Ap [] E.gf:=λp n e=>by cases e
 obtain⟨E1,π1,s1,q1,q2,q3⟩:=lP h R Pg hv;obtain⟨E2,π2,s2,r1,r2⟩:=Sm q3 q1.rel q1.wf;obtain⟨gv,hc,ha⟩:=zK r2;have gv:=mK gv
 let m:=(C.pre i).length
 let tl:List Hd:=(az m).map λp=>(E2.gf[(z8 p π2).getD 0]?).getD (af,[])
 have sy:Loc π2 E2.gf tl:=by
  intro p n hp;obtain⟨hd,h'⟩:=r1.wf p n hp;refine⟨hd,h',?_⟩;show((az m).map _)[p]? =_;rw[vc,KT (gv p n hp)];simp only[we,hp,zm,h']
 have HF:tl.length=m:=by simp[tl]
 have H:=r1.rel.AB;have H1:=wS (g:=gz ⟨E2.F,tl⟩) (λr x hx=>by
  rcases hx with⟨e1,e2⟩|⟨n,h1,h2⟩
  ·exact .inl ⟨e1,e2⟩
  ·right;obtain⟨hd,h3,h4⟩:=h2 E2 π2 (Ev.le.refl _) (Ext.refl _) tl sy;obtain⟨oL,h5,h6⟩:=sy _ _ h1;rw[h3]at h5;cases h5;exact⟨hd,h6,h4⟩) H
 have R0:Rel k (s2.rows.map (gz E2)++L) ⟨E2.F,tl⟩ ⟨gF 0 (C.pre i),(C.pre i).length⟩ w:=⟨HF,H1.perm (cd _ mo)⟩
 have U9:gw ⟨E2.F,tl⟩ (C.pat i) ys:=q2 E2 π2 r1.le r1.ext tl sy;refine(hC i hc k _ _ w ys R0 U9).mono ?_;rintro y w' ⟨a,ha',o,Lp,E3,hle,Pj,R3⟩;obtain⟨hm,hk⟩:=zK (zVt ha a ha' o Lp);have hm:=BL hm
 let q:=(a.post o).length
 have hlen:E3.gf.length=q:=R3.nx
 let E4:Ev:=⟨E3.F,E2.gf++E3.gf.drop m⟩
 have qy:E2.le E4:=⟨hle.1,I9 _ _⟩
 have Aw:∀p n hd,z8 p (Hr m s2.nx (q-m) π2)=au n->E3.gf[p]? =au hd->E4.gf[n]? =au hd:=by
  intro p n hd hp ht;rcases zUv hp with hp|⟨h1,rfl⟩
  ·obtain⟨oL,h5,h6⟩:=sy _ _ hp;have:=SV hle.2 h6;rw[ht]at this;cases this;exact qy.get h5
  ·show(E2.gf++E3.gf.drop m)[s2.nx+(p-m)]? =au hd;rw[<- r1.rel.nx,B7 (by omega),AZ];rw[show m+(E2.gf.length+(p-m)-E2.gf.length)=p by omega];exact ht
 refine⟨E4,_,_,(q1.le.trans r1.le).trans qy,?_,Pj.uw (F:=E3.F) Aw,hk⟩;refine⟨by show(E2.gf++E3.gf.drop m).length=s2.nx+(q-m);rw[iv,pd,r1.rel.nx,hlen],?_⟩;have H2:=nZ (E:=E3) (E2:=E4) rfl Aw R3.hp;have H3:Hp k w' (s2.rows.map (gz E2)++((kE (Hr m s2.nx (q-m) π2) 0 (a.post o)).map (gz E4)++fz E3.F::L)):=by
  refine H2.perm ?_;rw[<- jh];refine List.Perm.trans ?_ (A0.append_right _);rw[jh];exact cd _ mo.symm
 have H4:=wS (g:=gz E4) (λr x=>gz.mono qy r) H3;refine H4.perm ?_;show(s2.rows.map (gz E4)++((kE (Hr m s2.nx (q-m) π2) 0 (a.post o)).map (gz E4)++fz E3.F::L)).Perm ((kE (Hr m s2.nx (q-m) π2) 0 (a.post o)++s2.rows).map (gz E4)++fz E4.F::L);rw[<- jh,jr];exact A0.append_right _
variable {P:ae} {k:Ko} {L:List HP}
def kS (P:ae) (ρ:xA) (op:Op):Nat:=
 match op with
 | .convert s d _=>bif OJ P s && Kr P d then 1 else bif Kr P s && Hk P d then 2 else bif OJ P s && Hk P d then 2 else 0
 | .indexAddr _ x _=>match lz ρ x with
   | .own _=>1
   |_=>0
 | .slice _ x _ _ _=>match lz ρ x with
   | .own _=>2
   |_=>0
 | .binOp _ _ x _ _=>match lz ρ x with
   | .own _=>1
   |_=>0
 | .call c=>match c.callee with
   | .builtin .len=>match CU ρ c.args.toList with
     |[.own _]=>1
     |[.mp _]=>1
     |_=>0
   | .builtin .cap=>0
   | .builtin .min=>0
   | .builtin .max=>0
   |_=>2
 |op=>Su P op
def opS (P:ae) (H:A7) (o:ao) (ρ:xA) (s:St) (K:V->St->Prop):Prop:=
 match kS P ρ o.op with
 |0=>sq P o ρ λv=>K v s
 |1=>sr P o ρ s λv=>K v s
 |_=>se P H o ρ s K
def yEr {H:A7} (hH:HW P H) {E:Ev} {s:St} {w:ab} (R:Rel k L E s w) {ρS:xA} {ρ:Env} (he:ld E ρS ρ) {o:ao} {K:V->St->Prop} (h:opS P H o ρS s K):nf P (ac (ev ρ) o) w (o7 k L E K):=by
 unfold opS at h;split at h
 ·obtain⟨v,y,hk,hv,hf⟩:=z2h he h;exact wA (hf w) ⟨E,v,s,Ev.le.refl _,R,hv,hk⟩
 ·obtain⟨v,y,hk,hv,hf⟩:=WV R he h;exact wA hf ⟨E,v,s,Ev.le.refl _,R,hv,hk⟩
 ·exact z1t hH R he h
def NT (ops:List ao) (g:Option (Nat×Bool)) (ρ:xA) (Y N:xA->Prop):Prop:=
 match g with
 |none=>Y ρ
 |some (j,want)=>
  match Ud ops j with
  |none=>N ρ
  |some d=>
   match ρ d with
   | .d (.v (.bool c))=>gd c want (Y (lE ρ (au d) (.d (.v (.bool want))))) (N (lE ρ (au d) (.d (.v (.bool !want)))))
   | .ja []=>N ρ
   |_=>False
def yFs {ρ:xA} {d:Nat} {v:V} (h:ρ d=v):lE ρ (au d) v=ρ:=by
 funext i;simp only[lE];cases hb:aw i d
 ·rfl
 ·have:=jb hb;subst this;exact h.symm
def sP {ops:List ao} {o:ao} {a:Act} {E:Ev} {ρS:xA} (he:ld E ρS (yM a)) {Y N:xA->Prop} (h:NT ops o.guard ρS Y N):
 if cu o (yielded ops.toArray a.tmps)then Y ρS else N ρS:=by
 unfold NT at h;unfold cu;split at h
 ·rename_i hg;rw[hg];exact h
 ·rename_i j want hg;rw[hg];have hy:=zHf ops a.tmps j;split at h
  ·rename_i hd;rw[hd]at hy;simp only[hy];simpa using h
  ·rename_i d hd;rw[hd]at hy;simp only[hy];have hv:yM a d=(a.tmps[d]?).getD af:=by simp[yM,B8]
   have E8:=he d;rw[hv]at E8;split at h<;>first|exact h.elim|skip
   ·rename_i c hc;rw[hc]at E8;simp only[VR,DR]at E8;cases ht:a.tmps[d]? with
    |none=>rw[ht]at E8;exact absurd E8.1 (by simp[af])
    |some v=>
     rw[ht]at E8;simp only[zm]at E8;rw[E8.1];simp only[];have hs:∀b,c=b->lE ρS (au d) (.d (.v (.bool b)))=ρS:=λb hb=>yFs (by rw[hc,hb])
     cases c<;>cases want<;>simp only[gd,Bool.not_true,I4]at h<;>rw[hs _ rfl]at h<;>simpa using h
   ·rename_i hc;rw[hc]at E8;simp only[VR,gw]at E8;obtain⟨ys,e1,rfl⟩:=E8;cases ht:a.tmps[d]? with
    |none=>simpa using h
    |some v=>
     rw[ht]at e1;simp only[zm]at e1;subst e1;simpa using h
def Oy (P:ae) (H:A7) (ops:List ao):List ao->xA->St->(xA->St->Prop)->Prop
 |[],ρ,s,K=>K ρ s
 |o::rest,ρ,s,K=>NT ops o.guard ρ (λρ=>opS P H o ρ s λv s'=>Oy P H ops rest (lE ρ o.dst v) s' K) (λρ=>Oy P H ops rest (lE ρ o.dst (.ja [])) s K)
def YF (E:Ev):VR E (.ja []) af:=by
 simp only[VR];exact⟨[],rfl,gw.nil⟩
def zLx {H:A7} (hH:HW P H) {ops:List ao} {n:Nat} {A:Nat->Bool} {e0:Env} {Q:Exit->Act->ab->Prop} {E0:Ev} {K:xA->St->Prop}
 (hQ:∀a w E ρS s,Good n A e0 a->E0.le E->Rel k L E s w->ld E ρS (yM a)->K ρS s->Q .normal a w):
 ∀(l:List ao) (a:Act) (w:ab) (E:Ev) (ρS:xA) (s:St),IJ n A l->Good n A e0 a->E0.le E->Rel k L E s w->ld E ρS (yM a)->Oy P H ops l ρS s K->wpList P ops.toArray Q l a w
 |[],a,w,E,ρS,s,_,hg,hle,R,he,h=>hQ a w E ρS s hg hle R he h
 |o::l,a,w,E,ρS,s,hf,pk,hle,R,he,h=>by
  have xv:=hf o jm;have hf':IJ n A l:=λo' oG=>hf o' (kg _ oG)
  have hg:=sP he h;have nx:∀{v:aa} {w:ab} {E':Ev} {v':V} {s':St},E.le E'->Rel k L E' s' w->VR E' v' v->Oy P H ops l (lE ρS o.dst v') s' K->wpList P ops.toArray Q l (a.put o.dst v) w:=λ{v w E' v' s'} jl R' hv hh=>
   zLx hH hQ l _ _ E' _ s' hf' (pk.put xv v) (hle.trans jl) R' (by rw[pk.mf xv];exact(he.mono jl).put _ hv) hh
  unfold wpList;split
  ·rename_i hw;rw[fh hw]at hg;left;refine Zc ?_;have:=yEr hH R he hg;rw[wL]at this;refine this.mono ?_;rintro v w' ⟨E',v',s',h1,h2,h3,h4⟩;exact nx h1 h2 h3 h4
  ·rename_i hw;rw[fb hw]at hg;exact nx (Ev.le.refl _) R (YF E) hg
def zLo {P:ae} {E:Ev} {t sz i f:Nat} {ez:List (List D)} {b o:Nat} {l:List aa} {T:aj} {fr:Nat×Nat} {ds:List D} {v:V} (hu:∀el∈ez,el.length=sz) (h5:A' E.F ez (l.drop o))
 (hp:zD ez i f ds.length=au ds) (hm:HE P t ds=au v):∃y,VR E v y/\∀w:ab,w.heap[b]? =au (.cells l.toArray T fr)->nX P t ⟨b,o+i*sz+f,av⟩ w y:=by
 obtain⟨xs,r,e,hx⟩:=oR.1 h5;unfold zD at hp;split at hp<;>first|(cases hp;done)|skip
 rename_i el oT;obtain⟨hb,hp⟩:=yU hp;have hb:=BL hb;have tu:=lq oT;have hi:i<ez.length:=(jv.1 oT).1;rw[hu el tu]at hb;have my:=(hx.drop (i*sz+f)).take ds.length;have hfp:=Yh hu oT hb;rw[hfp,cm hp]at my;have hlen:xs.length=ez.length*sz:=by rw[hx.length,jS hu]
 have vt:i*sz+sz<=ez.length*sz:=by
  have:=wz sz (show i+1<=ez.length by omega);rwa [zj]at this
 have nv:(l.drop (o+i*sz+f)).take ds.length=(xs.drop (i*sz+f)).take ds.length:=by
  rw[CH,<- CJ,e,EN (by omega),xk (by rw[pd];omega)]
 unfold HE at hm;split at hm
 ·rename_i n hn;obtain⟨hq,hm⟩:=yU hm;have:=jb hq;cases hm;refine⟨.agg ((xs.drop (i*sz+f)).take ds.length).toArray,by simp only[VR];exact⟨_,rfl,my.M9⟩,λw e2=> ?_⟩;refine TC hn e2 (by rw[<- this];exact nv) ?_;rw[my.length,this]
 ·obtain⟨hq,hm⟩:=yU hm;split at hm<;>first|(cases hm;done)|skip
  rename_i d;cases hm;simp only[iJ,ua,iF]at my nv;obtain⟨y,ys,e4,h4,h5⟩:=my;subst h5;refine⟨y,by simpa only[VR]using h4,λw e2=>vC hq e2 ?_⟩;have:((l.drop (o+i*sz+f)).take 1)[0]? =au y:=by rw[nv,e4];rfl
  rw[I',fh (by omega),AZ]at this;simpa using this
def SO (ρ:xA) (s:St):Op->Bool
 | .load _ x=>match lz ρ x with
   | .re _ _ _ _=>bv
   | .el n _ _ _=>match s.get n with
     |some (.jc _ _)=>bv
     |_=>bz
   |_=>bz
 |_=>bz
def yFn {E:Ev} {s:St} {w:ab} (R:Rel k L E s w) {ρS:xA} {ρ:Env} (he:ld E ρS ρ) {o:ao} {K:V->Prop} (ln:SO ρS s o.op=bv) (h:sr P o ρS s K):
 ∃v y,K v/\VR E v y/\∀(E':Ev) (s':St) (w':ab),E.le E'->Rel k L E' s' w'->(ac (ev ρ) o).run P w'= .ok (.value y) w':=by
 cases ho:o.op<;>rw[ho]at ln<;>first|(cases ln;done)|skip
 case load t x=>
  simp only[sr,ho]at h;simp only[SO]at ln;have hv:=he.ev x;split at ln<;>first|(cases ln;done)|skip
  ·rename_i sz ez i f hx;rw[hx]at hv h;simp only[VR]at hv;simp only at h;obtain⟨e0,e1,b,oo,l,T,fr,e2,e3,e4⟩:=hv;obtain⟨ds,hp,h⟩:=aC h;obtain⟨v,hm,hk⟩:=zM h;obtain⟨y,hy,hh⟩:=zLo (b:=b) (T:=T) (fr:=fr) e1 e4 hp hm;refine⟨v,y,hk,hy,λE' s' w' hle R'=> ?_⟩;simp only[ac,ho,e2];exact yF (hh w' (R'.frozen _ _ (hle.1 _ _ e3)))
  ·rename_i n sz i f hx;rw[hx]at hv h;simp only[VR]at hv;simp only at h;split at ln<;>first|(cases ln;done)|skip
   rename_i sz0 abo hg;obtain⟨b,oo,m,c,l,e1,e2⟩:=hv;simp only[Ku,mL,hg]at h;obtain⟨⟨oA,ez⟩,hd,h⟩:=zM h;simp only[eG,hg,cg,Prod.mk.injEq]at hd;obtain⟨rfl,rfl⟩:=hd;obtain⟨hb,h⟩:=zK h;have:=jb hb;simp only at this;subst this;obtain⟨ds,hp,h⟩:=aC h;obtain⟨v,hm,hk⟩:=zM h;obtain⟨hd,x',q1,q2,q3⟩:=R.row hg (by simp);rw[e1]at q1;cases q1;simp only[fm,DR]at q2;obtain⟨_,a,c',q4,q5,q6,q7⟩:=q2;cases q4;rcases q7 with rfl|⟨b',o',l',T,fr,q8,q9,q10⟩
   ·simp[zD]at hp
   cases q8;obtain⟨y,hy,hh⟩:=zLo (b:=b) (T:=T) (fr:=fr) q6 q10 hp hm;refine⟨v,y,hk,hy,λE' s' w' hle R'=> ?_⟩;simp only[ac,ho,e2];exact yF (hh w' (R'.frozen _ _ (hle.1 _ _ q9)))
def yXo:V->V->Prop
 | .d (.v x),.d (.v y)=>U1 x y
 | .nm n o,.nm n' o'=>bif aw n n' && aw o o' then True else False
 | .own n,.own n'=>bif aw n n' then True else False
 | .mp n,.mp n'=>bif aw n n' then True else False
 | .el n sz i f,.el n' oA i' f'=>bif aw n n' && aw sz oA && aw f f' then i=i' else False
 |_,_=>False
def gG {E E':Ev} (hle:E.le E') {v v':V} {y y':aa} (h:yXo v' v) (hy:VR E v y) (pf:VR E' v' y'):y'=y:=by
 unfold yXo at h;split at h<;>first|exact h.elim|skip
 ·simp only[VR,DR]at hy pf;rw[hy.1,pf.1,yLj h]
 ·obtain⟨hb,_⟩:=zK h;simp only[lr]at hb;have e1:=jb hb.1;have e2:=jb hb.2;subst e1 e2;simp only[VR]at hy pf;obtain⟨b,oo,l,h1,rfl⟩:=hy;obtain⟨b',oo',l',A4,rfl⟩:=pf;rw[hle.get h1]at A4;cases A4;rfl
 ·obtain⟨hb,_⟩:=zK h;have e1:=jb hb;subst e1;simp only[VR]at hy pf;obtain⟨l,h1,_⟩:=hy;obtain⟨l',A4,_⟩:=pf;rw[hle.get h1]at A4;cases A4;rfl
 ·obtain⟨hb,_⟩:=zK h;have e1:=jb hb;subst e1;simp only[VR]at hy pf;obtain⟨b,l,h1,_⟩:=hy;obtain⟨b',l',A4,_⟩:=pf;rw[hle.get h1]at A4;cases A4;rfl
 ·obtain⟨hb,rfl⟩:=zK h;simp only[lr]at hb;have e1:=jb hb.1.1;have e2:=jb hb.1.2;have e3:=jb hb.2;subst e1 e2 e3;simp only[VR]at hy pf;obtain⟨b,oo,m,c,l,h1,rfl⟩:=hy;obtain⟨b',oo',m',c',l',A4,rfl⟩:=pf;rw[hle.get h1]at A4;cases A4;rfl
mutual
def B9:V->V->Prop
 | .agg l,v=>match v with
   | .agg l'=>MT l l'
   |_=>False
 | .ja l,v=>match v with
   | .ja l'=>MT l l'
   |_=>False
 |u,v=>yXo u v
def MT:List V->List V->Prop
 |[],l=>match l with
  |[]=>True
  |_=>False
 |u::us,l=>match l with
  |v::vs=>B9 u v/\MT us vs
  |[]=>False
end
mutual
theorem yCe {E E':Ev} (hle:E.le E'):∀{v' v:V} {y y':aa},B9 v' v->VR E v y->VR E' v' y'->y'=y
 | .agg l,v,y,y',h,hy,pf=>by
   simp only[B9]at h;split at h<;>first|exact h.elim|skip
   simp only[VR]at hy pf;obtain⟨ys,rfl,h1⟩:=hy;obtain⟨Dz,rfl,h2⟩:=pf;rw[WL hle h h1 h2]
 | .ja l,v,y,y',h,hy,pf=>by
   simp only[B9]at h;split at h<;>first|exact h.elim|skip
   simp only[VR]at hy pf;obtain⟨ys,rfl,h1⟩:=hy;obtain⟨Dz,rfl,h2⟩:=pf;rw[WL hle h h1 h2]
 | .top,v,y,y',h,hy,pf=>gG hle (by simpa only[B9]using h) hy pf
 | .d _,v,y,y',h,hy,pf=>gG hle (by simpa only[B9]using h) hy pf
 | .nm _ _,v,y,y',h,hy,pf=>gG hle (by simpa only[B9]using h) hy pf
 | .el _ _ _ _,v,y,y',h,hy,pf=>gG hle (by simpa only[B9]using h) hy pf
 | .re _ _ _ _,v,y,y',h,hy,pf=>gG hle (by simpa only[B9]using h) hy pf
 | .own _,v,y,y',h,hy,pf=>gG hle (by simpa only[B9]using h) hy pf
 | .mp _,v,y,y',h,hy,pf=>gG hle (by simpa only[B9]using h) hy pf
 | .sub _ _,v,y,y',h,hy,pf=>gG hle (by simpa only[B9]using h) hy pf
 | .fn _ _ _,v,y,y',h,hy,pf=>gG hle (by simpa only[B9]using h) hy pf
 | .zo _ _,v,y,y',h,hy,pf=>gG hle (by simpa only[B9]using h) hy pf
theorem WL {E E':Ev} (hle:E.le E'):∀{v' v:List V} {y y':List aa},MT v' v->gw E v y->gw E' v' y'->y'=y
 |[],v,y,y',h,hy,pf=>by
  simp only[MT]at h;split at h<;>first|exact h.elim|skip
  simp only[gw]at hy pf;rw[hy,pf]
 |u::us,v,y,y',h,hy,pf=>by
  simp only[MT]at h;split at h<;>first|exact h.elim|skip
  simp only[gw]at hy pf;obtain⟨x,xs,rfl,h1,h2⟩:=hy;obtain⟨x',xs',rfl,A4,h2'⟩:=pf;rw[yCe hle h.1 h1 A4,WL hle h.2 h2 h2']
end
@[reducible] def EB:=Nat×(St->Prop)
def IH (bf:List Nat) (i:Nat):List EB->List EB
 |[]=>[]
 |m::l=>bif AV bf i m.1 then IH bf i l else m::IH bf i l
def y1a:List EB->St->Prop->Prop
 |[],_,X=>X
 |m::ms,s,X=>m.2 s/\y1a ms s X
def yZu (P:ae) (ops:List ao) (ρ:xA) (i:Nat):Bool:=
 match ops[i]? with
 |some o=>match kS P ρ o.op with
  |2=>bz
  |_=>bv
 |none=>bv
def Sj:Op->Bool
 | .slice _ _ _ _ av=>bv
 |_=>bz
def z5w {o:Op} (h:Sj o=bv):∃t x lo hi,o= .slice t x lo hi av:=by
 unfold Sj at h;split at h
 ·exact⟨_,_,_,_,rfl⟩
 ·cases h
def lQ (P:ae) (H:A7) (ops:List ao) (bf:List Nat):Nat->Array Bool->List EB->xA->St->(xA->St->Prop)->Prop
 |0,fk,_,ρ,s,K=>
  match cw .any ops.toArray fk with
  |[]=>K ρ s
  |_=>False
 |fuel+1,fk,M,ρ,s,K=>
  match cw .any ops.toArray fk with
  |[]=>K ρ s
  |r::rs=>
   match(r::rs).find? (yZu P ops ρ)with
   |some i=>
    match ops[i]? with
    |none=>False
    |some o=>NT ops o.guard ρ
      (λρ'=>match kS P ρ' o.op with
        |0=>sq P o ρ' λv=>lQ P H ops bf fuel (fk.setIfInBounds i bv) M (lE ρ' o.dst v) s K
        |1=>sr P o ρ' s λv=>lQ P H ops bf fuel (fk.setIfInBounds i bv) ((i,λs'=>bif SO ρ' s o.op then True else sr P o ρ' s' λv'=>B9 v' v)::M) (lE ρ' o.dst v) s K
        |_=>False)
      (λρ'=>lQ P H ops bf fuel (fk.setIfInBounds i bv) M (lE ρ' o.dst (.ja [])) s K)
   |none=>UA (r::rs) λi=>
    match ops[i]? with
    |none=>False
    |some o=>NT ops o.guard ρ
      (λρ'=>se P H o ρ' s λv s'=>bif Sj o.op then lQ P H ops bf fuel (fk.setIfInBounds i bv) (IH bf i M) (lE ρ' o.dst v) s' K else y1a (IH bf i M) s' (lQ P H ops bf fuel (fk.setIfInBounds i bv) (IH bf i M) (lE ρ' o.dst v) s' K))
      (λρ'=>lQ P H ops bf fuel (fk.setIfInBounds i bv) (IH bf i M) (lE ρ' o.dst (.ja [])) s K)
inductive oz (k:Ko) (L:List HP) (E:Ev):List EB->List Mon->Prop
 |nil:oz k L E [] []
 |cons {i:Nat} {f:St->Prop} {g:ab->Prop} {M:List EB} {N:List Mon}:(∀E' s' w',E.le E'->Rel k L E' s' w'->f s'->g w')->oz k L E M N->oz k L E ((i,f)::M) ((i,g)::N)
def oz.mono {E E':Ev} (hle:E.le E') {M:List EB} {N:List Mon} (h:oz k L E M N):oz k L E' M N:=by
 induction h with
 |nil=>exact .nil
 |cons h _ ih=>exact .cons (λE2 s w a=>h E2 s w (hle.trans a)) ih
def oz.oQ {E:Ev} {bf:List Nat} {i:Nat} {M:List EB} {N:List Mon} (h:oz k L E M N):oz k L E (IH bf i M) (jH bf i N):=by
 induction h with
 |nil=>exact .nil
 | @cons j f g M N h _ ih=>
   simp only[IH,jH,List.filter_cons]at ih ⊢;cases hb:AV bf i j
   ·simpa using .cons h ih
   ·simpa using ih
def oz.all {E E':Ev} (hle:E.le E') {M:List EB} {N:List Mon} (h:oz k L E M N) {s:St} {w:ab} (R:Rel k L E' s w) {X:Prop} (hm:y1a M s X):EC N w/\X:=by
 induction h with
 |nil=>exact⟨λm hm=>(by cases hm),hm⟩
 |cons h _ ih=>
  obtain⟨h1,h2⟩:=hm;obtain⟨h3,h4⟩:=ih h2;refine⟨λm hm=> ?_,h4⟩;rcases mn.1 hm with rfl|hm
  ·exact h _ _ _ hle R h1
  ·exact h3 m hm
def z2d {H:A7} (hH:HW P H) {ops:List ao} {n:Nat} {A:Nat->Bool} {e0:Env} {Q:Act->ab->Prop} {E0:Ev} {K:xA->St->Prop} (oS:tR ops (uX ops [])=bv) (hf:IJ n A ops)
 (hQ:∀a w E ρS s,Good n A e0 a->E0.le E->Rel k L E s w->ld E ρS (yM a)->K ρS s->Q a w):
 ∀(fuel:Nat) (fk:Array Bool) (M:List EB) (N:List Mon) (a:Act) (w:ab) (E:Ev) (ρS:xA) (s:St),eK ops (qK fk)->EC N w->oz k L E M N->Good n A e0 a->E0.le E->Rel k L E s w->ld E ρS (yM a)->
  lQ P H ops (uX ops []) fuel fk M ρS s K->CF P ops.toArray (uX ops []) Q fuel N fk a w:=by
 intro fuel
 induction fuel with
 |zero=>
  intro fk M N a w E ρS s hc hM E9 pk hle R he h;unfold lQ at h;split at h
  ·rename_i hr;exact⟨hr,hQ a w E ρS s pk hle R he h⟩
  ·exact h.elim
 |succ fuel ih=>
  intro fk M N a w E ρS s hc hM E9 pk hle R he h;unfold lQ at h;split at h
  ·rename_i hr;exact⟨λ_=>hQ a w E ρS s pk hle R he h,λi hi=>by rw[hr]at hi;cases hi⟩
  ·rename_i r rs hr;have ji:cw .any ops.toArray fk≠[]:=by rw[hr];simp
   split at h
   ·rename_i i Fu;have hi:i∈cw .any ops.toArray fk:=by rw[hr];exact List.mem_of_find?_eq_some Fu
    split at h<;>first|exact h.elim|skip
    rename_i o ho;have zc:∀v,yM (a.put o.dst v)=Cv.put (yM a) o.dst v:=λv=>pk.mf (aX hf ho) v
    have hg:=sP he h;have nx:∀{M:List EB} {N:List Mon} {v:V} {y:aa},EC N w->oz k L E M N->VR E v y->lQ P H ops (uX ops []) fuel (fk.setIfInBounds i bv) M (lE ρS o.dst v) s K->
     CF P ops.toArray (uX ops []) Q fuel N (fk.setIfInBounds i bv) (a.put o.dst y) w:=λ{M N v y} hM E9 hv hh=>
     ih _ _ _ _ _ _ _ _ (uL hc hi) hM E9 (pk.put (aX hf ho) _) hle R (by rw[zc];exact he.put _ hv) hh
    by_cases hw:cu o (yielded ops.toArray a.tmps)=bv
    ·rw[fh hw]at hg;split at hg<;>first|exact hg.elim|skip
     ·obtain⟨v,y,hk,hv,uj⟩:=z2h he hg;rw[wL]at uj;have hs:∀w,sX P ops.toArray o y a w:=λw=> .inl ⟨hw,uj w⟩
      exact g8 oS ho fuel N fk a w hc hi (hs w) hM (mC hs fuel _ _ _ (nx hM E9 hv hk))
     ·cases ln:SO ρS s o.op
      ·obtain⟨v,y,hk,hv,jk⟩:=WV R he hg;rw[wL]at jk;simp only[ln,cond_false]at hk;have hs:sX P ops.toArray o y a w:= .inl ⟨hw,jk⟩;refine g8 oS ho fuel N fk a w hc hi hs hM (nx ?_ (.cons ?_ E9) hv hk)
       ·intro m hm;rcases mn.1 hm with rfl|hm
        ·exact hs
        ·exact hM m hm
       ·intro E' s' w' jl R' ln;obtain⟨v',y',rh,Jh,J0⟩:=WV R' (he.mono jl) ln;rw[wL]at J0;have:=yCe jl rh hv Jh;subst this;exact .inl ⟨hw,J0⟩
      ·obtain⟨v,y,hk,hv,jk⟩:=yFn R he ln hg;rw[wL]at jk;simp only[ln,cond_true]at hk;have hs:sX P ops.toArray o y a w:= .inl ⟨hw,jk E s w (Ev.le.refl _) R⟩;refine g8 oS ho fuel N fk a w hc hi hs hM (nx ?_ (.cons ?_ E9) hv hk)
       ·intro m hm;rcases mn.1 hm with rfl|hm
        ·exact hs
        ·exact hM m hm
       ·intro E' s' w' jl R' _;exact .inl ⟨hw,jk E' s' w' jl R'⟩
    ·rw[fb hw]at hg;have hs:∀w,sX P ops.toArray o af a w:=λw=> .inr ⟨by simpa using hw,rfl⟩
     exact g8 oS ho fuel N fk a w hc hi (hs w) hM (mC hs fuel _ _ _ (nx hM E9 (YF E) hg))
   ·refine⟨λh0=>absurd h0 ji,λi hi=> ?_⟩;have h1:=WB h i (by rw[<- hr];exact hi);split at h1<;>first|exact h1.elim|skip
    rename_i o ho;have zc:∀v,yM (a.put o.dst v)=Cv.put (yM a) o.dst v:=λv=>pk.mf (aX hf ho) v
    have hg:=sP he h1;unfold D6;simp only[AO,ho];by_cases hw:cu o (yielded ops.toArray a.tmps)=bv
    ·rw[fh hw]at hg ⊢;cases ym:Sj o.op with
     |true=>
      obtain⟨t,x,lo,Nw,oG⟩:=z5w ym;obtain⟨y,GV,E',v,s',jl,R',hv,hh⟩:=z0h R he oG hg;rw[wL]at GV;rw[ym]at hh;have CS:EC (jH (uX ops []) i N) w:=λm hm=>hM m (by simp only[jH,uu]at hm;exact hm.1)
      exact wA (GV w) ⟨CS,ih _ _ _ _ _ _ _ _ (uL hc hi) CS (E9.oQ.mono jl) (pk.put (aX hf ho) _) (hle.trans jl) R' (by rw[zc];exact(he.mono jl).put _ hv) hh⟩
     |false=>
     have Bt:=z1t hH R he hg;rw[wL]at Bt;refine Bt.mono ?_;rintro y w' ⟨E',v,s',jl,R',hv,hh⟩;rw[ym]at hh;obtain⟨CS,hh⟩:=(E9.oQ (bf:=uX ops []) (i:=i)).all jl R' hh;exact⟨CS,ih _ _ _ _ _ _ _ _ (uL hc hi) CS (E9.oQ.mono jl) (pk.put (aX hf ho) _) (hle.trans jl) R' (by rw[zc];exact(he.mono jl).put _ hv) hh⟩
    ·rw[fb hw]at hg ⊢;have CS:EC (jH (uX ops []) i N) w:=λm hm=>hM m (by simp only[jH,uu]at hm;exact hm.1)
     exact⟨CS,ih _ _ _ _ _ _ _ _ (uL hc hi) CS E9.oQ (pk.put (aX hf ho) _) hle R (by rw[zc];exact he.put _ (YF E)) hg⟩
variable {P:ae} {k:Ko} {L:List HP}
structure gp where
 ι:Type
 dv:ι->List (Nat×V)
 rows:ι->List fi
 oQ:Nat->Bool:=λ_=>bv
 un:Nat:=0
 oI:ι->List (Nat×V):=λ_=>[]
 lp:ι->List fi:=λ_=>[]
 aan:List (Nat×aa):=[]
 CN:List Nat:=[]
 fr:Nat->Bool:=λ_=>bz
def gp.pg (x:gp):gp:={x with dv:=x.oI,rows:=x.lp}
def Nh:Code->Nat
 | .region i _ _=>i
 | .seq a _=>Nh a
 | .block _ a=>Nh a
 | .loop a=>Nh a
 | .cond _ a _=>Nh a
 |_=>0
def y7n:Code->Nat
 | .region i _ _=>4*i
 | .cond c a b=>4*Nh (.cond c a b)+1
 | .seq a b=>4*Nh a+2
 | .block id _=>4*id+3
 |_=>0
def yTp (n:Nat):List (Nat×gp)->Option gp
 |[]=>av
 |(m,x)::l=>bif aw m n then au x else yTp n l
def Ub (t:Nat):List (Nat×V)->Option V
 |[]=>av
 |(u,v)::l=>bif aw u t then au v else Ub t l
def NN (ρ:xA):List (Nat×V)->List V
 |[]=>[]
 |(t,_)::l=>ρ t::NN ρ l
def OB:List (Nat×V)->List V
 |[]=>[]
 |(_,v)::l=>v::OB l
def Ua:fi->Bool
 | .own _ _ _=>bv
 | .Au=>bv
 | .jc _ _=>bv
 | .jz _ _ _ _ _ _=>bv
 |_=>bz
def wM (fr:Nat->Bool) (π:NM):Nat->List fi->NM
 |_,[]=>[]
 |p,o::os=>bif Ua o then wM fr π (p+1) os else bif fr p then wM fr π (p+1) os else match z8 p π with
  |some n=>(p,n)::wM fr π (p+1) os
  |none=>wM fr π (p+1) os
def eX (fr:Nat->Bool) (N:Nat) (π:NM):Nat->List fi->NM
 |_,[]=>[]
 |p,o::os=>bif Ua o then(p,N+p)::eX fr N π (p+1) os else bif fr p then(p,N+p)::eX fr N π (p+1) os else match z8 p π with
  |some n=>(p,n)::eX fr N π (p+1) os
  |none=>eX fr N π (p+1) os
def Hh (N:Nat) (st:NM):Nat->NM
 |0=>[]
 |p+1=>(p,(z8 p st).getD (N+p))::Hh N st p
def WE {N:Nat} {st:NM} {p q:Nat}:∀{m:Nat},z8 p (Hh N st m)=au q->q=N+p\/z8 p st=au q
 |0,h=>by cases h
 |m+1,h=>by
  simp only[Hh,z8]at h;cases hb:aw m p
  ·rw[hb]at h;exact WE h
  ·rw[hb]at h;have:=jb hb;subst this;simp only[cond_true,cg]at h;cases hs:z8 m st with
   |none=>rw[hs]at h;exact .inl h.symm
   |some n=>rw[hs]at h;exact .inr (by rw[<- h];rfl)
def pU {fr:Nat->Bool} {π:NM} {p q:Nat}:∀{os:List fi} {p0:Nat},z8 p (wM fr π p0 os)=au q->z8 p π=au q
 |[],p0,h=>by cases h
 |o::os,p0,h=>by
  simp only[wM]at h;cases ho:Ua o<;>rw[ho]at h
  ·cases hf:fr p0<;>rw[hf]at h
   ·simp only[cond_false]at h;split at h
    ·rename_i n hn;simp only[z8]at h;cases hb:aw p0 p
     ·rw[hb]at h;exact pU h
     ·rw[hb]at h;cases h;rw[<- jb hb];exact hn
    ·exact pU h
   ·exact pU h
  ·exact pU h
def ME {fr:Nat->Bool} {N:Nat} {π:NM} {p q:Nat}:∀{os:List fi} {p0:Nat},z8 p (eX fr N π p0 os)=au q->q=N+p\/z8 p (wM fr π p0 os)=au q
 |[],p0,h=>by cases h
 |o::os,p0,h=>by
  simp only[eX,wM]at h ⊢;cases ho:Ua o<;>rw[ho]at h
  ·cases hf:fr p0<;>rw[hf]at h
   ·simp only[cond_false]at h ⊢;split at h
    ·rename_i n hn;simp only[z8]at h ⊢;cases hb:aw p0 p
     ·rw[hb]at h;exact ME h
     ·rw[hb]at h;exact .inr h
    ·exact ME h
   ·simp only[cond_true,cond_false,z8]at h ⊢;cases hb:aw p0 p
    ·rw[hb]at h;exact ME h
    ·rw[hb]at h;cases h;left;rw[jb hb]
  ·simp only[cond_true,z8]at h ⊢;cases hb:aw p0 p
   ·rw[hb]at h;exact ME h
   ·rw[hb]at h;cases h;left;rw[jb hb]
def MJ (uw:NM) (dv:List (Nat×V)) (as:List Nat) (ρ:xA):xA:=λt=>
 match Ub t dv with
 |some v=>lC uw v
 |none=>bif pH t as then .top else ρ t
mutual
def Dw (N:Nat):V->Bool
 | .nm n _=>ax n N
 | .el n _ _ _=>ax n N
 | .own n=>ax n N
 | .na n _ _=>ax n N
 | .mp n=>ax n N
 | .sub n _=>ax n N
 | .agg l=>IU N l
 | .ja l=>IU N l
 | .fn _ a b=>IU N a && IU N b
 | .zo _ x=>Dw N x
 |_=>bv
def IU (N:Nat):List V->Bool
 |[]=>bv
 |v::l=>Dw N v && IU N l
end
def yZr (N:Nat):fi->Bool
 | .cells vs _=>IU N vs
 | .vf _ _ _ _ _ _ _ (au m)=>ax m N
 |_=>bv
def N' (N:Nat):List (Nat×fi)->Bool
 |[]=>bv
 |(n,o)::l=>ax n N && yZr N o && N' N l
def kG (oQ:Nat->Bool):List (Nat×fi)->List (Nat×fi)
 |[]=>[]
 |(n,o)::l=>bif oQ n then(n,o)::kG oQ l else kG oQ l
def Kl:List (Nat×fi)->St->Prop
 |[],_=>True
 |[(n,o)],s=>match s.Ct n with
  |some o'=>o'=o
  |none=>False
 |(n,o)::l,s=>match s.Ct n with
  |some o'=>o'=o/\Kl l (s.del n)
  |none=>False
def NY (N:Nat) (uw:NM) (rows:List fi) (kept:List (Nat×fi)):St:=⟨kE uw 0 rows++kept,N+rows.length⟩
def Mi (next:xA->St->Prop) (Q:Exit->xA->St->Prop):Exit->xA->St->Prop
 | .normal,ρ,s=>next ρ s
 |e,ρ,s=>Q e ρ s
def yIw (id:Nat) (Q:Exit->xA->St->Prop):Exit->xA->St->Prop
 | .exit ET,ρ,s=>bif aw ET id then Q .normal ρ s else Q (.exit ET) ρ s
 |e,ρ,s=>Q e ρ s
def Mf (x:gp) (i:x.ι) (π0:NM) (ρ:xA) (s:St) (K:NM->St->Prop):Prop:=
 DE (OB (x.dv i)) (NN ρ (x.dv i)) π0 s λπ s=>HD 0 (x.rows i) π s λπ s=>bif tK (x.rows i).length π then K π s else False
def yLa (f:(Exit->xA->St->Prop)->xA->St->Prop) (Q:Exit->xA->St->Prop):Nat->xA->St->Prop
 |0,_,_=>False
 |n+1,ρ,s=>f (Mi (yLa f Q n) Q) ρ s
def NW (n:Nat) (s:St):St:=
 match s.get n with
 |some (.qw _ m iC x)=>bif ay 1 m then⟨(n,(Kj (s.del n) n m (iC x)).1)::(Kj (s.del n) n m (iC x)).2.rows,(Kj (s.del n) n m (iC x)).2.nx⟩else s
 |_=>s
def S0:List Nat->St->St
 |[],s=>s
 |n::l,s=>S0 l (NW n s)
def zVa {w:ab} {E:Ev} {s:St} (R:Rel k L E s w) (n:Nat):∃E',E.le E'/\Rel k L E' (NW n s) w:=by
 unfold NW;split
 ·rename_i T m iC x hg;cases hb:ay 1 m
  ·exact⟨E,Ev.le.refl _,R⟩
  ·obtain⟨E',h1,h2⟩:=(R.take hg).unfold (BL hb);refine⟨E',h1,⟨h2.nx,?_⟩⟩;have:=h2.out;simpa using this
 ·exact⟨E,Ev.le.refl _,R⟩
def YQ {w:ab}:∀(l:List Nat) {E:Ev} {s:St} (R:Rel k L E s w),∃E',E.le E'/\Rel k L E' (S0 l s) w
 |[],E,s,R=>⟨E,Ev.le.refl _,R⟩
 |n::l,E,s,R=>by
  obtain⟨E1,h1,h2⟩:=zVa R n;obtain⟨E2,h3,h4⟩:=YQ l h2;exact⟨E2,h1.trans h3,h4⟩
def ZN:List Nat->xA->St->St
 |[],_,s=>s
 |t::ts,ρ,s=>ZN ts ρ (match ρ t with
  | .nm n 0=>NW n s
  |_=>s)
def zTj {w:ab} {ρ:xA}:∀(l:List Nat) {E:Ev} {s:St} (R:Rel k L E s w),∃E',E.le E'/\Rel k L E' (ZN l ρ s) w
 |[],E,s,R=>⟨E,Ev.le.refl _,R⟩
 |t::ts,E,s,R=>by
  obtain⟨E1,h1,h2⟩:∃E',E.le E'/\Rel k L E' (match ρ t with
   | .nm n 0=>NW n s
   |_=>s) w:=by
   split
   ·exact zVa R _
   ·exact⟨E,Ev.le.refl _,R⟩
  obtain⟨E2,h3,h4⟩:=zTj ts h2;exact⟨E2,h1.trans h3,h4⟩
def y2f (t:Nat) (x:aa) (ρ:xA) (K:xA->Prop):Prop:=match ρ t with
 | .d (.v y)=>y=x/\K (λu=>bif aw u t then .d (.v x)else ρ u)
 |_=>False
def Zx:List (Nat×aa)->xA->(xA->Prop)->Prop
 |[],_,_=>False
 |(t,x)::l,ρ,K=>y2f t x ρ K\/Zx l ρ K
def mu (P:ae) (H:A7) (J:List (Nat×gp)):List gp->Code->(Exit->xA->St->Prop)->xA->St->Prop
 |_,.skip,Q,ρ,s=>Q .normal ρ s
 |an,.seq a b,Q,ρ,s=>match yTp (y7n a) J with
  |none=>mu P H J (an.take (nL a)) a (Mi (λρ s=>mu P H J (an.drop (nL a)) b Q ρ s) Q) ρ s
  |some x=>match x.CN with
   |t0::ts=>mu P H J (an.take (nL a)) a (Mi (λρ s=>mu P H J (an.drop (nL a)) b Q ρ (ZN (t0::ts) ρ s)) Q) ρ s
   |[]=>match x.aan with
   |l0::ls=>mu P H J (an.take (nL a)) a (Mi (λρ s=>Zx (l0::ls) ρ λρ=>mu P H J (an.drop (nL a)) b Q ρ s) Q) ρ s
   |[]=>∃i0,Mf x.pg i0 [] ρ s λπ s1=>∃(I:x.ι->Prop),(bif N' s1.nx (kG x.oQ s1.rows)then
    mu P H J (an.take (nL a)) a (Mi (λρ' s'=>∃i',Mf x i' (wM x.fr π 0 (x.lp i0)) ρ' s' λ_ s2=>I i'/\Kl (kG x.oQ s1.rows) s2) Q)
     (MJ (Hh s1.nx (wM x.fr π 0 (x.lp i0)) (x.lp i0).length) (x.oI i0) [] ρ) (NY s1.nx (Hh s1.nx (wM x.fr π 0 (x.lp i0)) (x.lp i0).length) (x.lp i0) (kG x.oQ s1.rows))/\
    ∀i,I i->mu P H J (an.drop (nL a)) b Q (MJ (Hh s1.nx (wM x.fr π 0 (x.lp i0)) (x.rows i).length) (x.dv i) (ui a) ρ) (NY s1.nx (Hh s1.nx (wM x.fr π 0 (x.lp i0)) (x.rows i).length) (x.rows i) (kG x.oQ s1.rows))else False)
 |an,.cond c a b,Q,ρ,s=>
  match lz ρ c with
  | .d (.v (.bool t))=>dq t (mu P H J (an.take (nL a)) a Q ρ s) (mu P H J (an.drop (nL a)) b Q ρ s)
  |_=>False
 |an,.block id a,Q,ρ,s=>mu P H J an a (yIw id Q) ρ s
 |an,.loop a,Q,ρ,s=>
  match an with
  |[]=>False
  |x::rest=>bif ax 0 x.un then yLa (λQ ρ s=>mu P H J rest a Q ρ s) Q x.un ρ s else ∃i0,Mf x i0 [] ρ s λπ s1=>∃(I:x.ι->Prop) (μ:x.ι->Nat),I i0/\(bif N' s1.nx (kG x.oQ s1.rows)then
    ∀i,I i->mu P H J rest a (Mi (λρ' s'=>∃i',Mf x i' (wM x.fr π 0 (x.rows i0)) ρ' s' λ_ s2=>I i'/\μ i'<μ i/\Kl (kG x.oQ s1.rows) s2) Q)
     (MJ (eX x.fr s1.nx π 0 (x.rows i0)) (x.dv i) (ui a) ρ) (NY s1.nx (eX x.fr s1.nx π 0 (x.rows i0)) (x.rows i) (kG x.oQ s1.rows))else False)
 |_,.exit id,Q,ρ,s=>Q (.exit id) ρ s
 |_,.ret,Q,ρ,s=>Q .ret ρ s
 |_,.region _ ops d,Q,ρ,s=>bif d then lQ P H ops.toList (uX ops.toList []) ops.toList.length (cp ops.toList.length bz) [] ρ s (Q .normal)
    else Oy P H ops.toList ops.toList ρ s (Q .normal)
 |_,_,_,_,_=>False
def UE (k:Ko) (L:List HP) (n:Nat) (A:Nat->Bool) (e0:Env) (E0:Ev) (Q:Exit->xA->St->Prop):Exit->Act->ab->Prop:=λe a w=>
 Good n A e0 a/\∃E ρS s,E0.le E/\Rel k L E s w/\ld E ρS (yM a)/\Q e ρS s
mutual
theorem VR.low {F:PH} {gf oE:List Hd} {N:Nat} (h:∀n,n<N->∀hd,gf[n]? =au hd->oE[n]? =au hd):∀{v:V} {y:aa},Dw N v=bv->VR ⟨F,gf⟩ v y->VR ⟨F,oE⟩ v y
 | .top,y,hl,e=>by simp only[VR]
 | .d d,y,hl,e=>by simpa only[VR]using e
 | .nm n o,y,hl,e=>by
   simp only[Dw,yf]at hl;simp only[VR]at e ⊢;obtain⟨b,oo,l,h1,h2⟩:=e;exact⟨b,oo,l,h n hl _ h1,h2⟩
 | .el n sz i f,y,hl,e=>by
   simp only[Dw,yf]at hl;simp only[VR]at e ⊢;obtain⟨b,oo,m,c,l,h1,h2⟩:=e;exact⟨b,oo,m,c,l,h n hl _ h1,h2⟩
 | .re sz ez i f,y,hl,e=>by simpa only[VR]using e
 | .na n o i,y,hl,e=>by
   simp only[Dw,yf]at hl;simp only[VR]at e ⊢;obtain⟨b,oo,l,h1,h2⟩:=e;exact⟨b,oo,l,h n hl _ h1,h2⟩
 | .own n,y,hl,e=>by
   simp only[Dw,yf]at hl;simp only[VR]at e ⊢;obtain⟨l,h1,h2⟩:=e;exact⟨l,h n hl _ h1,h2⟩
 | .mp n,y,hl,e=>by
   simp only[Dw,yf]at hl;simp only[VR]at e ⊢;obtain⟨b,l,h1,h2⟩:=e;exact⟨b,l,h n hl _ h1,h2⟩
 | .sub n i,y,hl,e=>by
   simp only[Dw,yf]at hl;simp only[VR]at e ⊢;obtain⟨hd,l,b,oo,h1,h2⟩:=e;exact⟨hd,l,b,oo,h n hl _ h1,h2⟩
 | .agg l,y,hl,e=>by
   simp only[Dw]at hl;simp only[VR]at e ⊢;obtain⟨ys,h1,h2⟩:=e;exact⟨ys,h1,gw.low h hl h2⟩
 | .ja l,y,hl,e=>by
   simp only[Dw]at hl;simp only[VR]at e ⊢;obtain⟨ys,h1,h2⟩:=e;exact⟨ys,h1,gw.low h hl h2⟩
 | .fn f a b,y,hl,e=>by
   simp only[Dw,lr]at hl;simp only[VR]at e ⊢;obtain⟨as,bs,h1,h2,h3⟩:=e;exact⟨as,bs,h1,gw.low h hl.1 h2,gw.low h hl.2 h3⟩
 | .zo t x,y,hl,e=>by
   simp only[Dw]at hl;simp only[VR]at e ⊢;obtain⟨z,h1,h2⟩:=e;exact⟨z,h1,VR.low h hl h2⟩
theorem gw.low {F:PH} {gf oE:List Hd} {N:Nat} (h:∀n,n<N->∀hd,gf[n]? =au hd->oE[n]? =au hd):∀{vs:List V} {l:List aa},IU N vs=bv->gw ⟨F,gf⟩ vs l->gw ⟨F,oE⟩ vs l
 |[],l,hl,e=>by simpa only[gw]using e
 |v::vs,l,hl,e=>by
  simp only[IU,lr]at hl;simp only[gw]at e ⊢;obtain⟨x,xs,h1,h2,h3⟩:=e;exact⟨x,xs,h1,VR.low h hl.1 h2,gw.low h hl.2 h3⟩
end
def fm.low {F:PH} {gf oE:List Hd} {N:Nat} (h:∀n,n<N->∀hd,gf[n]? =au hd->oE[n]? =au hd) {o:fi} (hl:yZr N o=bv) {hd:Hd} {x:PH} (e:fm F o gf hd x):fm F o oE hd x:=by
 cases o<;>first|exact e.gf rfl|skip
 ·simp only[fm]at e ⊢;obtain⟨b,l,h1,h2,h3⟩:=e;exact⟨b,l,h1,h2.low h hl,h3⟩
 ·rename_i q t sz ez i f b m;simp only[fm]at e ⊢;obtain⟨a,k,ys,xs,h1,h2,h3,h4,h5⟩:=e;refine⟨a,k,ys,xs,h1,h2,h3,?_,h5⟩;cases m with
  |none=>exact h4
  |some m=>
   simp only[yZr,yf]at hl;obtain⟨y,l,e1,e2⟩:=h4;exact⟨y,l,h m hl _ e1,e2⟩
def zVh {E:Ev} {ρS:xA} {ρ:Env} (he:ld E ρS ρ):∀l:List (Nat×V),gw E (NN ρS l) (l.map λp=>ρ p.1)
 |[]=>by simp[NN,gw]
 |(t,v)::l=>by simp only[NN,jx,gw];exact⟨_,_,rfl,he t,zVh he l⟩
def z1b {F:PH} {tl:List Hd} {ρ:Env}:∀{l:List (Nat×V)},gw ⟨F,tl⟩ (OB l) (l.map λp=>ρ p.1)->∀{t:Nat} {v:V},Ub t l=au v->VR ⟨F,tl⟩ v (ρ t)
 |[],_,t,v,h=>by cases h
 |(u,x)::l,hv,t,v,h=>by
  simp only[OB,jx,gw]at hv;obtain⟨y,ys,e,h1,h2⟩:=hv;cases e;simp only[Ub]at h;cases hb:aw u t
  ·rw[hb]at h;exact z1b h2 h
  ·rw[hb]at h;cases h;rw[<- jb hb];exact h1
def V1 {w:ab} {E3 E4:Ev} (hF:E3.F=E4.F) {N:Nat} (Cq:∀n,n<N->∀hd,E3.gf[n]? =au hd->E4.gf[n]? =au hd):∀{kept:List (Nat×fi)} {s:St} {M:List HP},Kl kept s->N' N kept=bv->
 Hp k w (s.rows.map (gz E3)++M)->Hp k w (kept.map (gz E4)++M)
 |[],s,M,_,_,H=>by
  have:∀(l:List (Nat×fi)),Hp k w (l.map (gz E3)++M)->Hp k w M:=by
   intro l
   induction l with
   |nil=>intro H;exact H
   |cons a l ih=>intro H;exact ih H.drop
  exact this _ H
 |(n,o)::kept,s,M,hk,hl,H=>by
  simp only[N',lr,yf]at hl;have kf:s.get n=au o/\Kl kept (s.del n):=by
   cases kept with
   |nil=>
    simp only[Kl]at hk;split at hk<;>first|exact hk.elim|skip
    rename_i o' ho;subst hk;exact⟨(T4 ho).1,trivial⟩
   |cons a l=>
    simp only[Kl]at hk;split at hk<;>first|exact hk.elim|skip
    rename_i o' ho;obtain⟨rfl,hk⟩:=hk;exact⟨(T4 ho).1,hk⟩
  have H1:Hp k w (gz E3 (n,o)::((s.del n).rows.map (gz E3)++M)):=by
   refine H.perm ?_;have:=((vN kf.1).1.map (gz E3)).append_right M;simpa[St.del]using this
  have H2:Hp k w ((s.del n).rows.map (gz E3)++(gz E3 (n,o)::M)):=H1.perm mo.symm;have H3:=V1 hF Cq kf.2 hl.2 H2;refine(H3.perm mo).imp λx hx=> ?_
  rcases hx with⟨e,e2⟩|⟨hd,h1,h2⟩
  ·exact .inl ⟨e,e2⟩
  ·exact .inr ⟨hd,Cq n hl.1.1 _ h1,hF▸h2.low Cq hl.1.2⟩
def Te {w:ab} {x:gp} {i:x.ι} {π0:NM} {ρS:xA} {ρ:Env} {s:St} {K:NM->St->Prop} {E:Ev} (h:Mf x i π0 ρS s K) (R:Rel k L E s w) (he:ld E ρS ρ) (Pg:Ap π0 E.gf):
 ∃E3 s3 π3,E.le E3/\K π3 s3/\Ext π0 π3/\Ap π3 E3.gf/\E3.gf.length=s3.nx/\∀(E1:Ev) (kept:List (Nat×fi)) (N:Nat) (ρ0:xA) (as:List Nat) (uw:NM),(∀p q,z8 p uw=au q->q=N+p\/(z8 p π3=au q/\q<N))->E1.gf.length=N->xg E1.F E3.F->E1.gf<+:E3.gf->(∀E4:Ev,E3.F=E4.F->E1.le E4->(∀n,n<N->∀hd,E3.gf[n]? =au hd->E4.gf[n]? =au hd)->∀M,Hp k w (s3.rows.map (gz E3)++M)->Hp k w (kept.map (gz E4)++M))->(∀t,pH t as=bz->VR E1 (ρ0 t) (ρ t))->
  ∃E4,E1.le E4/\Rel k L E4 (NY N uw (x.rows i) kept) w/\ld E4 (MJ uw (x.dv i) as ρ0) ρ:=by
 unfold Mf at h;obtain⟨E2,π2,s2,q1,q2,q3⟩:=lP h R Pg (zVh he _);obtain⟨E3,π3,s3,r1,r2⟩:=Sm q3 q1.rel q1.wf;obtain⟨gv,hk⟩:=zK r2;have gv:=mK gv;refine⟨E3,s3,π3,q1.le.trans r1.le,hk,q1.ext.trans r1.ext,r1.wf,r1.rel.nx,?_⟩;intro E1 kept N ρ0 as uw hre hN hF Lq Bs DU
 let m:=(x.rows i).length
 let tl:List Hd:=(az m).map λp=>(E3.gf[(z8 p π3).getD 0]?).getD (af,[])
 have sy:Loc π3 E3.gf tl:=by
  intro p n hp;obtain⟨hd,h'⟩:=r1.wf p n hp;refine⟨hd,h',?_⟩;show((az m).map _)[p]? =_;rw[vc,KT (gv p n hp)];simp only[we,hp,zm,h']
 have HF:tl.length=m:=by simp[tl]
 let E4:Ev:=⟨E3.F,E1.gf++tl⟩
 have qy:E1.le E4:=⟨hF,I9 _ _⟩
 have J1:∀n,n<N->∀hd,E3.gf[n]? =au hd->E4.gf[n]? =au hd:=by
  intro n hn hd e;have h1:E1.gf[n]? =au hd:=by
   rw[vd (by omega)];have:E3.gf[n]? =au (E1.gf[n]'(by omega)):=SV Lq (vd (by omega));rw[this]at e;exact e
  exact qy.get h1
 have Aw:∀p n hd,z8 p uw=au n->tl[p]? =au hd->E4.gf[n]? =au hd:=by
  intro p n hd hp ht;rcases hre p n hp with rfl|⟨h1,h2⟩
  ·show(E1.gf++tl)[N+p]? =au hd;rw[<- hN,B7 (by omega),show E1.gf.length+p-E1.gf.length=p by omega];exact ht
  ·obtain⟨oL,e1,e2⟩:=sy p n h1;rw[ht]at e2;cases e2;exact J1 n h2 _ e1
 refine⟨E4,qy,⟨by show(E1.gf++tl).length=N+m;rw[iv,HF,hN],?_⟩,?_⟩
 ·have H:=r1.rel.AB;have H1:=wS (g:=gz ⟨E3.F,tl⟩) (λr y hy=>by
   rcases hy with⟨e1,e2⟩|⟨n,h1,h2⟩
   ·exact .inl ⟨e1,e2⟩
   ·right;obtain⟨hd,h3,h4⟩:=h2 E3 π3 (Ev.le.refl _) (Ext.refl _) tl sy;obtain⟨oL,h5,h6⟩:=sy _ _ h1;rw[h3]at h5;cases h5;exact⟨hd,h6,h4⟩) H
  have H2:=nZ (E:=⟨E3.F,tl⟩) (E2:=E4) rfl Aw H1;have H3:Hp k w (s3.rows.map (gz E3)++((kE uw 0 (x.rows i)).map (gz E4)++fz E3.F::L)):=by
   refine H2.perm ?_;rw[<- jh,<- jh];exact A0.append_right _
  have H4:=Bs E4 rfl qy J1 _ H3;refine H4.perm ?_;show(kept.map (gz E4)++((kE uw 0 (x.rows i)).map (gz E4)++fz E3.F::L)).Perm ((kE uw 0 (x.rows i)++kept).map (gz E4)++fz E4.F::L);rw[<- jh,jr];exact A0.append_right _
 ·intro t;have ym:gw ⟨E3.F,tl⟩ (OB (x.dv i)) ((x.dv i).map λp=>ρ p.1):=q2 E3 π3 r1.le r1.ext tl sy;unfold MJ;split
  ·rename_i v hv;exact(z1b ym hv).uw Aw
  ·cases hb:pH t as
   ·exact(DU t hb).mono qy
   ·simp only[cond_true,VR]
def TI {w:ab} {E:Ev} {oQ:Nat->Bool}:∀{l:List (Nat×fi)} {M:List HP},Hp k w (l.map (gz E)++M)->Hp k w ((kG oQ l).map (gz E)++M)
 |[],M,H=>H
 |(n,o)::l,M,H=>by
  simp only[kG];cases oQ n
  ·exact TI H.drop
  ·have H1:Hp k w (l.map (gz E)++(gz E (n,o)::M)):=H.perm mo.symm;exact(TI H1).perm mo
def zTa {E:Ev} {env:Env} {K:xA->Prop}:∀{l:List (Nat×aa)} {ρ:xA},Zx l ρ K->ld E ρ env->∃ρ',ld E ρ' env/\K ρ'
 |[],ρ,h,_=>h.elim
 |(t,x)::l,ρ,h,he=>by
  rcases h with h|h
  ·unfold y2f at h;split at h<;>first|exact h.elim|skip
   rename_i y hy;obtain⟨rfl,hk⟩:=h;refine⟨_,λu=> ?_,hk⟩;have:=he u;cases hb:aw u t
   ·exact this
   ·rw[jb hb]at this ⊢;rw[hy]at this;exact this
  ·exact zTa h he
def zZn {H:A7} (hH:HW P H) (hm:P.follows .mixedOrders=bv) {J:List (Nat×gp)} {n:Nat}:∀(c:Code) (an:List gp) (Q:Exit->xA->St->Prop) (A:Nat->Bool) (e0:Env) (E0 E:Ev) (a:Act) (w:ab) (ρS:xA) (s:St),
 xb n c=bv->(∀t∈ui c,A t=bv)->Good n A e0 a->E0.le E->Rel k L E s w->ld E ρS (yM a)->mu P H J an c Q ρS s->c.wp P (UE k L n A e0 E0 Q) a w:=by
 intro c
 induction c with
 |skip=>intro an Q A e0 E0 E a w ρS s _ _ hg hle R he h;exact wp_skip ⟨hg,E,ρS,s,hle,R,he,h⟩
 |region id ops d=>
  intro an Q A e0 E0 E a w ρS s hc hA hg hle R he h;simp only[xb,lr]at hc;have xv:=z0r (A:=A) hc.1 hA;cases d
  ·refine wp_region_list ?_;exact zLx (Q:=UE k L n A e0 E0 Q) (E0:=E0) (K:=Q .normal) hH (λa w E ρS s hg hle R he h=>⟨hg,E,ρS,s,hle,R,he,h⟩) ops.toList a w E ρS s xv hg hle R he h
  ·refine wp_region_any hm ?_;have oS:tR ops.toList (uX ops.toList [])=bv:=hc.2;have ri:ld E ρS (yM a):=he;have R':Rel k L E s w.drew:=⟨R.nx,R.hp.drew⟩
   refine gI (Q:=λa w=>UE k L n A e0 E0 Q .normal a w) (λ_ _ h=>h) ops.size _ _ _ (M:=[]) (bf:=uX ops.toList []) ?_;have AJ:eK ops.toList (qK (cp ops.toList.length bz)):=by
    intro i o ho hi;exfalso;unfold qK at hi;simp[B8]at hi;rw[UN]at hi;split at hi<;>simp at hi
   have:=z2d (P:=P) (K:=Q .normal) (E0:=E0) (Q:=λa w=>UE k L n A e0 E0 Q .normal a w) hH oS xv (λa w E ρS s hg hle R he h=>⟨hg,E,ρS,s,hle,R,he,h⟩) ops.toList.length _ [] [] a _ E ρS s AJ (λm hm=>by cases hm) .nil hg hle R' ri h;simpa using this
 |seq x y Eg Ef=>
  intro an Q A e0 E0 E a w ρS s hc hA hg hle R he h;simp only[xb,lr,ui,pz]at hc hA;simp only[mu]at h;split at h
  ·refine wp_seq (ak (Eg _ _ A e0 E0 E a w ρS s hc.1 (λt ht=>hA t (.inl ht)) hg hle R he h) ?_);rintro e a' w' ⟨qd,E',ρ',s',jl,R',ri,h'⟩;cases e<;>first|exact Ef _ _ A e0 E0 E' a' w' ρ' s' hc.2 (λt ht=>hA t (.inr ht)) qd jl R' ri h'|exact⟨qd,E',ρ',s',jl,R',ri,h'⟩
  rename_i jn hjn;split at h
  ·rename_i t0 ts hts;refine wp_seq (ak (Eg _ _ A e0 E0 E a w ρS s hc.1 (λt ht=>hA t (.inl ht)) hg hle R he h) ?_);rintro e a' w' ⟨qd,E',ρ',s',jl,R',ri,h'⟩;cases e<;>first|exact⟨qd,E',ρ',s',jl,R',ri,h'⟩|skip
   obtain⟨E2,tv,R2⟩:=zTj (ρ:=ρ') (t0::ts) R';exact Ef _ _ A e0 E0 E2 a' w' ρ' _ hc.2 (λt ht=>hA t (.inr ht)) qd (jl.trans tv) R2 (ri.mono tv) h'
  split at h
  ·rename_i l0 ls Ps;refine wp_seq (ak (Eg _ _ A e0 E0 E a w ρS s hc.1 (λt ht=>hA t (.inl ht)) hg hle R he h) ?_);rintro e a' w' ⟨qd,E',ρ',s',jl,R',ri,h'⟩;cases e<;>first|exact⟨qd,E',ρ',s',jl,R',ri,h'⟩|skip
   obtain⟨ρ2,PI,h2⟩:=zTa h' ri;exact Ef _ _ A e0 E0 E' a' w' ρ2 s' hc.2 (λt ht=>hA t (.inr ht)) qd jl R' PI h2
  ·obtain⟨i0,h⟩:=h;obtain⟨E1,s1,π1,wu,⟨I,tx⟩,_,Ff,Cb,hmk⟩:=Te (x:=jn.pg) h R he (λp n e=>by cases e);obtain⟨Cq,RU,Bq⟩:=zK tx;have Cp:∀p q,z8 p (wM jn.fr π1 0 (jn.lp i0))=au q->z8 p π1=au q/\q<s1.nx:=λp q e=>by
    have h1:=pU e;obtain⟨hd,h2⟩:=Ff p q h1;exact⟨h1,by rw[<- Cb];exact(jv.1 h2).1⟩
   have C7:∀t,pH t []=bz->VR E1 (ρS t) (yM a t):=λt _=>(he t).mono wu
   obtain⟨E2,tv,R2,PI⟩:=hmk E1 (kG jn.oQ s1.rows) s1.nx ρS [] (Hh s1.nx (wM jn.fr π1 0 (jn.lp i0)) (jn.lp i0).length) (λp q e=>(WE e).imp_right (Cp p q)) Cb (xg.refl _) (I6 _) (λE4 _ qy _ M H=>wS (λr y=>gz.mono qy r) (TI H)) C7;have PC:Good n (λt=>A t && pH t (ui x)) (yM a) a:=⟨hg.size,hg.defers,λ_ _=>rfl⟩
   refine wp_seq (ak (Eg _ _ (λt=>A t && pH t (ui x)) (yM a) E2 E2 a w _ _ hc.1 (λt ht=>by rw[hA t (.inl ht),rz.2 ht];rfl) PC (Ev.le.refl _) R2 PI RU) ?_);rintro e a2 w2 ⟨yz,E3,ρ3,s3,Ay,R3,PG,h2⟩;have Jq:Good n A e0 a2:=⟨yz.size,yz.defers,λt ht=>by rw[yz.same t (by simp[ht]),hg.same t ht]⟩
   have Fo:E0.le E3:=hle.trans (wu.trans (tv.trans Ay));cases e<;>first|exact⟨Jq,E3,ρ3,s3,Fo,R3,PG,h2⟩|skip
   obtain⟨i',h2⟩:=h2;have U8:Ap (wM jn.fr π1 0 (jn.lp i0)) E3.gf:=λp q e=>by
    obtain⟨hd,h2⟩:=Ff p q (Cp p q e).1;exact⟨hd,(tv.trans Ay).get h2⟩
   obtain⟨E4,s4,π4,qy,⟨Fs,Bs⟩,Fv,_,hn4,Lu⟩:=Te h2 R3 PG U8;have C6:∀t,pH t (ui x)=bz->VR E1 (ρS t) (yM a2 t):=λt ht=>by rw[yz.same t (by simp[ht])];exact(he t).mono wu
   obtain⟨E5,Lx,R5,he5⟩:=Lu E1 (kG jn.oQ s1.rows) s1.nx ρS (ui x) (Hh s1.nx (wM jn.fr π1 0 (jn.lp i0)) (jn.rows i').length) (λp q e=>(WE e).imp_right λh=>⟨Fv p q h,(Cp p q h).2⟩) Cb (tv.trans (Ay.trans qy)).1 (tv.trans (Ay.trans qy)).2
    (λE6 hF _ hl M H=>V1 (E3:=E4) (E4:=E6) hF hl Bs Cq H) C6
   exact Ef _ _ A e0 E0 E5 a2 w2 _ _ hc.2 (λt ht=>hA t (.inr ht)) Jq (hle.trans (wu.trans Lx)) R5 he5 (Bq i' Fs)
 |cond c x y Eg Ef=>
  intro an Q A e0 E0 E a w ρS s hc hA hg hle R he h;simp only[xb,lr,ui,pz]at hc hA;simp only[mu]at h;split at h<;>first|exact h.elim|skip
  rename_i t ht;have hv:=he.ev c;rw[ht]at hv;simp only[VR,DR]at hv;have GN:=hv.1;rw[wL]at GN;refine wp_cond_split GN (λe=> ?_) (λe=> ?_)
  ·subst e;exact Eg _ _ A e0 E0 E a w ρS s hc.1 (λt ht=>hA t (.inl ht)) hg hle R he h
  ·subst e;exact Ef _ _ A e0 E0 E a w ρS s hc.2 (λt ht=>hA t (.inr ht)) hg hle R he h
 |block id x ih=>
  intro an Q A e0 E0 E a w ρS s hc hA hg hle R he h;refine wp_block (ak (ih an _ A e0 E0 E a w ρS s hc hA hg hle R he h) ?_);rintro e a' w' ⟨qd,E',ρ',s',jl,R',ri,h'⟩;cases e<;>first|exact⟨qd,E',ρ',s',jl,R',ri,h'⟩|skip
  rename_i ET;simp only[Exit.inBlock];simp only[yIw]at h';split
  ·rename_i heq;subst heq;rw[Nat.beq_refl]at h';exact⟨qd,E',ρ',s',jl,R',ri,h'⟩
  ·rename_i ji;have hb:aw ET id=bz:=by
    cases hb:aw ET id with
    |false=>rfl
    |true=>exact absurd (jb hb) ji
   rw[hb]at h';exact⟨qd,E',ρ',s',jl,R',ri,h'⟩
 |loop x ih=>
  intro an Q A e0 E0 E a w ρS s hc hA hg hle R he h;cases an with
  |nil=>exact h.elim
  |cons an rest=>
   have hh:=dC h;clear h;rcases hh with⟨_,h⟩|⟨_,h⟩
   ·refine wp_loop_rounds an.un ?_;revert h;generalize an.un=m;intro h
    induction m generalizing a w E ρS s with
    |zero=>exact h.elim
    |succ m ihm=>
     rw[rounds_succ];simp only[yLa]at h;refine ak (ih rest _ A e0 E0 E a w ρS s hc hA hg hle R he h) ?_;rintro e a' w' ⟨qd,E',ρ',s',jl,R',ri,h'⟩;cases e<;>first|exact ihm E' a' w' ρ' s' qd jl R' ri h'|exact⟨qd,E',ρ',s',jl,R',ri,h'⟩
   obtain⟨i0,h⟩:=h;obtain⟨E1,s1,π1,wu,⟨I,μ,RO,tx⟩,_,Ff,Cb,hmk⟩:=Te h R he (λp n e=>by cases e);obtain⟨Cq,tx⟩:=zK tx;have Cp:∀p q,z8 p (wM an.fr π1 0 (an.rows i0))=au q->z8 p π1=au q/\q<s1.nx:=λp q e=>by
    have h1:=pU e;obtain⟨hd,h2⟩:=Ff p q h1;exact⟨h1,by rw[<- Cb];exact(jv.1 h2).1⟩
   have C7:∀t,pH t (ui x)=bz->VR E1 (ρS t) (yM a t):=λt _=>(he t).mono wu
   obtain⟨E2,tv,R2,PI⟩:=hmk E1 (kG an.oQ s1.rows) s1.nx ρS (ui x) (eX an.fr s1.nx π1 0 (an.rows i0)) (λp q e=>(ME e).imp_right (Cp p q)) Cb (xg.refl _) (I6 _) (λE4 _ qy _ M H=>wS (λr y=>gz.mono qy r) (TI H)) C7;refine wp_loop_ghost (λm a' w'=>Good n A e0 a'/\(∀t,pH t (ui x)=bz->yM a' t=yM a t)/\∃i E',E1.le E'/\I i/\Rel k L E' (NY s1.nx (eX an.fr s1.nx π1 0 (an.rows i0)) (an.rows i) (kG an.oQ s1.rows)) w'/\
    ld E' (MJ (eX an.fr s1.nx π1 0 (an.rows i0)) (an.dv i) (ui x) ρS) (yM a')/\μ i=m) (μ i0) ⟨hg,λ_ _=>rfl,i0,E2,tv,RO,R2,PI,rfl⟩ ?_
   rintro m a' w' ⟨qd,DU,i,E',jl,hinv,R',ri,rfl⟩;have h1:=tx i hinv;have PC:Good n (λt=>A t && pH t (ui x)) (yM a') a':=⟨qd.size,qd.defers,λ_ _=>rfl⟩
   refine ak (ih rest _ (λt=>A t && pH t (ui x)) (yM a') E' E' a' w' _ _ hc (λt ht=>by rw[hA t ht,rz.2 ht];rfl) PC (Ev.le.refl _) R' ri h1) ?_;rintro e a2 w2 ⟨yz,E3,ρ3,s3,Ay,R3,PG,h2⟩;have Jq:Good n A e0 a2:=⟨yz.size,yz.defers,λt ht=>by rw[yz.same t (by simp[ht]),qd.same t ht]⟩
   have Fo:E0.le E3:=hle.trans (wu.trans (jl.trans Ay));cases e<;>first|exact⟨Jq,E3,ρ3,s3,Fo,R3,PG,h2⟩|skip
   obtain⟨i',h2⟩:=h2;have U8:Ap (wM an.fr π1 0 (an.rows i0)) E3.gf:=λp q e=>by
    obtain⟨hd,h2⟩:=Ff p q (Cp p q e).1;exact⟨hd,(jl.trans Ay).get h2⟩
   obtain⟨E4,s4,π4,qy,⟨Fs,hμ,Bs⟩,Fv,_,hn4,Lu⟩:=Te h2 R3 PG U8;have C6:∀t,pH t (ui x)=bz->yM a2 t=yM a t:=λt ht=>by rw[yz.same t (by simp[ht]),DU t ht]
   obtain⟨E5,Lx,R5,he5⟩:=Lu E1 (kG an.oQ s1.rows) s1.nx ρS (ui x) (eX an.fr s1.nx π1 0 (an.rows i0)) (λp q e=>(ME e).imp_right λh=>⟨Fv p q h,(Cp p q h).2⟩) Cb (jl.trans (Ay.trans qy)).1 (jl.trans (Ay.trans qy)).2
    (λE6 hF _ hl M H=>V1 (E3:=E4) (E4:=E6) hF hl Bs Cq H) (λt ht=>by rw[C6 t ht];exact C7 t ht)
   exact⟨_,hμ,Jq,C6,i',E5,Lx,Fs,R5,he5,rfl⟩
 |exit id=>intro an Q A e0 E0 E a w ρS s _ _ hg hle R he h;exact wp_exit ⟨hg,E,ρS,s,hle,R,he,h⟩
 |ret=>intro an Q A e0 E0 E a w ρS s _ _ hg hle R he h;exact wp_ret ⟨hg,E,ρS,s,hle,R,he,h⟩
 |rangeFunc f ps x y Eg Ef=>intro an Q A e0 E0 E a w ρS s _ _ hg hle R he h;exact h.elim
 |scope x ih=>intro an Q A e0 E0 E a w ρS s _ _ hg hle R he h;exact h.elim
 |label l=>intro an Q A e0 E0 E a w ρS s _ _ hg hle R he h;exact h.elim
 |goto l=>intro an Q A e0 E0 E a w ρS s _ _ hg hle R he h;exact h.elim
 |refuse t=>intro an Q A e0 E0 E a w ρS s _ _ hg hle R he h;exact h.elim
variable {P:ae} {k:Ko} {L:List HP}
def He (P:ae) (ρ:xA) (s:St):List ResultVar->Option (List V)
 |[]=>au []
 | .tmp t::rs=>match He P ρ s rs with
   |some vs=>au (ρ t::vs)
   |none=>av
 | .cell a t::rs=>match ρ a with
   | .nm n off=>match s.get n with
     |some (.cells vs _)=>match UD P t vs off with
      |some v=>match He P ρ s rs with
       |some us=>au (v::us)
       |none=>av
      |none=>av
     |_=>av
   |_=>av
def Ml:List V->V
 |[v]=>v
 |vs=> .ja vs
def YE {E:Ev} {s:St} {w:ab} (R:Rel k L E s w) {ρS:xA} {a:Act} (he:ld E ρS (yM a)):∀{rs:List ResultVar} {vs:List V},He P ρS s rs=au vs->∃ys,(rs.mapM (Hb a.tmps)).run P w= .ok ys w/\gw E vs ys
 |[],vs,h=>by
  simp only[He,cg]at h;subst h;exact⟨[],rfl,gw.nil⟩
 | .tmp t::rs,vs,h=>by
   simp only[He]at h;split at h<;>first|(cases h;done)|skip
   rename_i us Pl;cases h;obtain⟨ys,h1,h2⟩:=YE R he Pl;refine⟨yM a t::ys,?_,by simp only[gw];exact⟨_,_,rfl,he t,h2⟩⟩;simp only[be,Hb,bind,pure,run_bind,ct,cr]at h1 ⊢;rw[h1]
 | .cell c t::rs,vs,h=>by
   simp only[He]at h;split at h<;>first|(cases h;done)|skip
   rename_i n off hc;split at h<;>first|(cases h;done)|skip
   rename_i cs T hg;split at h<;>first|(cases h;done)|skip
   rename_i v hp;split at h<;>first|(cases h;done)|skip
   rename_i us Pl;cases h;obtain⟨ys,h1,h2⟩:=YE R he Pl;have hv:=he c;rw[hc]at hv;simp only[VR]at hv;obtain⟨b,oo,l,e1,e2⟩:=hv;obtain⟨b',l',sub,q1,q2,q3⟩:=R.cells hg;rw[e1]at q1;cases q1;obtain⟨y,hy,hh⟩:=zMe q2 q3 hp;refine⟨y::ys,?_,by simp only[gw];exact⟨_,_,rfl,hy,h2⟩⟩;rw[oa]at e2;have e2':a.tmps.getD c af= .pointer (au ⟨b,off,av⟩):=e2;unfold nX at hh;simp only[be,Hb,bind,pure,run_bind,ct,cr,e2',asAddr,hh]at h1 ⊢;rw[h1]
def Vr (P:ae) (fn:Func) (K:V->St->Prop):Exit->xA->St->Prop
 | .normal,ρ,s=>iI (He P ρ s fn.results.toList) λvs=>K (Ml vs) s
 | .ret,ρ,s=>iI (He P ρ s fn.results.toList) λvs=>K (Ml vs) s
 |_,_,_=>False
def OD:List V->Nat->V
 |[],_=> .top
 |v::_,0=>v
 |_::l,n+1=>OD l n
def NS (args:List V):xA:=λt=>OD args t
def z9j {E:Ev}:∀{vs:List V} {ys:List aa},gw E vs ys->∀t,VR E (OD vs t) (ys.getD t af)
 |[],ys,h,t=>by simp only[OD,VR]
 |v::vs,ys,h,t=>by
  simp only[gw]at h;obtain⟨x,xs,rfl,h1,h2⟩:=h;cases t with
  |zero=>exact h1
  |succ t=>simpa[OD]using z9j h2 t
def mT {f:ap} {args:Array aa} {w:ab} {K:aa->ab->Prop} (hb:hZ P f=bv) (h:Calls P f args w λe w'=>∃v,e= .returned v/\K v w'):nf P (ag f args) w K:=by
 unfold hZ at hb;split at hb
 ·rename_i fn HM;simp only[lr,EM,Bool.not_eq_eq_eq_not,Bool.not_true]at hb;unfold nf;have:(ag f args).run P w= .ok (.enter f args) w:=by
   simp only[ag,bind,pure,run_bind,program,cr,ct,HM,hb.1,hb.2,oK,if_false]
  rw[this];exact h
 ·cases hb
def zAd {H:A7} (hH:HW P H) (hm:P.follows .mixedOrders=bv) {f:ap} {fn:Func} {c:Code} (hf:P.funcs[f]? =au fn) (hb:fn.body=au c) (oS:xb fn.ntmps c=bv) (J:List (Nat×gp)) (an:List gp)
 {args:List V} (oZ:ay args.length fn.ntmps=bv) {K:V->St->Prop} {s:St} (h:mu P H J an c (Vr P fn K) (NS args) s) {E:Ev} {w:ab} {ys:List aa} (R:Rel k L E s w) (hv:gw E args ys):
 Calls P f ys.toArray w λe w'=>∃v,e= .returned v/\o7 k L E K v w':=by
 refine calls_of_wp hf hb ?_;have oZ:=BL oZ;have hlen:=hv.length;have hg:Good fn.ntmps (λ_=>bv) (hJ ys) {tmps:=ys.toArray++cp (fn.ntmps-ys.toArray.size) af,defers:=[]}:=
  ⟨by simp;omega,rfl,λs hs=>by cases hs⟩
 have Ly:yM {tmps:=ys.toArray++cp (fn.ntmps-ys.toArray.size) af,defers:=[]}=hJ ys:=by
  funext i;simp only[yM,hJ,B8,nk,Array.getElem?_append];split
  ·simp
  ·rename_i gv;simp at gv;rw[ue gv,UN];split<;>rfl
 have he:ld E (NS args) (yM {tmps:=ys.toArray++cp (fn.ntmps-ys.toArray.size) af,defers:=[]}):=by
  rw[Ly];intro t;exact z9j hv t
 refine ak (zZn hH hm c an _ (λ_=>bv) (hJ ys) E E _ w _ s oS (λ_ _=>rfl) hg (Ev.le.refl _) R he h) ?_;have fin:∀{a':Act} {w':ab} {E':Ev} {ρ':xA} {s':St},Good fn.ntmps (λ_=>bv) (hJ ys) a'->E.le E'->Rel k L E' s' w'->ld E' ρ' (yM a')->(iI (He P ρ' s' fn.results.toList) λvs=>K (Ml vs) s')->
  ∃v,(results fn a'.tmps).run P w'= .ok v w'/\∃v',Ending.returned v= .returned v'/\o7 k L E K v' w':=by
  intro a' w' E' ρ' s' qd jl R' ri h';obtain⟨vs,hvs,hk⟩:=zM h';obtain⟨zs,h1,h2⟩:=YE R' ri hvs;refine⟨Hl zs,?_,_,rfl,E',Ml vs,s',jl,R',?_,hk⟩
  ·unfold results;rw[Array.mapM_eq_mapM_toList,map_eq_pure_bind,bind_assoc];exact zLm h1 _ (λr=>by cases r<;>rfl)
  ·rcases vs with _|⟨v,_|⟨u,vs⟩⟩
   ·simp only[gw]at h2;subst h2;simp only[Ml,Hl,VR];exact⟨[],rfl,gw.nil⟩
   ·simp only[gw]at h2;obtain⟨x,xs,rfl,h3,rfl⟩:=h2;exact h3
   ·have h20:=h2;simp only[gw]at h2;obtain⟨x,xs,rfl,h3,y,Dz,rfl,h4,h5⟩:=h2;simp only[Ml,Hl,VR];exact⟨_,rfl,h20⟩
 rintro e a' w' ⟨qd,E',ρ',s',jl,R',ri,h'⟩;cases e<;>first|exact h'.elim|skip
 ·obtain⟨v,h1,h2⟩:=fin qd jl R' ri h';exact⟨qd.defers,v,h1,h2⟩
 ·obtain⟨v,h1,h2⟩:=fin qd jl R' ri h';exact⟨qd.defers,v,h1,h2⟩
def zDc {H:A7} (hH:HW P H) (hm:P.follows .mixedOrders=bv) {f:ap} {fn:Func} {c:Code} (hf:P.funcs[f]? =au fn) (hb:fn.body=au c) (BQ:hZ P f=bv) (oS:xb fn.ntmps c=bv) (J:List (Nat×gp)) (an:List gp)
 {args:List V} (oZ:ay args.length fn.ntmps=bv) {K:V->St->Prop} {s:St} (h:mu P H J an c (Vr P fn K) (NS args) s) {E:Ev} {w:ab} {ys:List aa} (R:Rel k L E s w) (hv:gw E args ys):
 nf P (ag f ys.toArray) w (o7 k L E K):=mT BQ (zAd hH hm hf hb oS J an oZ h R hv)
def E0 (w:ab):Ev:=⟨λb=>w.heap[b]?,[]⟩
def y7g (w:ab) (hG:DX λb=>w.heap[b]?):Rel (Cv.ko w) [] (E0 w) ⟨[],0⟩ w:=⟨rfl,(Hp.start w).imp λx hx=>⟨hx,hG⟩⟩
def y5h (f:Nat):List (Nat×gi)->Option gi
 |[]=>av
 |(g,C)::l=>bif aw g f then au C else y5h f l
def A9 (P:ae):List (Nat×gi)->Prop
 |[]=>True
 |(f,C)::l=>C.ok P f/\A9 P l
def OG (f:Nat):List (Nat×gi)->Bool
 |[]=>bz
 |(g,_)::l=>bif aw g f then bv else OG f l
def Mk (f:Nat) (args:List V) (s:St) (K:V->St->Prop):List (Nat×gi)->Prop
 |[]=>False
 |(g,C)::l=>bif aw g f then(bif OG f l then C.call args s K\/Mk f args s K l else C.call args s K)else Mk f args s K l
def TF {f:Nat} {args:List V} {s:St} {K:V->St->Prop}:∀{G:List (Nat×gi)},A9 P G->Mk f args s K G->∃C:gi,C.ok P f/\C.call args s K
 |[],_,h=>h.elim
 |(g,C)::l,hG,h=>by
  simp only[Mk]at h;cases hb:aw g f with
  |false=>rw[hb]at h;exact TF hG.2 h
  |true=>
   rw[hb]at h;have e:=jb hb;subst e;cases hl:OG g l with
   |false=>rw[hl]at h;exact⟨C,hG.1,h⟩
   |true=>
    rw[hl]at h;rcases h with h|h
    ·exact⟨C,hG.1,h⟩
    ·exact TF hG.2 h
def qt (P:ae) (G:List (Nat×gi)):Nat->A7
 |0,f,args,s,K=>match OG f G with
  |true=>Mk f args s K G
  |false=>False
 |d+1,f,args,s,K=>match OG f G with
  |true=>Mk f args s K G
  |false=>match P.funcs[f]? with
   |some fn=>match fn.body with
    |some c=>bif hZ P f && xb fn.ntmps c && ay args.length fn.ntmps then mu P (qt P G d) [] [] c (Vr P fn K) (NS args) s else False
    |none=>False
   |none=>False
def yKi (hm:P.follows .mixedOrders=bv) {G:List (Nat×gi)} (hG:A9 P G):∀d,HW P (qt P G d):=by
 intro d
 induction d with
 |zero=>
  intro f args s K h k L E w ys R hv;simp only[qt]at h;split at h<;>first|exact h.elim|skip
  obtain⟨C,h1,h2⟩:=TF hG h;exact gi.ye h1 h2 R hv
 |succ d ih=>
  intro f args s K h k L E w ys R hv;simp only[qt]at h;split at h
  ·obtain⟨C,h1,h2⟩:=TF hG h;exact gi.ye h1 h2 R hv
  ·split at h<;>first|exact h.elim|skip
   rename_i fn HM;split at h<;>first|exact h.elim|skip
   rename_i c hc;obtain⟨hb,h⟩:=zK h;simp only[lr]at hb;exact zDc ih hm HM hc hb.1.1 hb.1.2 [] [] hb.2 h R hv
def KG:Nat->NM
 |0=>[]
 |m+1=>(m,m)::KG m
def z1c:∀{m p:Nat},p<m->z8 p (KG m)=au p
 |m+1,p,h=>by
  simp only[KG,z8];cases hb:aw m p
  ·have:m≠p:=λe=>by subst e;simp at hb
   exact z1c (by omega)
  ·rw[<- jb hb];rfl
def zHz:∀{m p q:Nat},z8 p (KG m)=au q->p<m/\q=p
 |0,p,q,h=>by cases h
 |m+1,p,q,h=>by
  simp only[KG,z8]at h;cases hb:aw m p
  ·rw[hb]at h;obtain⟨h1,h2⟩:=zHz h;exact⟨by omega,h2⟩
  ·rw[hb]at h;have:=jb hb;simp only[cond_true,cg]at h;exact⟨by omega,by omega⟩
def Uw (m:Nat) (v:V) (s:St) (a:Alt):Prop:=
 ∃o,BM (a.res o) v (KG m) s λπ s=>HD 0 (a.post o) π s λπ _=>bif tK (a.post o).length π && ay m (a.post o).length then a.rel o else False
def Up (m:Nat) (v:V) (s:St):List Alt->Prop
 |[]=>False
 |[a]=>Uw m v s a
 |a::l=>Uw m v s a\/Up m v s l
def S6 {m:Nat} {v:V} {s:St}:∀{l:List Alt},Up m v s l->∃a∈l,Uw m v s a
 |[a],h=>⟨a,by simp,h⟩
 |a::b::l,h=>by
  rcases h with h|h
  ·exact⟨a,by simp,h⟩
  ·obtain⟨c,h1,h2⟩:=S6 h;exact⟨c,kg _ h1,h2⟩
def V7 {w:ab} {m:Nat} {v:V} {s:St} {a:Alt} {E0 E:Ev} (h:Uw m v s a) (hn:E0.gf.length=m) (hle:E0.le E) (R:Rel k L E s w) {y:aa} (hv:VR E v y):
 ∃o,a.rel o/\∃E',E0.le E'/\VR E' (a.res o) y/\Rel k L E' ⟨gF 0 (a.post o),(a.post o).length⟩ w:=by
 obtain⟨o,h⟩:=h;have AR:Ap (KG m) E.gf:=λp n e=>by
  obtain⟨h1,rfl⟩:=zHz e;exact⟨E0.gf[n]'(by omega),hle.get (vd (by omega))⟩
 obtain⟨E1,π1,s1,q1,q2,q3⟩:=ZQ h R AR hv;obtain⟨E2,π2,s2,r1,r2⟩:=Sm q3 q1.rel q1.wf;obtain⟨hb,Lp⟩:=zK r2;simp only[lr]at hb;have gv:=mK hb.1;have hmq:=BL hb.2
 let q:=(a.post o).length
 let tl:List Hd:=(az q).map λp=>(E2.gf[(z8 p π2).getD 0]?).getD (af,[])
 have kf:∀p,p<q->tl[p]? =au ((E2.gf[(z8 p π2).getD 0]?).getD (af,[])):=λp hp=>by
  show((az q).map _)[p]? =_;rw[vc,KT hp];rfl
 have sy:Loc π2 E2.gf tl:=by
  intro p n hp;obtain⟨hd,h'⟩:=r1.wf p n hp;refine⟨hd,h',?_⟩;rw[kf p (gv p n hp)];simp only[hp,zm,h']
 have tv:E0.le E2:=hle.trans (q1.le.trans r1.le);have Lq:E0.gf<+:tl:=by
  refine⟨tl.drop m,?_⟩;apply Hw;intro p;by_cases hp:p<m
  ·rw[Ec (by omega)];have yx:z8 p π2=au p:=r1.ext _ _ (q1.ext _ _ (z1c hp));have e1:E0.gf[p]? =au (E0.gf[p]'(by omega)):=vd (by omega);rw[kf p (by omega),yx,zm,tv.get e1,e1];rfl
  ·rw[B7 (by omega),AZ,hn,show m+(p-m)=p by omega]
 refine⟨o,Lp,⟨E2.F,tl⟩,⟨tv.1,Lq⟩,q2 E2 π2 r1.le r1.ext tl sy,⟨by simp[tl,q],?_⟩⟩;have H:=r1.rel.AB;have H1:=wS (g:=gz ⟨E2.F,tl⟩) (λr x hx=>by
  rcases hx with⟨e1,e2⟩|⟨n,h1,h2⟩
  ·exact .inl ⟨e1,e2⟩
  ·right;obtain⟨hd,h3,h4⟩:=h2 E2 π2 (Ev.le.refl _) (Ext.refl _) tl sy;obtain⟨oL,h5,h6⟩:=sy _ _ h1;rw[h3]at h5;cases h5;exact⟨hd,h6,h4⟩) H
 have H2:Hp k w (s2.rows.map (gz E2)++((gF 0 (a.post o)).map (gz ⟨E2.F,tl⟩)++fz E2.F::L)):=by
  refine H1.perm ?_;rw[<- jh,<- jh];exact A0.append_right _
 have RR:∀(l:List (Nat×fi)) {M:List HP},Hp k w (l.map (gz E2)++M)->Hp k w M:=by
  intro l
  induction l with
  |nil=>intro M H;exact H
  |cons a l ih=>intro M H;exact ih H.drop
 exact RR _ H2
def walk (P:ae) (G:List (Nat×gi)) (d:Nat) (J:List (Nat×gp)) (an:List gp) (op:List Nat) (fn:Func) (c:Code) (args:List V) (rows:List fi) (alts:List Alt):Prop:=
 mu P (qt P G d) J an c (Vr P fn λv s=>Up rows.length v s alts) (NS args) (S0 op ⟨gF 0 rows,rows.length⟩)
def vB (hm:P.follows .mixedOrders=bv) {f:ap} {fn:Func} {c:Code} {C:gi} (G:List (Nat×gi)) (hG:A9 P G) (d:Nat) (J:C.ι->List (Nat×gp)) (an:C.ι->List gp) (op:List Nat) (hf:P.funcs[f]? =au fn) (hb:fn.body=au c) (BQ:hZ P f=bv) (oS:xb fn.ntmps c=bv)
 (oZ:∀i,ay (C.pat i).length fn.ntmps=bv) (h:∀i,C.dq i->walk P G d (J i) (an i) op fn c (C.pat i) (C.pre i) (C.alts i)):C.ok P f:=by
 intro i hc k L E w ys R hv;obtain⟨E1,hle,R1⟩:=YQ op R;refine(zDc (yKi hm hG d) hm hf hb BQ oS (J i) (an i) (oZ i) (h i hc) R1 (hv.mono hle)).mono ?_;rintro y w' ⟨E',v,s',jl,R',Jh,hk⟩;obtain⟨a,ha,Fg⟩:=S6 hk;obtain⟨o,h1,E2,h2,h3,h4⟩:=V7 Fg R.nx (hle.trans jl) R' Jh;exact⟨a,ha,o,h1,E2,h2,h3,h4⟩
def aH (t:aj):gi where
 ι:=List (aa×List D)
 pat:=λ_=>[.zo t (.mp 0)]
 pre:=λes=>[.map es]
 dq:=λ_=>True
 alts:=λes=>[{o:=Unit,res:=λ_=> .zo t (.mp 1),post:=λ_=>[.map es,.map es],rel:=λ_=>True}]
def z4v {f : FuncId} {fn : Func} (hf : P.funcs[f]? = some fn) (Br : (fn.name == "runtime.NumGoroutine") = false) (hb : fn.body.isNone = true) (hn : Extern.findNext fn = none) (he : Extern.find fn = some Extern.MapsClone.clone) (t : TypeId) : (aH t).ok P f := by
 intro es _ k L E w ys R hv;simp only[aH,gw,VR]at hv;obtain⟨y,_,rfl,⟨z,rfl,b,sub,e1,rfl⟩,rfl⟩:=hv;have hg:(⟨gF 0 [.map es],1⟩:St).get 0=au (.map es):=rfl;obtain⟨hd,x,q1,q2,q3⟩:=R.row hg (by simp);rw[e1]at q1;cases q1;simp only[fm]at q2;obtain⟨b',fy,ck,e4,e5,e6,rfl⟩:=q2;cases e4;have hm:=q3 b _ (by simp[one];rfl);have jk:(Extern.MapsClone.clone #[.iface t (.map (au b))]).run P w= .ok (.iface t (.map (au w.heap.size))) (w.alloc (.map fy.toArray ck)):=by
  have e:Extern.MapsClone.clone #[.iface t (.map (au b))]=(getObj b>>=λo=>match o with
   | .map entries clock=>(newObj (.map entries clock)>>=λn=>pure (.iface t (.map (au n))))
   | _ => stuck "maps.clone: a map expected") := rfl
  rw[e];simp only[bind,run_bind,qM hm trivial];rfl
 unfold nf;rw[run_callFunc_extern hf Br hb hn he,jk];simp only[Result.andThen];have LW:fm E.F (.map es) (E.gf++[(.map (au w.heap.size),[])]) (.map (au w.heap.size),[]) (one w.heap.size (.map fy.toArray ck)):=by
  simp only[fm];exact⟨_,fy,ck,rfl,e5,e6,rfl⟩
 obtain⟨h1,h2,h3⟩:=R.new LW;refine⟨_,vm.2 rfl,(),trivial,_,h1,by simp only[VR];exact⟨_,rfl,_,_,h3,rfl⟩,⟨h2.nx,h2.hp.perm ?_⟩⟩;exact .swap _ _ _
def zXn {E:Ev} {s:St} {w w':ab} (hle:(E0 w).le E) (R:Rel (Cv.ko w) [] E s w'):Below w.heap.size w w':=by
 have GV:=R.frozen;obtain⟨h1,h2,h3⟩:=R.hp.1;have QB:∀b,b<w.heap.size->w'.heap[b]? =w.heap[b]? :=λb hb=>by
  have:w.heap[b]? =au w.heap[b]:=OZ hb;rw[this];exact GV b _ (hle.1 b _ this)
 refine⟨h1,h2,h3,?_,QB⟩;rcases ur w'.heap.size w.heap.size with gv|K4
 ·have:=QB w'.heap.size gv;rw[GI (lk _),OZ gv]at this;cases this
 ·exact K4
def zh (hm:P.follows .mixedOrders=bv) {f:ap} {fn:Func} {c:Code} (G:List (Nat×gi)) (hG:A9 P G) (d:Nat) (J:List (Nat×gp)) (an:List gp) (hf:P.funcs[f]? =au fn) (hb:fn.body=au c) (oS:xb fn.ntmps c=bv)
 {args:List V} {alts:List Alt} (oZ:ay args.length fn.ntmps=bv) (h:walk P G d J an [] fn c args [] alts) {w:ab} (hG0:DX λb=>w.heap[b]?) {ys:List aa} (hv:gw (E0 w) args ys):
 Calls P f ys.toArray w λe w'=>∃y,e= .returned y/\Below w.heap.size w w'/\∃a∈alts,∃o,a.rel o/\∃E',VR E' (a.res o) y:=by
 refine(zAd (yKi hm hG d) hm hf hb oS J an oZ h (y7g w hG0) hv).mono ?_;rintro e w' ⟨y,he,E',v,s',hle,R,Pj,hk⟩;obtain⟨a,ha,Fg⟩:=S6 hk;obtain⟨o,h1,E2,h2,h3,h4⟩:=V7 Fg rfl hle R Pj;exact⟨y,he,zXn hle R,a,ha,o,h1,E2,h3⟩
@[reducible] def zA (n:Int):V:= .d (.v (.int .i64 n))
@[reducible] def lV (n:Int):V:= .d (.v (.int .u64 n))
@[reducible] def Uy (n:Int):V:= .d (.v (.int .u32 n))
@[reducible] def yN (b:Bool):V:= .d (.v (.bool b))
@[reducible] def oD (sz:Nat) (ez:List (List D)):V:= .d (.ro sz ez)
def bN:V:= .ja []
@[reducible] def fp (ι:Type) (pat:ι->List V) (pre:ι->List fi) (dq:ι->Prop) (res:ι->V) (post:ι->List fi):gi where
 ι:=ι
 pat:=pat
 pre:=pre
 dq:=dq
 alts:=λi=>[{o:=Unit,res:=λ_=>res i,post:=λ_=>post i,rel:=λ_=>True}]
def bE (l:List UInt8):List (List D):=l.map λb=>[.v (.int .u8 b.toNat)]
@[simp] theorem NX (a b:List UInt8):bE (a++b)=bE a++bE b:=by simp[bE]
@[simp] theorem y7k:bE []=[]:=rfl
@[simp] theorem yH (a:List UInt8):(bE a).length=a.length:=by simp[bE]
def Oc (a:List UInt8) (n:Nat):bE (a.take n)=(bE a).take n:=by simp[bE]
def MD (a:List UInt8) (n:Nat):bE (a.drop n)=(bE a).drop n:=by simp[bE]
def zUn (s:ByteArray):jI s=bE s.data.toList:=rfl
def jj (n:Int):UInt8:=UInt8.ofNat (n % 256).toNat
def le (n:Int):Nat->List UInt8
 |0=>[]
 |k+1=>jj n::le (n / 256) k
def xJ (k:Nat):∀n:Int,(le n k).length=k:=by
 induction k with
 |zero=>intro n;rfl
 |succ k ih=>intro n;simp[le,ih]
def yRq (k:Nat):∀n:Int,le n (k+1)=le n k++[jj (n / 256 ^ k)]:=by
 induction k with
 |zero=>intro n;simp[le]
 |succ k ih=>
  intro n;have:n / 256 / 256 ^ k=n / 256 ^ (k+1):=by
   rw[Int.ediv_ediv_of_nonneg (by omega),Int.pow_succ,EH]
  rw[le,ih,le,this,uc]
def SX (n:Int):cz.wrap n=((jj n).toNat:Int):=by
 have:(cz.wrap n)=n % 256:=rfl;rw[this];unfold jj;have h1:(n % 256).toNat<256:=by omega
 rw[UInt8.toNat_ofNat_of_lt' (by simpa using h1)];omega
def iA {x:Int} (h: -9223372036854775808<=x/\x<=9223372036854775807):da.wrap x=x:=Cv.wrap_i64 h.1 h.2
def BH {x:Int} (h:0<=x/\x<18446744073709551616):cx.wrap x=x:=by
 have:cx.wrap x=x % 18446744073709551616:=rfl;rw[this];omega
def y3s {x:Int} (h:0<=x/\x<4294967296):cy.wrap x=x:=by
 have:cy.wrap x=x % 4294967296:=rfl;rw[this];omega
def Oh (k:IntKind) (a:Int) (b:Nat) (h:b<=k.bits):c9 k a b=a / 2 ^ b:=by
 unfold c9;rw[show min (Int.toNat (b:Int)) k.bits=b by simp;omega];rw[Int.fdiv_eq_ediv_of_nonneg];exact Int.pow_nonneg (by omega)
def zH {p:Prop} [Decidable p] {A B:Prop} (h1:p->A) (h2:¬p->B):dq (decide p) A B:=Cv.dq.mk (λh=>h1 (oV h)) (λh=>h2 (KS h))
def fj {P:ae}:A9 P []:=trivial
def dx {P:ae} {f:Nat} {C:gi} {l:List (Nat×gi)} (h:C.ok P f) (hl:A9 P l):A9 P ((f,C)::l):=⟨h,hl⟩
end Sx
