/- Texts of ours. No condition. -/
import Derived.Laws.Externs
import Derived.Lib.ConvBytes
import Derived.LoopN
import Derived.MapKept
import Derived.Test.YtgmmlhddihaocaaGreatC2
set_option linter.all false
open Go renaming Value->aa,World->ab,execOp->ac,Program->ae,undef->af,callFunc->ag,TypeId->aj,wp_mono->ak,grownCap->am,Oper->ao,FuncId->ap,MapEntry->aq,Operand->ar
open Option renaming some->au,none->av
open Nat renaming beq->aw,blt->ax,ble->ay
open List renaming range->az,replicate->ba,map->bc,mapM_cons->be
open Go.Lib renaming bytesCells->bg,bytesWorld->bo
open Bool renaming true->bu,false->bv
open List.Perm renaming append_left->bz,append_right->cd,cons->ce
open Option.some renaming injEq->cf,inj->cg
open Go.Value renaming pointer->ci,int->cm
open Array renaming replicate->cn,ext'->co
open Go.Sem renaming run->cp,bind->cq
open Go.Region renaming wanted->cr,ready->ct
open Go.IntKind renaming u64->cu,u32->cw,u8->cx,i64->cy
namespace Sx
open Go Go.RowKit Cv
variable {P:ae} {k:Ko} {L:List HP} {E:Ev} {s:St} {w:ab}
def Ev.le.app {E:Ev} (hd:Hd):E.le ⟨E.F,E.fv++[hd]⟩:=⟨wv.refl _,IT _ _⟩
def Rel.rn (R:Rel k L E s w) {n t sz:Nat} {eg:List (List D)} (h:s.get n=au (.own t sz eg)):
 ∃a c xs sub,E.fv[n]? =au (.slice a eg.length c,sub)/\iz E.F eg.flatten xs/\(∀el∈eg,el.length=sz)/\Hp k w (oa t sz a eg.length c xs::((vH n s.rows).map (gu E)++fz E.F::L)):=by
 obtain⟨hk,hs,hh⟩:=R.focus h;cases hh with
 |cons ha iS hd hr=>
  rcases ha with⟨e,_⟩|⟨⟨hv,sub⟩,h1,h2⟩
  ·cases e
  ·simp only[fi]at h2;obtain⟨a,c,xs,rfl,q1,q2,q3⟩:=h2;exact⟨a,c,xs,sub,h1,q1,q2,hk,_,.cons q3 iS hd hr⟩
def cY {rows:List (Nat×ff)} {nx t sz:Nat} {eg:List (List D)} {a:Option Addr} {c:Nat} {xs:List aa} (hn:E.fv.length=nx) (hx:iz E.F eg.flatten xs) (hu:∀el∈eg,el.length=sz)
 (H:Hp k w (oa t sz a eg.length c xs::(rows.map (gu E)++fz E.F::L))):
 ∃E',E.le E'/\Rel k L E' ⟨(nx,.own t sz eg)::rows,nx+1⟩ w/\VR E' (.own nx) (.slice a eg.length c):=by
 have hle:E.le ⟨E.F,E.fv++[(.slice a eg.length c,[])]⟩:=⟨wv.refl _,IT _ _⟩
 have jv:(E.fv++[((.slice a eg.length c,[]):Hd)])[nx]? =au (.slice a eg.length c,[]):=by rw[<- hn];simp
 refine⟨⟨E.F,E.fv++[(.slice a eg.length c,[])]⟩,hle,⟨by simp[hn],?_⟩,by simp only[VR];exact⟨[],jv,_,_,_,rfl⟩⟩;have H1:Hp k w (rows.map (gu E)++(oa t sz a eg.length c xs::fz E.F::L)):=H.perm (mg (l₁:=rows.map (gu E))).symm;have H2:=wO (λr x=>gu.mono hle r) H1;have H3:Hp k w (oa t sz a eg.length c xs::(rows.map (gu ⟨E.F,E.fv++[(.slice a eg.length c,[])]⟩)++fz E.F::L)):=H2.perm mg;exact H3.imp λx I1=> .inr ⟨_,jv,by simp only[fi];exact⟨a,c,xs,rfl,hx,hu,I1⟩⟩
def SN (R:Rel k L E s w) {o:ff} {O:Obj} {hd:Hd} {K:V->St->Prop} {v:V} {y:aa} (h:fi E.F o (E.fv++[hd]) hd (one w.heap.size O)) (hv:(E.fv++[hd])[s.nx]? =au hd->VR ⟨E.F,E.fv++[hd]⟩ v y) (hk:K v (s.new o)):
 oU k L E K y (w.alloc O):=by
 obtain⟨h1,h2,h3⟩:=R.new h;exact⟨_,v,_,h1,h2,hv h3,hk⟩
def Rel.setCells (R:Rel k L E s w) {n:Nat} {vs zy:List V} {T:aj} (h:s.get n=au (.cells vs T)) {b:Nat} {sub:List aa} (ht:E.fv[n]? =au (.pointer (au ⟨b,0,av⟩),sub)) {l':List aa} (hv:gp E zy l'):
 Rel k L E (s.set n (.cells zy T)) (World.iR w b (.cells l'.toArray T)):=by
 obtain⟨hk,hs,hh⟩:=R.focus h;cases hh with
 |cons ha iS hd hr=>
  rcases ha with⟨e,_⟩|⟨oE,h1,h2⟩
  ·cases e
  ·rw[ht]at h1;cases h1;simp only[fi]at h2;obtain⟨b',l,e1,e2,rfl⟩:=h2;cases e1;have H:Hp k w (pt b (.cells l.toArray T)::((vH n s.rows).map (gu E)++fz E.F::L)):=⟨hk,_,.cons rfl iS hd hr⟩
   refine R.ni h ((H.yj (.cells l'.toArray T)).imp λx hx=> .inr ⟨_,ht,?_⟩);simp only[fi];exact⟨b,l',rfl,hv,hx⟩
def Rel.Ls (R:Rel k L E s w) {n:Nat} {ds CL:List D} {T:aj} (h:s.get n=au (.vec ds T)) {b:Nat} {sub:List aa} (ht:E.fv[n]? =au (.pointer (au ⟨b,0,av⟩),sub)) {l':List aa} (hv:iz E.F CL l'):
 Rel k L E (s.set n (.vec CL T)) (World.iR w b (.cells l'.toArray T)):=by
 obtain⟨hk,hs,hh⟩:=R.focus h;cases hh with
 |cons ha iS hd hr=>
  rcases ha with⟨e,_⟩|⟨oE,h1,h2⟩
  ·cases e
  ·rw[ht]at h1;cases h1;simp only[fi]at h2;obtain⟨b',l,e1,e2,rfl⟩:=h2;cases e1;have H:Hp k w (pt b (.cells l.toArray T)::((vH n s.rows).map (gu E)++fz E.F::L)):=⟨hk,_,.cons rfl iS hd hr⟩
   refine R.ni h ((H.yj (.cells l'.toArray T)).imp λx hx=> .inr ⟨_,ht,?_⟩);simp only[fi];exact⟨b,l',rfl,hv,hx⟩
def Rel.Ft (R:Rel k L E s w) {n:Nat} {es CK:List (aa×List D)} (h:s.get n=au (.map es)) {b:Nat} {sub:List aa} (ht:E.fv[n]? =au (.map (au b),sub)):
 ∃fq ck,MR E.F es fq/\w.heap[b]? =au (.map fq.toArray ck)/\vS fq ck/\∀iL sv,MR E.F CK iL->vS iL sv->Rel k L E (s.set n (.map CK)) (World.iR w b (.map iL.toArray sv)):=by
 obtain⟨hk,hs,hh⟩:=R.focus h;cases hh with
 |cons ha iS hd hr=>
  rcases ha with⟨e,_⟩|⟨oE,h1,h2⟩
  ·cases e
  ·rw[ht]at h1;cases h1;simp only[fi]at h2;obtain⟨b',fq,ck,e1,e2,e3,rfl⟩:=h2;cases e1;have H:Hp k w (pt b (.map fq.toArray ck)::((vH n s.rows).map (gu E)++fz E.F::L)):=⟨hk,_,.cons rfl iS hd hr⟩
   refine⟨fq,ck,e2,H.get,e3,λiL sv hm Pq=>R.ni h ((H.yj (.map iL.toArray sv)).imp λx hx=> .inr ⟨_,ht,?_⟩)⟩;simp only[fi];exact⟨b,iL,sv,rfl,hm,Pq,hx⟩
def Rel.HY (R:Rel k L E s w) {n:Nat} {es CK:List (aa×List D)} {kv:aa} (h:s.get n=au (.map es)) {b:Nat} {sub:List aa} (ht:E.fv[n]? =au (.map (au b),sub)):
 ∃fq ck,MR E.F es fq/\w.heap[b]? =au (.map fq.toArray ck)/\vS fq ck/\∀iL sv x,MR E.F CK iL->vS iL sv->Sm iL kv x->Rel k L E (s.set n (.B8 CK kv x)) (World.iR w b (.map iL.toArray sv)):=by
 obtain⟨hk,hs,hh⟩:=R.focus h;cases hh with
 |cons ha iS hd hr=>
  rcases ha with⟨e,_⟩|⟨oE,h1,h2⟩
  ·cases e
  ·rw[ht]at h1;cases h1;simp only[fi]at h2;obtain⟨b',fq,ck,e1,e2,e3,rfl⟩:=h2;cases e1;have H:Hp k w (pt b (.map fq.toArray ck)::((vH n s.rows).map (gu E)++fz E.F::L)):=⟨hk,_,.cons rfl iS hd hr⟩
   refine⟨fq,ck,e2,H.get,e3,λiL sv x hm Pq ku=>R.ni h ((H.yj (.map iL.toArray sv)).imp λy hy=> .inr ⟨_,ht,?_⟩)⟩;simp only[fi];exact⟨b,iL,sv,rfl,hm,Pq,ku,hy⟩
def Rel.HX (R:Rel k L E s w) {n:Nat} {es CK:List (aa×List D)} {kv:aa} {x:Int} (h:s.get n=au (.B8 es kv x)) {b:Nat} {sub:List aa} (ht:E.fv[n]? =au (.map (au b),sub)):
 ∃fq ck,MR E.F es fq/\w.heap[b]? =au (.map fq.toArray ck)/\vS fq ck/\Sm fq kv x/\∀iL sv,MR E.F CK iL->vS iL sv->Rel k L E (s.set n (.map CK)) (World.iR w b (.map iL.toArray sv)):=by
 obtain⟨hk,hs,hh⟩:=R.focus h;cases hh with
 |cons ha iS hd hr=>
  rcases ha with⟨e,_⟩|⟨oE,h1,h2⟩
  ·cases e
  ·rw[ht]at h1;cases h1;simp only[fi]at h2;obtain⟨b',fq,ck,e1,e2,e3,e4,rfl⟩:=h2;cases e1;have H:Hp k w (pt b (.map fq.toArray ck)::((vH n s.rows).map (gu E)++fz E.F::L)):=⟨hk,_,.cons rfl iS hd hr⟩
   refine⟨fq,ck,e2,H.get,e3,e4,λiL sv hm Pq=>R.ni h ((H.yj (.map iL.toArray sv)).imp λy hy=> .inr ⟨_,ht,?_⟩)⟩;simp only[fi];exact⟨b,iL,sv,rfl,hm,Pq,hy⟩
def yFe {l:List aq} (hn:(l.map (·.born)).Nodup):∀{q:Nat} {m:aq},l[q]? =au m->l.findIdx? (λe=>((e.born:Nat):Int)==((m.born:Nat):Int))=au q:=by
 induction l with
 |nil=>intro q m h;simp at h
 |cons a l ih=>
  intro q m h;simp only[jo,ze]at hn;cases q with
  |zero=>simp at h;subst h;simp[List.findIdx?_cons]
  |succ q=>
   simp only[AS]at h;have je:a.born≠m.born:=λe=>hn.1 (e▸pk.2 ⟨m,lr h,rfl⟩)
   have HS:¬((a.born:Nat):Int)=((m.born:Nat):Int):=by omega
   rw[List.findIdx?_cons,ej (by simpa using HS),ih hn.2 h];rfl
def yCq {F:PH} {P:ae} {t:aj} {ds:List D} {v:V} (h:LZ P t=au ds) (hm:Gz P t ds=au v):∃z ys,nD P t=au z/\iz F ds ys/\z=pV ys:=by
 unfold LZ at h;split at h
 ·rename_i cs hz;split at h<;>first|(cases h;done)|skip
  rename_i n hn;obtain⟨hb,h⟩:=yU h;cases h;simp only[Gz,hn]at hm;obtain⟨mr,hm⟩:=yU hm;simp only[kx,EB]at mr;have h1:=iX mr.1;refine⟨_,cs.toList,hz,ZX hb,?_⟩;unfold pV;split
  ·rename_i y hy;rw[hy]at h1;simp only[jo,Ct,iD,tp]at h1;rw[<- h1]at mr;exact absurd mr.2 (by decide)
  ·rfl
 ·rename_i z je hz;split at h<;>first|(cases h;done)|skip
  rename_i hn;obtain⟨hb,h⟩:=yU h;cases h;exact⟨z,[z],hz,by simp only[iz,DR];exact⟨_,_,rfl,⟨rfl,hb⟩,rfl⟩,rfl⟩
 ·cases h
def Vk {F:PH} {x:aa} {ds:List D} {ys:List aa} (hd:iz F ds ys) {e:aq} (h1:e.key=x) (h2:e.val=pV ys):∀{es:List (aa×List D)} {fq:List aq},MR F es fq->MR F (es++[(x,ds)]) (fq++[e])
 |[],fq,h=>by
  simp only[MR]at h;subst h;simp only[yh,MR];exact⟨e,[],rfl,h1,⟨ys,hd,h2⟩,rfl⟩
 |(y,d)::es,fq,h=>by
  simp only[MR]at h;obtain⟨m,ms,rfl,q1,q2,q3⟩:=h;simp only[tv,MR];exact⟨m,_,rfl,q1,q2,Vk hd h1 h2 q3⟩
def zHd {kd:TypeDesc} {x:aa} (hk:IG kd x):Instr.sameBits 10000 x x=bu:=by
 rcases hk with⟨ik,k,n,rfl,rfl⟩|⟨s,rfl,rfl⟩<;>simp only[Instr.sameBits]
 ·simp
 ·rw[z9l];simp
def z0f {E:Ev} {v:V} (hv:TM v=bu) {y:aa} (h:VR E v y) {ys:List aa} (hc:y.cells=ys.toArray):y=pV ys:=by
 cases v<;>simp only[TM,oD]at hv
 ·rename_i d;simp only[VR]at h;have h1:y.nv=bu:=iz.one (F:=E.F) (vs:=[d]) (l:=[y]) (by simp only[iz];exact⟨_,_,rfl,h,rfl⟩) y (by simp);have hcy:y.cells= #[y]:=by cases y<;>first|rfl|cases h1
  rw[hcy]at hc;have:ys=[y]:=by
   have:=congrArg Array.toList hc;simpa using this.symm
  rw[this];rfl
 ·rename_i l;simp only[VR]at h;obtain⟨zs,rfl,h2⟩:=h;simp only[Value.cells]at hc;have:ys=zs:=by
   have:=congrArg Array.toList hc;simpa using this.symm
  subst this;have hl:=h2.length;unfold pV;split
  ·simp only[iD,tp]at hl;rw[<- hl]at hv;exact absurd hv (by decide)
  ·rfl
def yJk {P:ae} {w:ab} {b:Nat} {l:List aa} {T t:aj} (hb:w.heap[b]? =au (.cells l.toArray T)) (ht:P.underlying t=au (.slice T)) (he:P.underlying T=au (.int .u8)) (n c:Nat):
 (convert t t (.slice (au ⟨b,0,av⟩) n c)).run P w= .ok (.slice (au ⟨b,0,av⟩) n c) (World.iR w b (.cells l.toArray T (l.length,l.length+1))):=by
 have M8:w.shape? b=au (T,l.length):=by
  unfold World.shape?;rw[hb];simp
 have GJ:w.freeze ⟨b,l.length,av⟩ 1=World.iR w b (.cells l.toArray T (l.length,l.length+1)):=by
  unfold World.freeze World.iR;rw[ej (by decide)];congr 1;apply OA;intro i;rw[Array.getElem?_modify,OL];by_cases c:b=i
  ·subst c;have gr:b<w.heap.size:=(Array.getElem?_eq_some_iff.1 hb).1;rw[fc rfl,fc rfl,fc gr,hb];rfl
  ·rw[ej c,ej c]
 simp[convert,Go.run_underlying ht,Go.run_underlying he,markStringish,M8];exact GJ
def Rel.setIter (R:Rel k L E s w) {n pos pos':Nat} {str:ByteArray} (h:s.get n=au (.iter str pos)) {b:Nat} {sub:List aa} (ht:E.fv[n]? =au (.pointer (au ⟨b,0,av⟩),sub)):
 w.heap[b]? =au (.stringIter str pos)/\Rel k L E (s.set n (.iter str pos')) (World.iR w b (.stringIter str pos')):=by
 obtain⟨hk,hs,hh⟩:=R.focus h;cases hh with
 |cons ha iS hd hr=>
  rcases ha with⟨e,_⟩|⟨oE,h1,h2⟩
  ·cases e
  ·rw[ht]at h1;cases h1;simp only[fi]at h2;obtain⟨b',e1,rfl⟩:=h2;cases e1;have H:Hp k w (pt b (.stringIter str pos)::((vH n s.rows).map (gu E)++fz E.F::L)):=⟨hk,_,.cons rfl iS hd hr⟩
   refine⟨H.get,R.ni h ((H.yj (.stringIter str pos')).imp λx hx=> .inr ⟨_,ht,?_⟩)⟩;simp only[fi];exact⟨b,rfl,hx⟩
def Rel.Lt (R:Rel k L E s w) {n T sz i f:Nat} {eg:List (List D)} {ds:List D} (h:s.get n=au (.own T sz eg)) (hi:i<eg.length) (hf:f+ds.length<=sz) {b oo m c:Nat} {sub:List aa}
 (ht:E.fv[n]? =au (.slice (au ⟨b,oo,av⟩) m c,sub)) {ys:List aa} (hy:iz E.F ds ys):
 ∃l:List aa,w.heap[b]? =au (.cells l.toArray T)/\oo+i*sz+f+ys.length<=l.length/\Rel k L E (s.set n (.own T sz (zV eg i f ds))) (World.iR w b (.cells (jz l (oo+i*sz+f) ys).toArray T)):=by
 obtain⟨a,c',xs,DC,h1,hx,hu,H⟩:=R.rn h;rw[ht]at h1;cases h1;rcases H.ov with⟨e,_⟩|⟨b',r,e,h2,h3,h4,H1⟩
 ·cases e
 cases e;obtain⟨Ad,OW⟩:=mL i f ds hu hi hf;have vj:i*sz+sz<=eg.length*sz:=by
  have:=wj sz (show i+1<=eg.length by omega);rwa [zd]at this
 have CD:=hy.length;refine⟨xs++r,H1.get,by rw[im];omega,R.ni h ((H1.yj (.cells (jz (xs++r) (0+i*sz+f) ys).toArray T)).imp λx I1=> .inr ⟨_,ht,?_⟩)⟩;simp only[fi];have hlen:(zV eg i f ds).length=eg.length:=by simp[zV]
 have Ca:jz (xs++r) (0+i*sz+f) ys=jz xs (i*sz+f) ys++r:=by
  simp only[jz,nw];rw[xq (by omega),ED (by omega)];simp
 refine⟨_,c,jz xs (i*sz+f) ys,by rw[hlen],?_,OW,.inr ⟨b,r,rfl,by rw[I1,Ca],?_,?_,by rw[hlen];exact h4⟩⟩
 ·rw[Ad];exact NT hx hy _
 ·rw[hlen,<- h2];simp only[jz,im,oe,oV];omega
 ·rw[<- h3];simp only[jz,im,oe,oV];omega
def yAg {l vs:List aa} {o:Nat} (h:o+vs.length<=l.length) (j:Nat):(jz l o vs)[j]? =if j<o then l[j]? else if j<o+vs.length then vs[j-o]? else l[j]? :=by
 unfold jz;have h1:(l.take o++vs).length=o+vs.length:=by simp;omega
 split
 ·rename_i hj;rw[EC (by omega),EC (by simp;omega),IU,fc hj]
 ·split
  ·rw[EC (by omega),Cy (by simp;omega),oe,Gu (by omega)]
  ·rw[Cy (by omega),h1,AQ];congr 1;omega
def RT {l vs:List aa} {o p:Nat} {y:aa} (h:o+vs.length<=l.length) (hp:o+vs.length<=p\/p<o):jz (l.set p y) o vs=(jz l o vs).set p y:=by
 apply He;intro j;have hlen:(jz l o vs).length=l.length:=by simp[jz];omega
 rw[yAg (by rw[qp];exact h),Gv,Gv,yAg h,hlen];by_cases hj:p=j
 ·subst hj;rw[fc rfl,fc rfl];split
  ·rfl
  ·rw[ej (by omega)]
 ·rw[ej hj,ej hj]
def Rel.Dd (R:Rel k L E s w) {n:Nat} {x:wg} (h:mV s n=au x):
 ∃a c ys xs sub,E.fv[n]? =au (.slice a x.eg.length c,sub)/\iz E.F x.eg.flatten ys/\(∀el∈x.eg,el.length=x.sz)/\yz E.fv (x.i*x.sz+x.f) x.b ys xs x.m/\Hp k w (oa x.T x.sz a x.eg.length c xs::((vH n s.rows).map (gu E)++fz E.F::L)):=by
 obtain⟨hk,hs,hh⟩:=R.focus (tY h);cases hh with
 |cons ha iS hd hr=>
  rcases ha with⟨e,_⟩|⟨⟨hv,sub⟩,h1,h2⟩
  ·cases e
  ·simp only[fi]at h2;obtain⟨a,c,ys,xs,rfl,q1,q2,q3,q4⟩:=h2;exact⟨a,c,ys,xs,sub,h1,q1,q2,q3,hk,_,.cons q4 iS hd hr⟩
def yFw {fv:List Hd} {p o:Nat} {b:Bool} {ys xs vs:List aa} (hl:o+vs.length<=ys.length) (hp:b=bu->o+vs.length<=p\/p<o):∀{m:Option Nat},yz fv p b ys xs m->yz fv p b (jz ys o vs) (jz xs o vs) m:=by
 have key:∀{y:aa},xs=(bif b then ys.set p y else ys)->jz xs o vs=bif b then(jz ys o vs).set p y else jz ys o vs:=by
  intro y h;cases b with
  |false=>rw[h];rfl
  |true=>rw[h,cond_true,cond_true];exact RT hl (hp rfl)
 intro m;cases m with
 |none=>rintro⟨y,e,h⟩;exact⟨y,e,key h⟩
 |some m=>rintro⟨y,l,e1,e2,h⟩;exact⟨y,l,e1,e2,key h⟩
def Rel.Lw (R:Rel k L E s w) {n i f:Nat} {x:wg} {ds:List D} (h:mV s n=au x) (hi:i<x.eg.length) (hf:f+ds.length<=x.sz) (vz:x.clear i f ds.length) {b oo m c:Nat} {sub:List aa}
 (ht:E.fv[n]? =au (.slice (au ⟨b,oo,av⟩) m c,sub)) {ys:List aa} (hy:iz E.F ds ys):
 ∃l:List aa,w.heap[b]? =au (.cells l.toArray x.T)/\oo+i*x.sz+f+ys.length<=l.length/\Rel k L E (s.set n (.vi x.q x.T x.sz (zV x.eg i f ds) x.i x.f x.b x.m)) (World.iR w b (.cells (jz l (oo+i*x.sz+f) ys).toArray x.T)):=by
 obtain⟨a,c',zs,xs,DC,h1,hz,hu,hx,H⟩:=R.Dd h;rw[ht]at h1;cases h1;rcases H.ov with⟨e,_⟩|⟨b',r,e,h2,h3,h4,H1⟩
 ·cases e
 cases e;obtain⟨Ad,OW⟩:=mL i f ds hu hi hf;have vj:i*x.sz+x.sz<=x.eg.length*x.sz:=by
  have:=wj x.sz (show i+1<=x.eg.length by omega);rwa [zd]at this
 have CD:=hy.length;have CC:=Wz hx;refine⟨xs++r,H1.get,by rw[im];omega,R.ni (tY h) ((H1.yj (.cells (jz (xs++r) (0+i*x.sz+f) ys).toArray x.T)).imp λz OR=> .inr ⟨_,ht,?_⟩)⟩;simp only[fi];have hlen:(zV x.eg i f ds).length=x.eg.length:=by simp[zV]
 have Ca:jz (xs++r) (0+i*x.sz+f) ys=jz xs (i*x.sz+f) ys++r:=by
  simp only[jz,nw];rw[xq (by omega),ED (by omega)];simp
 refine⟨_,c,jz zs (i*x.sz+f) ys,jz xs (i*x.sz+f) ys,by rw[hlen],?_,OW,yFw (by omega) (λhb=> ?_) hx,.inr ⟨b,r,rfl,by rw[OR,Ca],?_,?_,by rw[hlen];exact h4⟩⟩
 ·rw[Ad];exact NT hz hy _
 ·rw[CD];exact yBf hf vz.1 (vz.2 hb)
 ·rw[hlen,<- h2];simp only[jz,im,oe,oV];omega
 ·rw[<- h3];simp only[jz,im,oe,oV];omega
def Rel.Ia (R:Rel k L E s w) {n c0:Nat} {q:Bool} {x:wg} (h:mV s n=au x) (hi:x.i<x.eg.length) (hf:x.f<x.sz) {b oo m c:Nat} {sub:List aa}
 (ht:E.fv[n]? =au (.slice (au ⟨b,oo,av⟩) m c,sub)) {y:aa} {ly:List aa} (hc:E.fv[c0]? =au (y,ly)) (hs:∃a n c,y= .slice a n c):
 ∃l:List aa,w.heap[b]? =au (.cells l.toArray x.T)/\oo+x.i*x.sz+x.f+1<=l.length/\Rel k L E (s.set n (.vi q x.T x.sz x.eg x.i x.f bu (au c0))) (World.iR w b (.cells (jz l (oo+x.i*x.sz+x.f) [y]).toArray x.T)):=by
 obtain⟨a,c',zs,xs,DC,h1,hz,hu,hx,H⟩:=R.Dd h;rw[ht]at h1;cases h1;rcases H.ov with⟨e,_⟩|⟨b',r,e,h2,h3,h4,H1⟩
 ·cases e
 cases e;have vj:x.i*x.sz+x.sz<=x.eg.length*x.sz:=by
  have:=wj x.sz (show x.i+1<=x.eg.length by omega);rwa [zd]at this
 have CC:=Wz hx;refine⟨xs++r,H1.get,by rw[im];omega,R.ni (tY h) ((H1.yj (.cells (jz (xs++r) (0+x.i*x.sz+x.f) [y]).toArray x.T)).imp λz OR=> .inr ⟨_,ht,?_⟩)⟩;simp only[fi];have Ca:jz (xs++r) (0+x.i*x.sz+x.f) [y]=xs.set (x.i*x.sz+x.f) y++r:=by
  simp only[jz,nw];rw[xq (by omega),ED (by simp;omega),MU,fc (by omega)];simp
 have qd:xs.set (x.i*x.sz+x.f) y=zs.set (x.i*x.sz+x.f) y:=by
  have key:∀{z:aa},xs=(bif x.b then zs.set (x.i*x.sz+x.f) z else zs)->xs.set (x.i*x.sz+x.f) y=zs.set (x.i*x.sz+x.f) y:=by
   intro z h;cases hb:x.b with
   |false=>rw[h,hb];rfl
   |true=>rw[h,hb,cond_true,DZ]
  revert hx;cases x.m with
  |none=>rintro⟨z,_,h⟩;exact key h
  |some m=>rintro⟨z,l,_,_,h⟩;exact key h
 refine⟨_,c,zs,xs.set (x.i*x.sz+x.f) y,rfl,hz,hu,⟨y,ly,hc,hs,by rw[cond_true,qd]⟩,.inr ⟨b,r,rfl,by rw[OR,Ca],by rw[qp,h2],by rw[<- h3];simp,h4⟩⟩
def z3a {P:ae} (R:Rel k L E s w) {t n sz i f:Nat} {x:wg} {v:V} {K:V->St->Prop} (hx:mV s n=au x) (h:Wh P t x n sz i f v s K) {yv:aa} (hv:VR E v yv)
 {b oo m c:Nat} {l:List aa} (e1:E.fv[n]? =au (.slice (au ⟨b,oo,av⟩) m c,l)):∃w',Gp P (storeVar t ⟨b,oo+i*sz+f,av⟩ yv) w w'/\oU k L E K af w':=by
 unfold Wh at h;obtain⟨hb,h⟩:=zK h;have e:=iX hb;subst e;have PT:∀{E':Ev},VR E' (.iW []) af:=λ{E'}=>by simp only[VR];exact⟨[],rfl,gp.nil⟩
 have gen:∀{s':St} {ds:List D} {mm:Nat},HA P s t v=au (ds,s')->mV s' n=au x->nS P t=au mm->ds.length=mm->i<x.eg.length->f+mm<=x.sz->x.clear i f mm->K (.iW []) (s'.set n (.vi x.q x.T x.sz (zV x.eg i f ds) x.i x.f x.b x.m))->
  ∃w',Gp P (storeVar t ⟨b,oo+i*x.sz+f,av⟩ yv) w w'/\oU k L E K af w':=by
  intro s' ds mm hd hh hm hl hi hf vz hk;obtain⟨E',ys,q1,q2,q3,q4,q5,q6⟩:=Mb R hd hv;obtain⟨ll,r1,r2,r3⟩:=q3.Lw (ds:=ds) (i:=i) (f:=f) hh hi (by omega) (by rw[hl];exact vz) (q1.get e1) q6;have ku:=u7 (P:=P) (o:=oo+i*x.sz+f) hm q5 (by rw[q6.length,hl]) (by rw[q6.length,hl]at r2;exact r2) q6.one r1;exact⟨_,ku,E',_,_,q1,r3,PT,hk⟩
 split at h
 ·rename_i c0 vv tt hs;clear hs;split at h<;>first|exact h.elim|skip
  rename_i t2 ur lv hg;have aaH:=zM h;clear h;obtain⟨mm,hm,Qh⟩:=aaH;have hb0:=zK Qh;clear Qh;obtain⟨hb,⟨hi,hf⟩,hq⟩:=hb0;simp only[kx]at hb;have pz:=iX hb.1;subst pz;simp only[VR]at hv;obtain⟨lc,hc,ha⟩:=hv;have vz:yv.cells=[yv].toArray/\∀z∈[yv],z.nv=bu:=by
   obtain⟨a,b,c,rfl⟩:=ha;exact⟨rfl,λz hz=>by rw[vf.1 hz];rfl⟩
  have PW:∀{q:Bool},i=x.i->f=x.f->K (.iW []) (s.set n (.vi q x.T x.sz x.eg x.i x.f bu (au c0)))->∃w',Gp P (storeVar t ⟨b,oo+i*x.sz+f,av⟩ yv) w w'/\oU k L E K af w':=by
   intro q h1 h2 hk;subst h1 h2;obtain⟨ll,r1,r2,r3⟩:=R.Ia (q:=q) hx hi hf e1 hc ha;exact⟨_,u7 (P:=P) (o:=oo+x.i*x.sz+x.f) hm vz.1 rfl r2 vz.2 r1,E,_,_,Ev.le.refl _,r3,PT,hk⟩
  split at hq
  ·obtain⟨⟨h1,h2⟩,hk⟩:=hq;exact PW h1 h2 hk
  ·obtain⟨hp,wx,hn⟩:=hq;by_cases yx:i=x.i/\f=x.f
   ·exact PW yx.1 yx.2 (hp yx.1 yx.2)
   ·have hn:=hn yx;split at hn<;>first|exact hn.elim|skip
    rename_i ds s' hd;split at hn<;>first|exact hn.elim|skip
    rename_i y hy;obtain⟨mr,rfl,hk⟩:=zK hn;exact gen hd hy hm (iX mr) hi (by omega) ⟨wx,λ_ Nh=>by
     have:¬f=y.f:=λe=>yx ⟨Nh,e⟩
     omega⟩ hk
 ·split at h<;>first|exact h.elim|skip
  rename_i ds s' hd;split at h<;>first|exact h.elim|skip
  rename_i y hy;obtain⟨mm,hm,h⟩:=zM h;obtain⟨mr,⟨rfl,hi,hf,vz⟩,hk⟩:=zK h;exact gen hd hy hm (iX mr) hi hf vz hk
def Rel.Lu (R:Rel k L E s w) {n T i:Nat} {eg:List (List D)} {ds:List D} (h:s.get n=au (.Gy T eg)) (hi:i<eg.length) (hf:ds.length=1) {b oo m c:Nat} {sub:List aa}
 (ht:E.fv[n]? =au (.slice (au ⟨b,oo,av⟩) m c,sub)) {y:aa} (hy:iz E.F ds [y]):
 ∃l:List aa,w.heap[b]? =au (.cells l.toArray T (l.length,l.length+1))/\i<l.length/\Rel k L E (s.set n (.Gy T (zV eg i 0 ds))) (World.iR w b (.cells (l.set (oo+i) y).toArray T (l.length,l.length+1)))/\oo=0:=by
 obtain⟨hk,hs,hh⟩:=R.focus h;obtain⟨b',c',xs,r,q1,q2,q3,q4,H⟩:∃b' c' xs r,(Value.slice (au ⟨b,oo,av⟩) m c)= .slice (au ⟨b',0,av⟩) eg.length c'/\iz E.F eg.flatten xs/\(∀el∈eg,el.length=1)/\eg.length<=c'/\Hp k w (pt b' (.cells (xs++r).toArray T ((xs++r).length,(xs++r).length+1))::(((vH n s.rows).map (gu E))++fz E.F::L)):=by
  cases hh with
  |cons ha iS GL hr=>
   rcases ha with⟨e,_⟩|⟨hv,h1,h2⟩
   ·cases e
   ·rw[ht]at h1;cases h1;simp only[fi]at h2;obtain⟨b',c',xs,r,e1,e2,e3,e4,rfl⟩:=h2;exact⟨b',c',xs,r,e1,e2,e3,e4,hk,_,.cons rfl iS GL hr⟩
 cases q1;obtain⟨Ad,OW⟩:=mL i 0 ds q3 hi (by omega);have AG:xs.length=eg.length*1:=by rw[q2.length,jM q3]
 have hlen:(zV eg i 0 ds).length=eg.length:=by simp[zV]
 refine⟨xs++r,H.get,by rw[im];omega,R.ni h ((H.yj (.cells ((xs++r).set (0+i) y).toArray T ((xs++r).length,(xs++r).length+1))).imp λx I1=> .inr ⟨_,ht,?_⟩),rfl⟩;simp only[fi];have qd:(xs++r).set (0+i) y=xs.set i y++r:=by rw[nw,List.set_append_left _ _ (by omega)]
 refine⟨b,c,xs.set i y,r,by rw[hlen],?_,OW,by rw[hlen];exact q4,?_⟩
 ·rw[Ad];have e:xs.set i y=jz xs (i*1+0) [y]:=by
   rw[MU,fc (by omega)];simp[jz]
  rw[e];exact NT q2 hy _
 ·rw[qd]at I1;rw[I1];simp
def zSv (F:PH):∀l:List UInt8,iz F (l.map λb=>[D.v (.int .u8 b.toNat)]).flatten (l.map λb=>cm .u8 b.toNat)
 |[]=>by simp[iz]
 |b::l=>by
  simp only[jo,AD,tv,yh,iz,DR];exact⟨_,_,rfl,⟨rfl,rfl⟩,zSv F l⟩
def yDz {a b:ab} (h1:a.heap=b.heap) (h2:a.tape=b.tape) (h3:a.drawn=b.drawn) (h4:a.os=b.os) (h5:a.output=b.output):a=b:=by
 cases a;cases b;simp only at h1 h2 h3 h4 h5;subst h1 h2 h3 h4 h5;rfl
def zSk (w:ab) (e:aj) (s:ByteArray):bo w e s=World.iR (w.drew.alloc (.cells (bg w e s) e)) w.heap.size (.cells (bg w e s) e ((bg w e s).size,(bg w e s).size+1)):=by
 have hh:(bo w e s).heap=(World.iR (w.drew.alloc (.cells (bg w e s) e)) w.heap.size (.cells (bg w e s) e ((bg w e s).size,(bg w e s).size+1))).heap:=by
  apply OA;intro j;have oT:(w.drew.alloc (.cells (bg w e s) e)).heap.size=w.heap.size+1:=by simp[World.alloc,World.drew,-World.alloc_eq,-World.drew_eq]
  simp only[World.iR];rw[OL];by_cases hj:w.heap.size=j
  ·subst hj;rw[fc rfl,fc (by omega),Lib.bytesWorld_at_new]
  ·rw[ej hj];rcases uo j w.heap.size with h|h
   ·rw[Lib.bytesWorld_at_old w e s j h];have:(w.drew.alloc (.cells (bg w e s) e)).heap[j]? =w.heap[j]? :=by
     simp[World.alloc,World.drew,-World.alloc_eq,-World.drew_eq,Array.getElem?_push,Ne.symm hj]
    rw[this]
   ·rw[Gx (by rw[Lib.bytesWorld_size];omega),Gx (by omega)]
 refine yDz hh ?_ ?_ ?_ ?_<;>(unfold bo World.freeze World.iR;rw[ej (by omega)])
def z4j (R:Rel k L E s w) (b:ByteArray) (e:aj) {K:V->St->Prop} (hk:K (.own s.nx) (s.new (.Gy e (jF b)))):
 oU k L E K (.slice (au ⟨w.heap.size,0,av⟩) b.size (am w b.size 0 e)) (bo w e b):=by
 have hl:(jF b).length=b.size:=by simp[jF]
 have HU:b.size<=am w b.size 0 e:=grownCap_ge w b.size 0 e;have H:=((R.hp.drew).new (.cells (bg w e b) e)).yj (.cells (bg w e b) e ((bg w e b).size,(bg w e b).size+1));have hs:w.drew.heap.size=w.heap.size:=rfl;rw[hs,<- zSk]at H;obtain⟨hd,hhd⟩:∃hd:Hd,hd=(.slice (au ⟨w.heap.size,0,av⟩) b.size (am w b.size 0 e),[]):=⟨_,rfl⟩
 have hle:E.le ⟨E.F,E.fv++[hd]⟩:=Ev.le.app _;have jv:(E.fv++[hd])[s.nx]? =au hd:=by rw[<- R.nx];simp
 refine⟨⟨E.F,E.fv++[hd]⟩,.own s.nx,_,hle,⟨by simp[St.new,R.nx],?_⟩,?_,hk⟩
 ·have H1:Hp k (bo w e b) (s.rows.map (gu E)++(pt w.heap.size (.cells (bg w e b) e ((bg w e b).size,(bg w e b).size+1))::fz E.F::L)):=H.perm (mg (l₁:=s.rows.map (gu E))).symm;have H2:=wO (λr x=>gu.mono hle r) H1;have H3:Hp k (bo w e b) (pt w.heap.size (.cells (bg w e b) e ((bg w e b).size,(bg w e b).size+1))::(s.rows.map (gu ⟨E.F,E.fv++[hd]⟩)++fz E.F::L)):=H2.perm mg;refine H3.imp λx hx=> .inr ⟨hd,jv,?_⟩
  simp only[fi];refine⟨w.heap.size,am w b.size 0 e,b.data.toList.map λ(c:UInt8)=>cm .u8 c.toNat,ba (am w b.size 0 e-b.size) (cm .u8 0),by rw[hhd,hl],?_,?_,by rw[hl];exact HU,?_⟩
  ·exact zSv _ _
  ·simp[jF]
  ·have hx:x=one w.heap.size _:=hx;rw[hx];have ec:bg w e b=(b.data.toList.map (λ(c:UInt8)=>cm .u8 c.toNat)++ba (am w b.size 0 e-b.size) (cm .u8 0)).toArray:=by
    apply co;simp[bg]
   rw[ec];simp
 ·simp only[VR];exact⟨[],by rw[jv,hhd],_,_,_,rfl⟩
def z6h (R:Rel k L E s w) {sz:Nat} {v:V} {eg:List (List D)} (h:U4 s sz v=au eg) {y:aa} (hv:VR E v y):
 ∃ys,Src sz w y eg.length ys/\iz E.F eg.flatten ys/\∀el∈eg,el.length=sz:=by
 unfold U4 at h;split at h
 ·cases h;simp only[VR,DR]at hv;obtain⟨rfl,_⟩:=hv;exact⟨[],.inl ⟨av,0,rfl,pe,.inl ⟨rfl,rfl,rfl⟩,Sub.pe w⟩,by simp[iz],by simp⟩
 ·rename_i b;obtain⟨hb,h⟩:=mU h;have:=iX hb;subst this;cases h;simp only[VR,DR]at hv;obtain⟨rfl,_⟩:=hv;refine⟨b.data.toList.map λb=> .int .u8 b.toNat,.inr ⟨b,rfl,rfl,by simp[jF],rfl⟩,?_,?_⟩
  ·unfold jF;generalize b.data.toList=l
   induction l with
   |nil=>simp[iz]
   |cons a l ih=>simp only[jo,AD,tv,yh,iz,DR];exact⟨_,_,rfl,⟨rfl,rfl⟩,ih⟩
  ·intro el oR;unfold jF at oR;obtain⟨x,_,rfl⟩:=pk.1 oR;rfl
 ·split at h<;>first|(cases h;done)|skip
  rename_i ot kq hd;obtain⟨hb,hh⟩:=mU h;clear h;have:=iX hb;subst this;cases hh;obtain⟨a,c,xs,rfl,h2,h3,h4,h5⟩:=aK R hv hd;exact⟨xs,.inl ⟨a,c,rfl,h5⟩,h3,h4⟩
def zSi (R:Rel k L E s w) {t1 t2 rt:Nat} {x y:V} {xr yr:aa} (hx:VR E x xr) (hy:VR E y yr) {K:V->St->Prop} (h:Vg P t1 t2 s x y K):
 ∃v w',gH P (Builtin.append_ #[t1,t2] rt #[xr,yr]) w v w'/\oU k L E K v w':=by
 unfold Vg at h;obtain⟨i,hi,h⟩:=zM h;obtain⟨hb,h⟩:=zK h;simp only[kx]at hb;obtain⟨kq,DF,h⟩:=zM h;obtain⟨z,q1,q2,q3,q4⟩:=fX hi;obtain⟨ys,JL,GB,huy⟩:=z6h R DF hy;have Ea:0<i.ou:=by simpa[xv]using hb.2
 split at h<;>first|exact h.elim|skip
 ·obtain⟨hlen,hk⟩:=h;simp only[VR,DR]at hx;obtain⟨rfl,_⟩:=hx;obtain⟨a',c',w',jg,H⟩:=(R.hp.nil i.e i.sz).append (P:=P) (rt:=rt) q1 hb.1 JL GB.one (by rw[q2]) Ea (by simpa using hlen);simp only[nw,yh]at jg H;obtain⟨E',r1,r2,r3⟩:=cY R.nx GB huy H;exact⟨_,w',jg,E',_,_,r1,r2,r3,hk⟩
 ·rename_i n;split at h<;>first|exact h.elim|skip
  rename_i T sz eg hg;obtain⟨mr,hlen,hk⟩:=zK h;simp only[kx]at mr;have e1:=iX mr.1;have e2:=iX mr.2;subst e1 e2;obtain⟨a,c,xs,sub,h1,vh,hu,H⟩:=R.rn hg;simp only[VR]at hx;obtain⟨l,hx,_⟩:=hx;rw[h1]at hx;cases hx;obtain⟨a',c',w',jg,H⟩:=H.append (P:=P) (rt:=rt) q1 hb.1 JL GB.one (by rw[q2]) Ea hlen;obtain⟨E',r1,r2,r3⟩:=cY (eg:=eg++kq) R.nx (by rw[MP];exact vh.append GB) (λel oR=>by
   rcases pn.1 oR with h|h
   ·exact hu el h
   ·exact huy el h) (by rw[im];exact H)
  rw[im]at r3;exact⟨_,w',jg,E',_,_,r1,r2,r3,hk⟩
def Rel.LB {E:Ev} {s:St} (R:Rel k L E s w) {sz:Nat} {eg:List (List D)} {y:aa} (h:DR E.F (.ro sz eg) y):∃E',E.le E'/\Rel k L E' (s.new (.ja sz eg)) w/\E'.fv[s.nx]? =au (y,[]):=by
 have hle:E.le ⟨E.F,E.fv++[(y,[])]⟩:=Ev.le.app _;have jv:(E.fv++[((y,[]):Hd)])[s.nx]? =au (y,[]):=by rw[<- R.nx];simp
 refine⟨_,hle,⟨by simp[St.new,R.nx],?_⟩,jv⟩;have H2:=wO (λr x=>gu.mono hle r) R.hp;have:=(@hP k w True _).2 ⟨trivial,H2⟩;exact this.imp λx hx=> .inr ⟨_,jv,by simp only[fi];exact⟨hx.2,h⟩⟩
def SA:∀{vs:List V} {s:St} {K:List V->St->Prop} {E:Ev} {l:List aa},L9 vs s K->Rel k L E s w->gp E vs l->∃E' zy s',E.le E'/\Rel k L E' s' w/\gp E' zy l/\K zy s'
 |[],s,K,E,l,h,R,hv=>⟨E,[],s,Ev.le.refl _,R,hv,h⟩
 |v::vs,s,K,E,l,h,R,hv=>by
  simp only[L9]at h;simp only[gp]at hv;obtain⟨x,xs,rfl,h1,h2⟩:=hv;split at h
  ·rename_i sz eg;simp only[VR]at h1;obtain⟨E1,q1,q2,q3⟩:=R.LB h1;obtain⟨E2,zy,s',r1,r2,r3,r4⟩:=SA h q2 (h2.mono q1);refine⟨E2,_,s',q1.trans r1,r2,?_,r4⟩;simp only[gp,VR];simp only[DR]at h1;obtain⟨a,c,e,_⟩:=h1;exact⟨x,xs,rfl,⟨[],r1.get q3,a,_,c,e⟩,r3⟩
  ·obtain⟨E2,zy,s',r1,r2,r3,r4⟩:=SA h R h2;exact⟨E2,_,s',r1,r2,by simp only[gp];exact⟨x,xs,rfl,h1.mono r1,r3⟩,r4⟩
def oU.up {E E':Ev} (h:E.le E') {K:V->St->Prop} {y:aa} {w':ab}:oU k L E' K y w'->oU k L E K y w':=λ⟨E2,v,s',h1,h2⟩=>⟨E2,v,s',h.trans h1,h2⟩
def z1r {H:AY} (hH:HE P H) (R:Rel k L E s w) {f:ap} {args:List V} {ys:List aa} {K:V->St->Prop} (h:ZU H f args s K) (hv:gp E args ys):mo P (ag f ys.toArray) w (oU k L E K):=by
 unfold ZU at h;split at h
 ·rename_i n i rest;split at h<;>first|exact h.elim|skip
  rename_i t T m ix l hg;obtain⟨x,hx,h⟩:=h;simp only[gp]at hv;obtain⟨y,ys,rfl,h1,h2⟩:=hv;have AV:=h1;obtain⟨E1,hle,R1,GC,l0,ht⟩:=R.HW hg hx h1;have M7:gp E1 (.nm s.nx 0::rest) (y::ys):=by simp only[gp];exact⟨_,_,rfl,GC,h2.mono hle⟩
  refine(hH f _ _ _ h k L E1 w _ R1 M7).mono ?_;rintro r w' ⟨E',v,s',jh,R',OV,hk⟩;unfold yTs at hk;split at hk<;>first|exact hk.elim|skip
  rename_i o ha;split at hk<;>first|exact hk.elim|skip
  rename_i t' T' m' aa7 l' j hn;obtain⟨x',rfl,rfl,hi,hk⟩:=hk;simp only[VR]at AV;obtain⟨hd,aa8,b,oo,e1,e2,e3⟩:=AV;have e1':=(hle.trans jh).get e1;have R2:=R'.H9 ha hn hi (jh.get ht) (λv sub hs=>by rw[e1']at hs;cases hs;exact e2);exact⟨E',v,_,hle.trans jh,R2,OV,hk⟩
 ·exact hH f _ s K h k L E w _ R hv
def zXq {E:Ev} {ps:List (Nat×V)} {qs:List (Nat×aa)} {m:Nat} (h:U2 ps=au m) (hp:BK E ps qs):∃y,qs=[(0,y)]/\VR E (.nm m 0) y:=by
 unfold U2 at h;split at h<;>first|(cases h;done)|skip
 cases h;simp only[BK]at hp;obtain⟨y,ys,rfl,h1,rfl⟩:=hp;exact⟨y,rfl,h1⟩
def zXk (R:Rel k L E s w) {t:aj} {i:SlI} (hi:nE P t=au i) (oT:i.sz=1) {m:Nat} {T:Type} {mm:Nat} {ix:T->Nat->ff} {x:T} (hg:s.get m=au (.qq T mm ix x)) {qs:List (Nat×aa)}
 (hp:∃y,qs=[(0,y)]/\VR E (.nm m 0) y) {K:V->St->Prop} (hk:K (.own s.nx) ((s.del m).new (.jt i.e T mm ix [x] av))):
 ∃v w',(Instr.buildSlice t 1 qs.toArray).run P w= .ok v w'/\oU k L E K v w':=by
 obtain⟨y,rfl,hv⟩:=hp;simp only[VR]at hv;obtain⟨b,oo,l0,e1,rfl⟩:=hv;obtain⟨z,q1,q2,q3,q4⟩:=fX hi;obtain⟨inf,zv,p1,p2,p3,p4,p5,p6⟩:=kJ q1;have Lk:KY P t 1 #[(0,ci (au ⟨b,oo+0,av⟩))]=au (i.e,#[ci (au ⟨b,oo,av⟩)]):=by
  unfold KY;simp only[p1,p2];rw[ej (by rw[p3,oT];omega)];have hz:(if 1*inf.size=0 then au #[]else inf.zero.map Value.cells)=au z:=by
   rw[ej (by rw[p3,oT];omega),p5,vw,p6]
  rw[hz];simp only;have Am:Gq z (1*inf.size)=z:=by
   rw[p3,oT];have KI:z.size=1:=by rw[q2,oT]
   apply co;have:=sJ (z:=z.toList) 1;rw[OD,show z.toList.length=1 by simp[KI]]at this;simpa using this
  rw[Am,p3,oT];have KI:z.toList.length=1:=by simp[q2,oT]
  obtain⟨z0,hz0⟩:∃z0,z= #[z0]:=by
   match CC:z.toList,KI with
   |[a],_=>exact⟨a,by apply co;simpa using CC⟩
  subst hz0;simp[Instr.fill,Value.cells]
 refine⟨_,_,aX Lk w,?_⟩;have R1:=R.take hg;have H:=(R1.hp.new (.cells #[ci (au ⟨b,oo,av⟩)] i.e)).lit (l:=[ci (au ⟨b,oo,av⟩)]) (sz:=1) (n:=1) rfl;have H1:Hp k (w.alloc (.cells #[ci (au ⟨b,oo,av⟩)] i.e)) (gu E (m,.qq T mm ix x)::oa i.e 1 (au ⟨w.heap.size,0,av⟩) 1 1 [ci (au ⟨b,oo,av⟩)]::((s.del m).rows.map (gu E)++fz E.F::L)):=by
  refine H.perm ?_;refine(ce _ ?_).trans (.swap _ _ _);exact(bz _ (.swap _ _ _)).trans mg
 have H2:=(H1.imp λq hq=>zLv e1 hq).swap;have H3:Hp k (w.alloc (.cells #[ci (au ⟨b,oo,av⟩)] i.e)) (oa i.e 1 (au ⟨w.heap.size,0,av⟩) [x].length 1 [ci (au ⟨b,oo,av⟩)]::((az [x].length).map (xS E.F T mm ix [x] [ci (au ⟨b,oo,av⟩)] av)++((s.del m).rows.map (gu E)++fz E.F::L))):=by
  have H3:=H2.swap.imp (B:=xS E.F T mm ix [x] [ci (au ⟨b,oo,av⟩)] av 0) λq hq=>by
   unfold xS;rw[ej (by simp)];exact⟨x,_,l0,rfl,rfl,hq⟩
  exact H3.swap
 obtain⟨E2,t1,t2,t3⟩:=WT (l:=[x]) (by simpa[St.del]using R.nx) rfl (λp hp=>by rw[vf.1 hp];exact⟨_,_,rfl⟩) H3;exact⟨E2,_,_,t1,t2,t3,hk⟩
def zRz (R:Rel k L E s w) {t1 t2 rt:Nat} {x y:V} {xr yr:aa} (hx:VR E x xr) (hy:VR E y yr) {K:V->St->Prop} (h:VW P t1 t2 s x y K):
 ∃v w',(Builtin.append_ #[t1,t2] rt #[xr,yr]).run P w= .ok v w'/\oU k L E K v w':=by
 unfold VW at h;split at h<;>first|exact h.elim|skip
 rename_i n2;split at h<;>first|exact h.elim|skip
 rename_i t2' T2 m2 ux l2 yp;obtain⟨i,hi,h⟩:=zM h;obtain⟨hb,h⟩:=zK h;simp only[kx]at hb;have Ea:0<i.ou:=by simpa[xv]using hb.1.2
 have oT:=iX hb.2;obtain⟨z,q1,q2,q3,q4⟩:=fX hi;rw[oT]at q1 q2;obtain⟨a2,c2,rz,g1,g2,g3,H⟩:=SG R yp;simp only[VR]at hy;obtain⟨ly,hy,_⟩:=hy;rw[g1]at hy;cases hy;have DF:Src 1 w (.slice a2 l2.length c2) l2.length rz:= .inl ⟨a2,c2,rfl,by obtain⟨q,hq,hs⟩:=H.sat;exact⟨q,mQ hq,hs⟩⟩;have DG:∀v∈rz,v.nv=bu:=λv hv=>by obtain⟨_,_,rfl⟩:=g3 v hv;rfl
 split at h<;>first|exact h.elim|skip
 ·obtain⟨hlen,hk⟩:=h;simp only[VR,DR]at hx;obtain⟨rfl,_⟩:=hx;obtain⟨a',c',w',jg,H1⟩:=(H.nil i.e 1).append (P:=P) (rt:=rt) q1 hb.1.1 DF DG q2 Ea (by simpa using hlen);simp only[nw,yh]at jg H1;have H2:=H1.swap.drop;obtain⟨E',r1,r2,r3⟩:=WT (rows:=vH n2 s.rows) R.nx g2 g3 H2;exact⟨_,w',jg,E',_,_,r1,r2,r3,hk⟩
 ·rename_i n M8 aa9;split at h<;>first|exact h.elim|skip
  rename_i t1' T1 m1 PG l1 hg1;obtain⟨yl,he1,hlen,hk⟩:=h;rw[he1]at hg1;have R1:=R.take yp;obtain⟨a1,c1,A3,f1,f2,f3,H1⟩:=SG R1 hg1;simp only[VR]at hx;obtain⟨lx,hx,_⟩:=hx;rw[f1]at hx;cases hx;obtain⟨a',c',w',jg,H2⟩:=H1.append (P:=P) (rt:=rt) q1 hb.1.1 DF DG q2 Ea hlen;have p1:(bc (xS E.F T2 m2 ux yl A3 av) (az yl.length)++(bc (gu E) (vH n (s.del n2).rows)++fz E.F::gu E (n2,ff.jt t2' T2 m2 ux l2 av)::L)).Perm
   (gu E (n2,ff.jt t2' T2 m2 ux l2 av)::(bc (xS E.F T2 m2 ux yl A3 av) (az yl.length)++(bc (gu E) (vH n (s.del n2).rows)++fz E.F::L))):=
   (bz _ ((bz _ (.swap _ _ _)).trans mg)).trans mg
  have H3:=(H2.cons p1).swap;have H4:Hp k w' (Pr (oa t2' 1 a2 l2.length c2 rz) (hS ((az l2.length).map (xS E.F T2 m2 ux l2 rz av)))::oa i.e 1 a' (yl.length+l2.length) c' (A3++rz)::(bc (xS E.F T2 m2 ux yl A3 av) (az yl.length)++(bc (gu E) (vH n (s.del n2).rows)++fz E.F::L))):=
   H3.imp λq hq=>by
    rcases hq with⟨e,_⟩|⟨hd,h1,h2⟩
    ·cases e
    ·rw[g1]at h1;cases h1;obtain⟨a3,c3,e3,_,_,e4⟩:=qj.1 h2;cases e3;exact e4
  have H5:=qi.1 (ug.1 H4).drop;have H6:Hp k w' (oa i.e 1 a' (yl++l2).length c' (A3++rz)::((az (yl++l2).length).map (xS E.F T2 m2 ux (yl++l2) (A3++rz) av)++((vH n (s.del n2).rows).map (gu E)++fz E.F::L))):=by
   have H7:Hp k w' ((az yl.length).map (xS E.F T2 m2 ux yl A3 av)++((az l2.length).map (xS E.F T2 m2 ux l2 rz av)++(oa i.e 1 a' (yl.length+l2.length) c' (A3++rz)::((vH n (s.del n2).rows).map (gu E)++fz E.F::L)))):=by
    refine H5.perm ?_;refine(bz _ (mg.symm)).trans ?_;rw[<- jd,<- jd];exact cd _ AR
   have H8:=yGw f2 H7;rw[im]at H8 ⊢;exact H8.perm mg
  obtain⟨E',r1,r2,r3⟩:=WT (rows:=vH n (s.del n2).rows) (by simpa[St.del]using R1.nx) (by rw[im,im,f2,g2]) (λp hp=>by
   rcases pn.1 hp with h|h
   ·exact f3 p h
   ·exact g3 p h) H6
  rw[im]at r3;exact⟨_,w',jg,E',_,_,r1,r2,r3,hk⟩
def z0e {H:AY} {E:Ev} {s:St} {w:ab} (R:Rel k L E s w) {ρS:xA} {ρ:Env} (he:ki E ρS ρ) {o:ao} {K:V->St->Prop} {t:aj} {x:ar} {lo hi:Option ar} (ho:o.op= .slice t x lo hi av) (h:se P H o ρS s K):
 ∃y,Em P (ac (ev ρ) o) y/\oU k L E K y w:=by
 simp only[se,ho]at h;split at h<;>first|exact h.elim|skip
 rename_i n vh;have hx:=he.ev x;rw[vh]at hx;have ro:∀{E':Ev} {s':St} {sz:Nat} {eg:List (List D)} {l u:Option Int} {K':V->Prop},E.le E'->Rel k L E' s' w->DR E'.F (.ro sz eg) (ev ρ x)->gE P t=au sz->Gg ρS lo=au l->Gg ρS hi=au u->Mv sz eg l u K'->(∀v,K' v->K v s')->
  ∃y,Em P (ac (ev ρ) o) y/\oU k L E K y w:=by
  intro E' s' sz eg l u K' hle R' Pm hs h1 h2 yd hk;obtain⟨a,c,v,e1,Hv,aaU⟩:=Pm.Fw yd;have hp:dV P o ρ (λy=>VR E' v y):=by
   simp only[dV,ho,e1,hs,fB he h1,fB he h2,DS];exact z0h (λp n c hh=>hh E' rfl) aaU
  obtain⟨y,hy,hf⟩:=gU hp;exact⟨y,hf,E',v,s',hle,R',hy,hk v Hv⟩
 split at h<;>first|exact h.elim|skip
 ·rename_i T sz eg hg;obtain⟨ot,hs,h⟩:=zM h;obtain⟨hb,hh⟩:=zK h;clear h;have e:=iX hb;subst e;obtain⟨l,u,h1,h2,h⟩:=rC hh;clear hh;cases l with
  |none=>
   obtain⟨a,c,xs,sub,q1,q2,q3,H⟩:=R.rn hg;have Uv:=hx;simp only[VR]at hx;obtain⟨DC,hx,_⟩:=hx;rw[q1]at hx;have hev:ev ρ x= .slice a eg.length c:=((Prod.mk.inj (cg hx)).1).symm;have hnc:eg.length<=c:=H.len.2;cases u with
   |none=>
    have hp:dV P o ρ (λy=>VR E (.own n) y):=by
     simp only[dV,ho,hev,hs,fB he h1,fB he h2,DS,sy];exact⟨hnc,by rw[hev]at Uv;exact Uv⟩
    obtain⟨y,hy,hf⟩:=gU hp;exact⟨y,hf,E,_,s,Ev.le.refl _,R,hy,h⟩
   |some u=>
    obtain⟨⟨h3,h4⟩,hk⟩:=h;have hux:(eg.take u.toNat).length=u.toNat:=by rw[oe];omega
    have H2:Hp k w (oa T sz a (eg.take u.toNat).length c (xs.take (u.toNat*sz))::((vH n s.rows).map (gu E)++fz E.F::L)):=by
     refine H.imp λz hz=> ?_
     rw[hux];rcases hz with⟨rfl,z1,rfl,rfl,rfl⟩|⟨b,r,rfl,rfl,z2,z3,z4⟩
     ·left;exact⟨rfl,by omega,rfl,by simp,rfl⟩
     ·right;have hle:u.toNat*sz<=eg.length*sz:=wj _ (by omega);refine⟨b,xs.drop (u.toNat*sz)++r,rfl,?_,?_,?_,by omega⟩
      ·rw[<- jd,Bz]
      ·rw[oe];omega
      ·rw[<- jd,Bz];exact z3
    obtain⟨E',r1,r2,r3⟩:=cY (eg:=eg.take u.toNat) R.nx (by rw[<- rN _ q3];exact q2.take _) (λel oR=>q3 el (MS oR)) H2;have hp:dV P o ρ (λy=>VR E' (.own s.nx) y):=by
     simp only[dV,ho,hev,hs,fB he h1,fB he h2,DS,sy];rw[hux]at r3;exact⟨⟨h3,by omega⟩,r3⟩
    obtain⟨y,hy,hf⟩:=gU hp;exact⟨y,hf,E',_,_,r1,r2,hy,hk⟩
  |some l=>
   have GJ:=NZ R (v:= .own n) (d:= .ro sz eg) (s':=s.set n (.ja sz eg)) (by simp only[Kq,hg]) hx;obtain⟨E',r1,r2,r3,r4,r5⟩:=GJ;exact ro r1 r3 r5 hs h1 h2 h (λv hv=>hv)
 ·rename_i sz eg hg;obtain⟨ot,hs,h⟩:=zM h;obtain⟨hb,hh⟩:=zK h;clear h;have e:=iX hb;subst e;obtain⟨l,u,h1,h2,h⟩:=rC hh;clear hh;have GJ:=NZ R (v:= .own n) (d:= .ro sz eg) (s':=s) (by simp only[Kq,hg]) hx;obtain⟨E',r1,r2,r3,r4,r5⟩:=GJ;exact ro r1 r3 r5 hs h1 h2 h (λv hv=>hv)
def z0d {H:AY} (hH:HE P H) (R:Rel k L E s w) {ρS:xA} {ρ:Env} (he:ki E ρS ρ) {o:ao} {K:V->St->Prop} (h:se P H o ρS s K):mo P (ac (ev ρ) o) w (oU k L E K):=by
 cases ho:o.op
 case alloc e=>
  simp only[se,ho]at h;obtain⟨z,hz,h⟩:=zM h;obtain⟨hb,hk⟩:=zK h;obtain⟨l,hl,hv⟩:=VR.cells (E:=E) hb (NO E z);simp only[ac,ho];refine yD (v:= .pointer (au ⟨w.heap.size,0,av⟩)) (w':=w.alloc (.cells z.cells e)) ?_ ?_
  ·simp only[Instr.alloc,bind,pure,run_bind,lq (cI hz),cp,zOx]
  ·refine SN (hd:=(.pointer (au ⟨w.heap.size,0,av⟩),[])) R ?_ (λhg=> ?_) hk
   ·simp only[fi];exact⟨_,l,rfl,gp.mono (Ev.le.app _) hv,by rw[hl]⟩
   ·simp only[VR];exact⟨_,0,_,hg,rfl⟩
 case box e x=>
  simp only[se,ho]at h;obtain⟨hb,hk⟩:=zK h;obtain⟨l,hl,hv⟩:=VR.cells (E:=E) hb (he.ev x);obtain⟨E1,us,s1,wb,R1,hv,hk⟩:=SA hk R hv;simp only[ac,ho];refine yD (v:= .pointer (au ⟨w.heap.size,0,av⟩)) (w':=w.alloc (.cells (ev ρ x).cells e)) rfl (oU.up wb ?_);refine SN (hd:=(.pointer (au ⟨w.heap.size,0,av⟩),[])) R1 ?_ (λhg=> ?_) hk
  ·simp only[fi];exact⟨_,l,rfl,gp.mono (Ev.le.app _) hv,by rw[hl]⟩
  ·simp only[VR];exact⟨_,0,_,hg,rfl⟩
 case buildSlice t len ps=>
  simp only[se,ho]at h;split at h
  ·rename_i m hm;split at h<;>first|exact h.elim|skip
   rename_i T mm ix x hg;obtain⟨i,hi,h⟩:=zM h;obtain⟨hb,hk⟩:=zK h;simp only[kx]at hb;have pz:=iX hb.1;have mr:=iX hb.2;subst mr;obtain⟨v,w',hr,Cc⟩:=zXk R hi pz hg (hp:=zXq hm (Ta he ps.toList)) hk;simp only[ac,ho];refine yD ?_ Cc;have CE:(ps.map λ(x:Nat×ar)=>(x.1,ev ρ x.2))=(ps.toList.map λp=>(p.1,ev ρ p.2)).toArray:=by apply co;simp
   rw[CE];exact hr
  obtain⟨i,hi,h⟩:=zM h;obtain⟨hb,h⟩:=zK h;split at h<;>first|exact h.elim|skip
  rename_i eg s' hf;obtain⟨z,q1,q2,q3,q4⟩:=fX hi;obtain⟨inf,zv,p1,p2,p3,p4,p5,p6⟩:=kJ q1;have Ni:iz E.F (ba len i.z).flatten (Gq z (len*i.sz)).toList:=by
   rw[<- q2,show z.size=z.toList.length by simp];have:=sJ (z:=z.toList) len;rw[OD]at this;rw[this];exact Vh (q4 E.F) len
  obtain⟨E',B1,r1,r2,r3,r4,r5,r6,r7,r8⟩:=zZh R hf (Ta he ps.toList) (N7 q3) Ni;have Lk:KY P t len (ps.map λ(i,x)=>(i,ev ρ x))=au (i.e,B1.toArray):=by
   unfold KY;simp only[p1,p2];rw[ej (by rw[p3];have:=BA hb;omega)];have hz:(if len*inf.size=0 then au #[]else inf.zero.map Value.cells)=au (if len*inf.size=0 then #[]else z):=by
    split
    ·rfl
    ·rw[p5,vw,p6]
   have Am:Gq (if len*inf.size=0 then #[]else z) (len*inf.size)=Gq z (len*i.sz):=by
    rw[p3];by_cases h0:len*i.sz=0
    ·rw[fc h0,h0];rfl
    ·rw[ej h0]
   rw[hz];simp only;rw[Am];simp only[p3];rw[OD]at r8;have CE:(ps.map λ(x:Nat×ar)=>(x.1,ev ρ x.2)).toList=ps.toList.map λp=>(p.1,ev ρ p.2):=by simp
   rw[CE,r8];rfl
  simp only[ac,ho];refine yD (aX Lk w) ?_;have hlen:eg.length=len:=by rw[r6,Gw]
  have AG:B1.length=eg.length*i.sz:=by rw[r7.length,jM r5]
  have H:=(r3.hp.new (.cells B1.toArray i.e)).lit AG;obtain⟨E2,t1,t2,t3⟩:=cY r3.nx r7 r5 H;rw[hlen]at t3;exact⟨E2,_,_,r1.trans t1,t2,t3,h⟩
 case makeMap t r=>
  cases r with
  |some r=>simp only[se,ho]at h
  |none=>
   simp only[se,ho]at h;simp only[ac,ho];refine yD (v:= .map (au w.heap.size)) (w':=w.alloc (.map #[] 0)) rfl ?_;refine SN (hd:=(.map (au w.heap.size),[])) R ?_ (λhg=> ?_) h
   ·simp only[fi];exact⟨_,[],0,rfl,by simp only[MR],yLd,rfl⟩
   ·simp only[VR];exact⟨_,_,hg,rfl⟩
 case makeSlice t l c=>
  simp only[se,ho]at h;split at h<;>first|exact h.elim|skip
  rename_i kl l' kc c' hl hc;obtain⟨i,hi,BF,hk⟩:=zM h;obtain⟨z,q1,q2,q3,q4⟩:=fX hi;have el:=he.ev l;have ec:=he.ev c;rw[hl]at el;rw[hc]at ec;simp only[ac,ho,el.DE,ec.DE];refine yD (zPm q1 BF w) ?_;have Am:(madeCells z (c'.toNat*i.sz)).toList=(ba c'.toNat z.toList).flatten:=by
   have:=sJ (z:=z.toList) c'.toNat;rw[OD,show z.toList.length=i.sz by simp[q2]]at this;rw[<- this,<- V'];rfl
  have oQ:ba c'.toNat z.toList=ba l'.toNat z.toList++ba (c'.toNat-l'.toNat) z.toList:=by
   rw[List.replicate_append_replicate];congr 1;omega
  have hx:iz E.F (ba l'.toNat i.z).flatten (ba l'.toNat z.toList).flatten:=Vh (q4 E.F) _;have CC:z.toList.length=i.sz:=by simp[q2]
  have H:=R.hp.new (.cells (madeCells z (c'.toNat*i.sz)) i.e);have E7:madeCells z (c'.toNat*i.sz)=((ba l'.toNat z.toList).flatten++(ba (c'.toNat-l'.toNat) z.toList).flatten).toArray:=by
   apply co;rw[Am,oQ,MP]
  rw[E7]at H ⊢;have H2:=H.Aj (n:=l'.toNat) (c:=c'.toNat) (sz:=i.sz) (by rw[jM (N7 CC),Gw]) (by
   rw[im,jM (N7 CC),jM (N7 CC),Gw,Gw,<- zc];congr 1;omega) (by omega)
  obtain⟨E2,t1,t2,t3⟩:=cY (eg:=ba l'.toNat i.z) R.nx hx (N7 q3) (by rw[Gw];exact H2);rw[Gw]at t3;exact⟨E2,_,_,t1,t2,t3,hk⟩
 case store t x v=>
  simp only[se,ho]at h;have hx:=he.ev x;split at h<;>first|exact h.elim|skip
  ·rename_i n off vh;rw[vh]at hx;simp only[VR]at hx;obtain⟨b,oo,sub,e1,e2⟩:=hx;obtain⟨UF,h⟩:=zK h;obtain⟨lv,O6,OU⟩:=VR.cells UF (he.ev v);obtain⟨E1,us,s1,wb,R1,OU,h⟩:=SA h R OU;have e1:=wb.get e1;split at h<;>first|exact h.elim|skip
   rename_i vs T hg;obtain⟨m,hm,h⟩:=zM h;obtain⟨hb,hk⟩:=zK h;simp only[kx]at hb;obtain⟨⟨pz,mr⟩,CG⟩:=hb;have pz:=iX pz;have mr:=BA mr;obtain⟨b',l,DC,q1,q2,q3⟩:=R1.cells hg;rw[e1]at q1;cases q1;have h1:=q2.length;have h2:=OU.length;have ku:=u7 (P:=P) (o:=0+off) hm O6 (by rw[h2,pz]) (by omega) (z2y CG OU) q3;simp only[ac,ho,e2];refine wM ku ⟨E1,_,_,wb,R1.setCells hg e1 (zy:=vs.take off++(us++vs.drop (off+m))) ?_,?_,hk⟩
   ·unfold jz;rw[jd,nw,h2,pz];exact(q2.take off).append (OU.append (q2.drop _))
   ·simp only[VR];exact⟨[],rfl,gp.nil⟩
  ·rename_i n sz i f vh;split at h
   ·rename_i xh hxh;rw[vh]at hx;simp only[VR]at hx;obtain⟨b,oo,mm,c,sub,e1,e2⟩:=hx;obtain⟨w',ku,oz⟩:=z3a R hxh h (he.ev v) e1;simp only[ac,ho,e2];exact wM ku oz
   split at h<;>first|exact h.elim|skip
   rename_i ds s' hd;split at h<;>first|exact h.elim|skip
   rename_i T ot eg hg;obtain⟨m,hm,h⟩:=zM h;obtain⟨hb,hi,hk⟩:=zK h;simp only[kx]at hb;obtain⟨⟨pz,mr⟩,CG⟩:=hb;have e:=iX pz;subst e;have mr:=iX mr;have CG:=BA CG;obtain⟨E',ys,q1,q2,q3,q4,q5,q6⟩:=Mb R hd (he.ev v);rw[vh]at hx;simp only[VR]at hx;obtain⟨b,oo,mm,c,sub,e1,e2⟩:=hx;obtain⟨l,r1,r2,r3⟩:=q3.Lt (ds:=ds) (f:=f) hg hi (by omega) (q1.get e1) q6;have ku:=u7 (P:=P) (o:=oo+i*sz+f) hm q5 (by rw[q6.length,mr]) (by rw[q6.length,mr]at r2;exact r2) q6.one r1;simp only[ac,ho,e2];exact wM ku ⟨E',_,_,q1,r3,by simp only[VR];exact⟨[],rfl,gp.nil⟩,hk⟩;rename_i T eg hg;obtain⟨m,hm,h⟩:=zM h;obtain⟨hb,hi,hk⟩:=zK h;simp only[kx]at hb;obtain⟨⟨⟨pz,mr⟩,CG⟩,UK⟩:=hb;have pz:=iX pz;have mr:=iX mr;have CG:=iX CG;have UK:=iX UK;subst pz CG UK;obtain⟨E',ys,q1,q2,q3,q4,q5,q6⟩:=Mb R hd (he.ev v);rw[vh]at hx;simp only[VR]at hx;obtain⟨b,oo,mm,c,sub,e1,e2⟩:=hx;have CD:=q6.length;obtain⟨y,rfl⟩:∃y,ys=[y]:=List.length_eq_one_iff.1 (by omega);obtain⟨l,r1,r2,r3,r4⟩:=q3.Lu (ds:=ds) hg hi mr (q1.get e1) q6;have ku:=zSp (P:=P) (o:=oo+i) hm q5 (by rw[r4];simpa using r2) (q6.one y ji) r1;simp only[ac,ho,e2];have ea:oo+i*1+0=oo+i:=by omega
   rw[ea];exact wM ku ⟨E',_,_,q1,r3,by simp only[VR];exact⟨[],rfl,gp.nil⟩,hk⟩
  ·rename_i n off i vh;rw[vh]at hx;simp only[VR]at hx;obtain⟨b,oo,sub,e1,e2⟩:=hx;have Ux:=he.ev v;split at h<;>first|exact h.elim|skip
   rename_i u hu;rw[hu]at Ux;have GC:=Ux;simp only[VR,DR]at GC;obtain⟨GC,KJ⟩:=GC;split at h<;>first|exact h.elim|skip
   rename_i vs T hg;obtain⟨m,hm,h⟩:=zM h;obtain⟨hb,hi,hk⟩:=zK h;have hb:=iX hb;subst hb;rw[oV]at hi;obtain⟨b',l,DC,q1,q2,q3⟩:=R.cells hg;rw[e1]at q1;cases q1;have h1:=q2.length;have O6:(ev ρ v).cells=[u].toArray:=by
    rw[GC];cases u<;>first|rfl|cases KJ
   have ku:=u7 (P:=P) (o:=0+(off+i)) hm O6 rfl (by omega) (by intro z hz;rw[vf.1 hz];exact KJ) q3;simp only[ac,ho,e2];refine wM ku ⟨E,_,_,Ev.le.refl _,R.setCells hg e1 (zy:=vs.take off++(vs.drop off).set i (.d (.v u))) ?_,?_,hk⟩
   ·have e:vs.take off++(vs.drop off).set i (.d (.v u))=vs.take (off+i)++([.d (.v u)]++vs.drop (off+i+1)):=by
     rw[MU,fc (by rw[oV];omega),Cw,List.take_add,jd];rfl
    rw[e];unfold jz;rw[jd,nw];exact(q2.take _).append ((gp.one (by simp only[VR,DR];exact⟨trivial,KJ⟩)).append (q2.drop _))
   ·simp only[VR];exact⟨[],rfl,gp.nil⟩
   rename_i vs T hg;obtain⟨m,hm,h⟩:=zM h;obtain⟨hb,hi,hk⟩:=zK h;have hb:=iX hb;subst hb;rw[oV]at hi;obtain⟨b',l,DC,q1,q2,q3⟩:=R.vec hg;rw[e1]at q1;cases q1;have h1:=q2.length;have O6:(ev ρ v).cells=[u].toArray:=by
    rw[GC];cases u<;>first|rfl|cases KJ
   have ku:=u7 (P:=P) (o:=0+(off+i)) hm O6 rfl (by omega) (by intro z hz;rw[vf.1 hz];exact KJ) q3;simp only[ac,ho,e2];refine wM ku ⟨E,_,_,Ev.le.refl _,R.Ls hg e1 (CL:=vs.take off++(vs.drop off).set i (.v u)) ?_,?_,hk⟩
   ·have e:vs.take off++(vs.drop off).set i (.v u)=vs.take (off+i)++([.v u]++vs.drop (off+i+1)):=by
     rw[MU,fc (by rw[oV];omega),Cw,List.take_add,jd];rfl
    rw[e];unfold jz;rw[jd,nw];exact(q2.take _).append ((show iz E.F [.v u] [u]from(by simp only[iz,DR];exact⟨_,_,rfl,⟨rfl,KJ⟩,rfl⟩)).append (q2.drop _))
   ·simp only[VR];exact⟨[],rfl,gp.nil⟩
 case convert st d x=>
  simp only[se,ho]at h;split at h<;>first|exact h.elim|skip
  ·rename_i b hx;obtain⟨hb,h⟩:=zK h;obtain⟨e,qy,hk⟩:=zM h;obtain⟨u1,u2⟩:=zUz qy;have hv:=he.ev x;rw[hx]at hv;simp only[VR,DR]at hv;simp only[ac,ho,hv.1];have jg:=Lib.run_convert_string_bytes (P:=P) w st d e b (nI hb) u1 u2;refine yD jg ?_;exact z4j R b e hk
  ·rename_i n hx;split at h<;>first|exact h.elim|skip
   rename_i T sz eg hg;obtain⟨hb,h⟩:=zK h;simp only[kx]at hb;have ku:=iX hb.1;have oT:=iX hb.2;obtain⟨e,qy,h2⟩:=zM h;obtain⟨hTb,yx,hk⟩:=zK h2;have hT:=iX hTb;subst ku oT hT;obtain⟨u1,u2⟩:=zUz qy;have hv:=he.ev x;rw[hx]at hv;simp only[VR]at hv;obtain⟨l0,e1,a0,m0,c0,e2⟩:=hv;obtain⟨a,c,xs,sub,q1,q2,q3,H⟩:=R.rn hg;rw[q1]at e1;rcases H.ov with⟨_,h0,_⟩|⟨b,r,rfl,r1,r2,r3,H1⟩
   ·omega
   have jg:=yJk (P:=P) (w:=w) (b:=b) (l:=xs++r) (T:=T) (t:=st) H1.get u1 u2 eg.length c;have H2:=H1.yj (.cells (xs++r).toArray T ((xs++r).length,(xs++r).length+1));have H3:Hp k (World.iR w b (.cells (xs++r).toArray T ((xs++r).length,(xs++r).length+1))) (pt b (.cells (xs++r).toArray T ((xs++r).length,(xs++r).length+1))::fz E.F::((vH n s.rows).map (gu E)++L)):=H2.cons mg;obtain⟨y,hy,hd,iS,H4⟩:=UY H3;have hle:E.le ⟨un y E.F,E.fv⟩:=⟨Y' hd,IN _⟩
   have H5:=wO (λr x=>gu.mono hle r) (H4.perm (mg (l₁:=(vH n s.rows).map (gu E)) (l₂:=L) (a:=fz (un y E.F))).symm);have H6:Hp k (World.iR w b (.cells (xs++r).toArray T ((xs++r).length,(xs++r).length+1))) (gu ⟨un y E.F,E.fv⟩ (n,.ja 1 eg)::((vH n s.rows).map (gu ⟨un y E.F,E.fv⟩)++fz (un y E.F)::L)):=by
    have:=(@hP k _ True _).2 ⟨trivial,H5⟩;refine this.imp λz hz=> .inr ⟨_,q1,?_⟩
    simp only[fi];refine⟨hz.2,?_⟩;simp only[DR];refine⟨_,c,rfl,r3,q3,.inr ⟨b,0,xs++r,T,((xs++r).length,(xs++r).length+1),rfl,?_,oJ.2 ⟨xs,r,rfl,q2.mono hle.1⟩⟩⟩;rw[show y=one b _ from hy];simp[un,one]
   have R2:Rel k L ⟨un y E.F,E.fv⟩ (s.set n (.ja 1 eg)) (World.iR w b (.cells (xs++r).toArray T ((xs++r).length,(xs++r).length+1))):=by
    refine⟨by simpa[St.set]using R.nx,H6.perm ?_⟩;have:=(((vQ hg).2 (.ja 1 eg)).map (gu ⟨un y E.F,E.fv⟩)).append_right (fz (un y E.F)::L);simpa[St.set]using this.symm
   have e3:ev ρ x= .slice (au ⟨b,0,av⟩) eg.length c:=(congrArg Prod.fst (cg e1)).symm;simp only[ac,ho];rw[e3];exact yD jg ⟨_,_,_,hle,R2,by simp only[VR];exact⟨_,q1,_,_,_,rfl⟩,hk⟩
 case slice t x lo hi mx=>
  cases mx with
  |some m=>simp only[se,ho]at h
  |none=>
   obtain⟨y,hf,Cc⟩:=z0e R he ho h;exact j7 (hf w) Cc
 case mapUpdate t x i v=>
  simp only[se,ho]at h;split at h<;>first|exact h.elim|skip
  rename_i n hx;obtain⟨ke,BD,h⟩:=zM h;obtain⟨kv,Hv,h⟩:=zM h;obtain⟨hb,h⟩:=zK h;simp only[kx]at hb;split at h<;>first|exact h.elim|skip
  rename_i ds s1 hd;split at h<;>first|exact h.elim|skip
  rename_i es hg;obtain⟨BG,hk⟩:=h;obtain⟨E1,ys,q1,q2,q3,q4,q5,q6⟩:=Mb R hd (he.ev v);have EI:=he.ev x;rw[hx]at EI;simp only[VR]at EI;obtain⟨bm,sub,e1,e2⟩:=EI;have e1:=q1.get e1;rw[e2]at e1;obtain⟨fq,ck,r1,r2,rb,r3⟩:=q3.Ft (CK:=u6 kv ds es) hg e1;have hi:ev ρ i=kv:=tU Hv (he.ev i);obtain⟨kd,hu,yo⟩:=S5 hb.1;have yq:=z0f hb.2 (he.ev v) q5;have run:∃iL sv,MR E1.F (u6 kv ds es) iL/\vS iL sv/\(Instr.mapUpdate t (.map (au bm)) kv (ev ρ v)).run P w= .ok () (World.iR w bm (.map iL.toArray sv)):=by
   rcases Mq yo 0 r1 BG with⟨t1,t2,t3,t4,_⟩|⟨q,m,CL,Dl,t1,t2,t3,t4,t5,t6,t7,t8,_⟩
   ·refine⟨fq++[{key:=kv,val:=ev ρ v,born:=ck}],ck+1,by rw[t3];exact Vk q6 (e:={key:=kv,val:=ev ρ v,born:=ck}) rfl yq r1,zTs rb rfl,?_⟩;simp only[Instr.mapUpdate,bind,run_bind,Cv.run_underlying (hU BD),qJ r2 trivial,pure,cp,jT hu yo,wV hu t1];rw[uG r2 trivial];simp
   ·refine⟨fq.set q {m with key:=kv,val:=ev ρ v},ck,t7 _ _ _ q6 rfl yq,Wk rb t2 rfl,?_⟩;have hq:(fq.toArray[0+q]?).map (·.key)=au kv:=by simp[t2,t3]
    simp only[Instr.mapUpdate,bind,run_bind,Cv.run_underlying (hU BD),qJ r2 trivial,pure,cp,jT hu yo,wV hu t1,hq,zf,Instr.keyThatStays,zHd yo,if_true];rw[uG r2 trivial];congr 4;rw[List.modify_toArray];congr 1;rw[nw,List.modify_eq_set,t2];rfl
  obtain⟨iL,sv,u1,ub,u2⟩:=run;simp only[ac,ho,e2,hi];exact wM u2 ⟨E1,.iW [],_,q1,r3 iL sv u1 ub,by simp only[VR];exact⟨[],rfl,gp.nil⟩,hk⟩
 case mapEntry t x i=>
  simp only[se,ho]at h;split at h<;>first|exact h.elim|skip
  rename_i n hx;obtain⟨ke,BD,h⟩:=zM h;obtain⟨kv,Hv,h⟩:=zM h;obtain⟨Pa,h⟩:=zK h;obtain⟨z,hz,h⟩:=zM h;split at h<;>first|exact h.elim|skip
  rename_i es hg;obtain⟨BG,b,h⟩:=h;obtain⟨ds,h⟩:=bX h;obtain⟨O8,h⟩:=h;obtain⟨v,hm,hk⟩:=zM h;have EI:=he.ev x;rw[hx]at EI;simp only[VR]at EI;obtain⟨bm,sub,e1,e2⟩:=EI;rw[e2]at e1;obtain⟨fq,ck,r1,r2,rb,r3⟩:=R.HY (CK:=u6 kv ds es) (kv:=kv) hg e1;have hi:ev ρ i=kv:=tU Hv (he.ev i);obtain⟨kd,hu,yo⟩:=S5 Pa;have run:∃iL sv y born,MR E.F (u6 kv ds es) iL/\vS iL sv/\Sm iL kv born/\VR E v y/\(Instr.mapEntry t (.map (au bm)) kv).run P w= .ok (.tuple #[y,.int .i64 born]) (World.iR w bm (.map iL.toArray sv)):=by
   rcases Mq yo 0 r1 BG with⟨t1,t2,t3,t4,t5⟩|⟨q,m,CL,Dl,t1,t2,t3,t4,t5,t6,t7,t8,t9⟩
   ·rcases O8 with⟨l1,l2⟩|⟨l1,l2,l3⟩
    ·rw[t2]at l1;cases l1
    ·subst l2 l3;obtain⟨zv,ys,z1,z2,z3⟩:=yCq (F:=E.F) hz hm;refine⟨fq++[{key:=kv,val:=zv,born:=ck}],ck+1,zv,ck,by rw[t3];exact Vk z2 (e:={key:=kv,val:=zv,born:=ck}) rfl z3 r1,zTs rb rfl,⟨kd,yo,fq.length,_,by have:=t5 {key:=kv,val:=zv,born:=ck} rfl;rwa [nw]at this,by simp,rfl⟩,by rw[z3];exact Vo hm z2,?_⟩;simp only[Instr.mapEntry,bind,run_bind,Cv.run_underlying (hU BD),qJ r2 trivial,pure,cp,jT hu yo,wV hu t1,lq (cI z1)];rw[uG r2 trivial];simp[goInt]
   ·rcases O8 with⟨l1,l2⟩|⟨l1,l2,l3⟩
    ·rw[t4]at l1;cases l1;refine⟨fq.set q {m with key:=kv},ck,m.val,m.born,t7 _ _ _ t5 rfl t6,Wk rb t2 rfl,⟨kd,yo,q,{m with key:=kv},by have:=t9 {m with key:=kv} rfl;rwa [nw]at this,by
      rw[List.getElem?_set_self (jl.1 t2).1],rfl⟩,by rw[t6];exact Vo hm t5,?_⟩
     have hq:(fq.toArray[0+q]?).map (·.key)=au kv:=by simp[t2,t3]
     have OZ:((fq.toArray[0+q]?).map λx=>((x.born:Nat):Int))=au (m.born:Int):=by simp[t2]
     simp only[Instr.mapEntry,bind,run_bind,Cv.run_underlying (hU BD),qJ r2 trivial,pure,cp,jT hu yo,wV hu t1,hq,OZ,zf,Instr.keyThatStays,zHd yo,if_true];rw[uG r2 trivial];simp only[goInt,OZ,zf];congr 3;rw[List.modify_toArray];congr 1;rw[nw,List.modify_eq_set,t2];rfl
    ·rw[t4]at l1;cases l1
  obtain⟨iL,sv,y,born,u1,ub,us,uy,u2⟩:=run;simp only[ac,ho,e2,hi];exact yD u2 ⟨E,.iW [v,.d (.v (.int .i64 born))],_,Ev.le.refl _,r3 iL sv born u1 ub us,by simp only[VR,gp,DR];exact⟨_,rfl,_,_,rfl,uy,_,_,rfl,⟨rfl,rfl⟩,rfl⟩,hk born⟩
 case entryStore t x st v=>
  simp only[se,ho]at h;split at h<;>first|exact h.elim|skip
  rename_i n hx;split at h<;>first|exact h.elim|skip
  rename_i ik b ku;obtain⟨ke,BD,h⟩:=zM h;obtain⟨hb,h⟩:=zK h;split at h<;>first|exact h.elim|skip
  rename_i ds s1 hd;split at h<;>first|exact h.elim|skip
  rename_i es kv b' hg;obtain⟨rfl,BG,hk⟩:=h;obtain⟨E1,ys,q1,q2,q3,q4,q5,q6⟩:=Mb R hd (he.ev v);have EI:=he.ev x;rw[hx]at EI;simp only[VR]at EI;obtain⟨bm,sub,e1,e2⟩:=EI;have e1:=q1.get e1;rw[e2]at e1;have hsv:=he.ev st;rw[ku]at hsv;simp only[VR,DR]at hsv;obtain⟨fq,ck,r1,r2,rb,⟨kd,yo,q,m,u1,u2,u3⟩,r3⟩:=q3.HX (CK:=u6 kv ds es) hg e1;have yq:=z0f hb (he.ev v) q5;rcases Mq yo 0 r1 BG with⟨t1,t2,t3,t4,t5⟩|⟨q',m',CL,Dl,t1,t2,t3,t4,t5,t6,t7,t8,t9⟩
  ·rw[t1]at u1;cases u1
  ·rw[t1]at u1;simp only[cf,Prod.mk.injEq,nw]at u1;obtain⟨rfl,_⟩:=u1;rw[t2]at u2;cases u2;have hfi:=yFe rb.1 t2;have run:(Instr.entryStore t (.map (au bm)) (ev ρ st) (ev ρ v)).run P w= .ok () (World.iR w bm (.map (fq.set q' {m with val:=ev ρ v}).toArray ck)):=by
    rw[hsv.1,<- u3];have hfa:fq.toArray.findIdx? (λe=>((e.born:Nat):Int)==((m.born:Nat):Int))=au q':=by simpa using hfi
    simp only[Instr.entryStore,bind,run_bind,qJ r2 trivial,pure,cp,asInt,asIntOf,hfa];rw[uG r2 trivial];congr 2;rw[List.modify_toArray];congr 1;rw[List.modify_eq_set,t2];rfl
   simp only[ac,ho,e2];exact wM run ⟨E1,.iW [],_,q1,r3 _ ck (t7 _ _ _ q6 t3 yq) (Wk rb t2 rfl),by simp only[VR];exact⟨[],rfl,gp.nil⟩,hk⟩
 case range t x=>
  simp only[se,ho]at h;split at h<;>first|exact h.elim|skip
  rename_i b hx;obtain⟨hs,hk⟩:=zK h;have hv:=he.ev x;rw[hx]at hv;simp only[VR,DR]at hv;simp only[ac,ho,hv.1];refine yD (v:= .pointer (au ⟨w.heap.size,0,av⟩)) (w':=w.alloc (.stringIter b 0)) ?_ ?_
  ·simp only[Instr.range,bind,pure,run_bind,cq,Cv.run_underlying (nI hs)];rfl
  ·refine SN (hd:=(.pointer (au ⟨w.heap.size,0,av⟩),[])) R ?_ (λhg=> ?_) hk
   ·simp only[fi];exact⟨_,rfl,rfl⟩
   ·simp only[VR];exact⟨_,0,_,hg,rfl⟩
 case next x isS=>
  cases isS with
  |false=>simp only[se,ho]at h
  |true=>
   simp only[se,ho]at h;split at h<;>first|exact h.elim|skip
   rename_i n hx;split at h<;>first|exact h.elim|skip
   rename_i b pos hg;have hv:=he.ev x;rw[hx]at hv;simp only[VR]at hv;obtain⟨bb,oo,sub,e1,e2⟩:=hv;obtain⟨hd,hh,e3,e4,_⟩:=R.row hg (by simp);rw[e1]at e3;cases e3;simp only[fi]at e4;obtain⟨b2,e4,_⟩:=e4;cases e4;have hS:=λpos'=>R.setIter (pos':=pos') hg e1
   have jv:=(hS 0).1;simp only[ac,ho,e2];rcases z8g h with⟨hb,hk⟩|⟨hb,hk⟩
   ·have gr:pos<b.size:=by simpa[xv]using hb
    refine yD (v:= .tuple #[.bool bu,.int .i64 (pos:Nat),.int .i32 (Utf8.decode b pos).1]) (w':=World.iR w bb (.stringIter b (pos+(Utf8.decode b pos).2))) ?_
     ⟨E,_,_,Ev.le.refl _,(hS _).2,?_,hk⟩
    ·simp only[Instr.next,bind,pure,run_bind,cq,cp,qJ jv trivial,fc gr,uG jv trivial];rfl
    ·simp only[VR,gp,DR];exact⟨_,rfl,_,_,rfl,⟨rfl,rfl⟩,_,_,rfl,⟨rfl,rfl⟩,_,_,rfl,⟨rfl,rfl⟩,rfl⟩
   ·have gr:¬pos<b.size:=by
     intro h';have:ax pos b.size=bu:=by rw[xv];exact h'
     rw[this]at hb;cases hb
    refine yD (v:= .tuple #[.bool bv]) (w':=w) ?_ ⟨E,_,_,Ev.le.refl _,R,?_,hk⟩
    ·simp only[Instr.next,bind,pure,run_bind,cq,cp,qJ jv trivial,ej gr]
    ·simp only[VR,gp,DR];exact⟨_,rfl,_,_,rfl,⟨rfl,rfl⟩,rfl⟩
 case call c=>
  simp only[se,ho]at h;split at h<;>first|exact h.elim|skip
  ·rename_i x hc;split at h<;>first|exact h.elim|skip
   rename_i f a b hx;have hv:=he.ev x;rw[hx]at hv;simp only[VR]at hv;obtain⟨as,bs,e1,e2,e3⟩:=hv;obtain⟨ys,e4,e5⟩:=b6 he c.args;have jg:(ac (ev ρ) o)=ag f (as++(ys++bs)).toArray:=by
    have sx:ac (ev ρ) o=(resolve (ev ρ) c o.type).bind λd=>invoke d.target d.args:=by
     simp only[ac,ho];rfl
    rw[sx];unfold resolve;rw[hc];simp only[e1,Deferred.ofValue,pure,cq,invoke,e4];congr 1;apply co;simp
   rw[jg];exact z1r hH R h (e2.append (e5.append e3))
  ·rename_i hc;split at h<;>first|exact h.elim|skip
   rename_i t1 t2 hts;split at h<;>first|exact h.elim|skip
   rename_i x y nh;obtain⟨ys,e1,e2⟩:=b6 he c.args;rw[nh]at e2;simp only[gp]at e2;obtain⟨xr,_,rfl,hx,yr,_,rfl,hy,rfl⟩:=e2;have ht:c.argTypes= #[t1,t2]:=by apply co;simpa using hts
   rw[jQ ho hc,e1,ht];cases I9:yHg s y with
   |false=>
    rw[I9]at h;obtain⟨v,w',hr,Cc⟩:=zSi (rt:=o.type) R hx hy h;exact yD hr Cc
   |true=>
    rw[I9]at h;obtain⟨v,w',hr,Cc⟩:=zRz (rt:=o.type) R hx hy h;exact yD hr Cc
  ·rename_i hc;split at h<;>first|exact h.elim|skip
   rename_i n y nh;obtain⟨t,ht,h⟩:=zM h;obtain⟨ke,BD,h⟩:=zM h;obtain⟨kv,Hv,h⟩:=zM h;obtain⟨Pa,h⟩:=zK h;split at h<;>first|exact h.elim|skip
   rename_i es hg;obtain⟨BG,hk⟩:=h;obtain⟨ys,e1,e2⟩:=b6 he c.args;rw[nh]at e2;simp only[gp,VR]at e2;obtain⟨mv,_,rfl,⟨bm,sub,e3,rfl⟩,yv,_,rfl,hy,rfl⟩:=e2;obtain rfl:=tU Hv hy;obtain⟨fq,ck,r1,r2,rb,r3⟩:=R.Ft (CK:=Bx yv es) hg e3;obtain⟨kd,hu,yo⟩:=S5 Pa;have run:∃iL sv,MR E.F (Bx yv es) iL/\vS iL sv/\(Builtin.delete_ c.argTypes o.type #[.map (au bm),yv]).run P w= .ok (.tuple #[]) (World.iR w bm (.map iL.toArray sv)):=by
    rcases Mq yo 0 r1 BG with⟨t1,t2,t3,t4,_⟩|⟨q,m,CL,Dl,t1,t2,t3,t4,t5,t6,t7,t8,_⟩
    ·refine⟨fq,ck,by rw[t4];exact r1,rb,?_⟩;simp only[Builtin.delete_,ht,AF,Cx,AS,bind,run_bind,Cv.run_underlying (hU BD),qJ r2 trivial,pure,cp,jT hu yo,wV hu t1];rw[uG r2 trivial]
    ·refine⟨fq.eraseIdx q,ck,t8,z3o rb,?_⟩;simp only[Builtin.delete_,ht,AF,Cx,AS,bind,run_bind,Cv.run_underlying (hU BD),qJ r2 trivial,pure,cp,jT hu yo,wV hu t1];rw[uG r2 trivial];simp
   obtain⟨iL,sv,u1,ub,u2⟩:=run;rw[jQ ho hc,e1];exact yD u2 ⟨E,.iW [],_,Ev.le.refl _,r3 iL sv u1 ub,by simp only[VR];exact⟨[],rfl,gp.nil⟩,hk⟩
 all_goals(simp only[se,ho]at h)
def zGv {n c:Nat} {x:ff} (h:aw n c=bv):∀{l:List (Nat×ff)},eQ n (eF c x l)=eQ n l
 |[]=>rfl
 |(m,o)::l=>by
  simp only[eF];cases hb:aw m c
  ·simp only[cond_false,eQ];cases hm:aw m n
   ·simp only[cond_false];exact zGv h
   ·rfl
  ·have:=iX hb;subst this;have h':aw m n=bv:=by
    cases hm:aw m n
    ·rfl
    ·have:=iX hm;subst this;rw[Nat.beq_refl]at h;cases h
   simp only[cond_true,eQ,h',cond_false]
def bS {n:Nat} {x:ff}:∀{l:List (Nat×ff)},eQ n l≠av->eQ n (eF n x l)=au x
 |[],h=>absurd rfl h
 |(m,o)::l,h=>by
  simp only[eQ,eF]at h ⊢;cases hb:aw m n
  ·rw[hb]at h;simp only[eQ,hb,cond_false]at h ⊢;exact bS h
  ·simp only[eQ,hb,cond_true]
def zTi {n:Nat} {x y:ff}:∀{l:List (Nat×ff)},eF n y (eF n x l)=eF n y l
 |[]=>rfl
 |(m,o)::l=>by
  simp only[eF];cases hb:aw m n
  ·simp only[cond_false,eF,hb];rw[zTi]
  ·simp only[cond_true,eF,hb]
def ySn {l:List aa} {o:Nat} {y:aa} (h:o<l.length):jz l o [y]=l.set o y:=by
 unfold jz;rw[MU,fc h];simp
def Rel.F' {k:Ko} {L:List HP} {w:ab} {E:Ev} {s:St} (R:Rel k L E s w) {q:Bool} {n c T sz i f t2 ur:Nat} {eg lv:List (List D)} (hg:s.get n=au (.vi q T sz eg i f bu (au c))) (hc:s.get c=au (.own t2 ur lv)) (je:aw n c=bv) (hi:i<eg.length) (hf:f<sz) {y:aa} (hv:VR E (.own n) y):
 ∃E',E.le E'/\E'.fv=E.fv/\Rel k L E' ((s.set c (.ja ur lv)).set n (.ja sz (zV eg i f [.ro ur lv]))) w/\DR E'.F (.ro sz (zV eg i f [.ro ur lv])) y:=by
 obtain⟨E1,q1,q2,R1⟩:=R.freeze hc;have g1:(s.set c (.ja ur lv)).get n=au (.vi q T sz eg i f bu (au c)):=by
  simp only[St.get,St.set]at hg ⊢;rw[zGv je,hg]
 have g2:(s.set c (.ja ur lv)).get c=au (.ja ur lv):=by
  simp only[St.get,St.set]at hc ⊢;exact bS (by rw[hc];simp)
 obtain⟨hdc,xc,c1,c2,_⟩:=R1.row g2 (by simp);simp only[fi]at c2;have R2:Rel k L E1 ((s.set c (.ja ur lv)).set n (.own T sz (zV eg i f [.ro ur lv]))) w:=by
  refine R1.ni g1 ((R1.focus g1).imp λx hx=> ?_);rcases hx with⟨e,_⟩|⟨hd,h1,h2⟩
  ·cases e
  refine .inr ⟨hd,h1,?_⟩;simp only[fi]at h2 ⊢;obtain⟨a,kk,ys,xs,e1,e2,e3,⟨z,l,e4,e5,e6⟩,e7⟩:=h2;rw[c1]at e4;cases e4;obtain⟨f1,f2⟩:=mL i f [.ro ur lv] e3 hi (by simp only[iD,tp];omega);have hlen:(zV eg i f [.ro ur lv]).length=eg.length:=by simp[zV]
  have CD:ys.length=eg.length*sz:=by rw[e2.length,jM e3]
  have vj:i*sz+sz<=eg.length*sz:=by
   have:=wj sz (show i+1<=eg.length by omega);rwa [zd]at this
  refine⟨a,kk,xs,by rw[hlen];exact e1,?_,f2,by rw[hlen];exact e7⟩;rw[f1,e6,cond_true,<- ySn (by omega)];exact NT e2 (by simp only[iz];exact⟨_,_,rfl,c2.2,rfl⟩) _
 have g3:((s.set c (.ja ur lv)).set n (.own T sz (zV eg i f [.ro ur lv]))).get n=au (.own T sz (zV eg i f [.ro ur lv])):=by
  simp only[St.get,St.set]at g1 ⊢;exact bS (by rw[g1];simp)
 obtain⟨E2,r1,r2,R3⟩:=R2.freeze g3;have e:((s.set c (.ja ur lv)).set n (.own T sz (zV eg i f [.ro ur lv]))).set n (.ja sz (zV eg i f [.ro ur lv]))=(s.set c (.ja ur lv)).set n (.ja sz (zV eg i f [.ro ur lv])):=by
  simp only[St.set,zTi]
 rw[e]at R3;have g4:((s.set c (.ja ur lv)).set n (.ja sz (zV eg i f [.ro ur lv]))).get n=au (.ja sz (zV eg i f [.ro ur lv])):=by
  simp only[St.get,St.set]at g1 ⊢;exact bS (by rw[g1];simp)
 obtain⟨hdn,xn,n1,n2,_⟩:=R3.row g4 (by simp);simp only[fi]at n2;simp only[VR]at hv;obtain⟨l,v1,_⟩:=hv;rw[r2,q2,v1]at n1;cases n1;exact⟨E2,q1.trans r1,r2.trans q2,R3,n2.2⟩
@[reducible] def NM:=List (Nat×Nat)
def z8 (p:Nat):NM->Option Nat
 |[]=>av
 |(q,n)::l=>bif aw q p then au n else z8 p l
def Uo:aa->aa->Prop
 | .int k a,.int k' b=>bif vy k k' then a=b else False
 | .bool a,.bool b=>a=b
 | .string a,.string b=>a=b
 | .pointer av,.pointer av=>True
 | .slice av 0 0,.slice av 0 0=>True
 | .map av,.map av=>True
 | .nilFunc,.nilFunc=>True
 | .nilIface,.nilIface=>True
 |_,_=>False
def yJi {x y:aa} (h:Uo x y):x=y:=by
 unfold Uo at h;split at h<;>first|exact h.elim|rfl|(subst h;rfl)|skip
 obtain⟨hk,rfl⟩:=zK h;rw[zUy hk]
def dEq:D->D->Prop
 | .v x,.v y=>Uo x y
 | .ro sz eg,.ro ot kq=>bif aw sz ot then eg=kq else False
 | .ro _ eg,.v (.slice av 0 0)=>eg=[]
 |_,_=>False
def yZf {F:PH} {p q:D} {y:aa} (h:dEq p q) (hq:DR F q y):DR F p y:=by
 unfold dEq at h;split at h<;>first|exact h.elim|skip
 ·rw[yJi h];exact hq
 ·obtain⟨hb,rfl⟩:=zK h;rw[iX hb];exact hq
 ·subst h;simp only[DR]at hq ⊢;exact⟨av,0,hq.1,km _,by simp,.inl trivial⟩
def J9 (p n:Nat) (π:NM) (K:NM->Prop):Prop:=
 match z8 p π with
 |some m=>bif aw m n then K π else False
 |none=>K ((p,n)::π)
mutual
def BB:V->V->NM->St->(NM->St->Prop)->Prop
 | .top,_,π,s,K=>K π s
 | .d p,a,π,s,K=>match a with
   | .d q=>dEq p q/\K π s
   | .own n=>match p with
     | .ro sz eg=>match s.get n with
       |some (.own _ ot kq)=>bif aw sz ot then eg=kq/\K π (s.set n (.ja ot kq))else False
       |some (.ja ot kq)=>bif aw sz ot then eg=kq/\K π s else False
       |some (.vi bu T ot kq i f b (au c))=>match s.get c with
        |some (.own _ ur lv)=>bif aw sz ot && !(aw n c)then(b=bu/\i<kq.length/\f<sz/\eg=zV kq i f [.ro ur lv])/\K π ((s.set c (.ja ur lv)).set n (.ja ot eg))else False
        |_=>False
       |_=>False
     |_=>False
   |_=>False
 | .nm p o,a,π,s,K=>match a with
   | .nm n o'=>bif aw o o' then J9 p n π λπ=>K π s else False
   |_=>False
 | .el p sz i f,a,π,s,K=>match a with
   | .el n ot i' f'=>bif aw sz ot && aw f f' then i=i'/\J9 p n π λπ=>K π s else False
   |_=>False
 | .own p,a,π,s,K=>match a with
   | .own n=>J9 p n π λπ=>K π s
   | .d (.v (.slice av 0 0))=>match z8 p π with
     |none=>K ((p,s.nx)::π) (s.new .Al)
     |some _=>False
   |_=>False
 | .mp p,a,π,s,K=>match a with
   | .mp n=>J9 p n π λπ=>K π s
   |_=>False
 | .agg l,a,π,s,K=>match a with
   | .agg l'=>Dr l l' π s K
   |_=>False
 | .iW l,a,π,s,K=>match a with
   | .iW l'=>Dr l l' π s K
   |_=>False
 | .fn f x y,a,π,s,K=>match a with
   | .fn f' x' y'=>bif aw f f' then Dr x x' π s λπ s=>Dr y y' π s K else False
   |_=>False
 | .zh t x,a,π,s,K=>match a with
   | .zh t' x'=>bif aw t t' then BB x x' π s K else False
   |_=>False
 |_,_,_,_,_=>False
def Dr:List V->List V->NM->St->(NM->St->Prop)->Prop
 |[],l,π,s,K=>match l with
  |[]=>K π s
  |_=>False
 |v::vs,l,π,s,K=>match l with
  |u::us=>BB v u π s λπ s=>Dr vs us π s K
  |[]=>False
end
def Loc (π:NM) (fv tl:List Hd):Prop:=∀p n,z8 p π=au n->∃hd,fv[n]?=au hd/\tl[p]?=au hd
def Ext (π π':NM):Prop:=∀p n,z8 p π=au n->z8 p π'=au n
def Af (π:NM) (fv:List Hd):Prop:=∀p n,z8 p π=au n->∃hd,fv[n]?=au hd
def Ext.refl (π:NM):Ext π π:=λ_ _ h=>h
def Ext.trans {a b c:NM} (h:Ext a b) (h':Ext b c):Ext a c:=λp n e=>h' p n (h p n e)
def Af.mono {π:NM} {E E':Ev} (h:Af π E.fv) (hle:E.le E'):Af π E'.fv:=λp n e=>let⟨hd,q⟩:=h p n e;⟨hd,hle.get q⟩
def PV (E:Ev) (π:NM) (v:V) (y:aa):Prop:=∀E2 π2,E.le E2->Ext π π2->∀tl,Loc π2 E2.fv tl->VR ⟨E2.F,tl⟩ v y
def US (E:Ev) (π:NM) (v:List V) (y:List aa):Prop:=∀E2 π2,E.le E2->Ext π π2->∀tl,Loc π2 E2.fv tl->gp ⟨E2.F,tl⟩ v y
def PV.mono {E E':Ev} {π π':NM} {v:V} {y:aa} (h:PV E π v y) (hle:E.le E') (hx:Ext π π'):PV E' π' v y:=λE2 π2 a b tl c=>h E2 π2 (hle.trans a) (hx.trans b) tl c
def US.mono {E E':Ev} {π π':NM} {v:List V} {y:List aa} (h:US E π v y) (hle:E.le E') (hx:Ext π π'):US E' π' v y:=λE2 π2 a b tl c=>h E2 π2 (hle.trans a) (hx.trans b) tl c
def rS {p n:Nat} {π:NM} {fv:List Hd} {K:NM->Prop} (h:J9 p n π K) (hw:Af π fv) {hd:Hd} (hn:fv[n]? =au hd):∃π',Ext π π'/\Af π' fv/\z8 p π'=au n/\K π':=by
 unfold J9 at h;split at h
 ·rename_i m hm;obtain⟨hb,hk⟩:=zK h;have:=iX hb;subst this;exact⟨π,Ext.refl _,hw,hm,hk⟩
 ·rename_i hm;refine⟨_,λq m e=> ?_,λq m e=> ?_,by simp[z8],h⟩
  ·simp only[z8];cases hb:aw p q
   ·exact e
   ·have:=iX hb;subst this;rw[hm]at e;cases e
  ·simp only[z8]at e;cases hb:aw p q
   ·rw[hb]at e;exact hw q m e
   ·rw[hb]at e;cases e;exact⟨hd,hn⟩
variable {k:Ko} {L:List HP} {w:ab}
structure we (k:Ko) (L:List HP) (w:ab) (E:Ev) (π:NM) (E':Ev) (π':NM) (s':St):Prop where
 le:E.le E'
 ext:Ext π π'
 wf:Af π' E'.fv
 rel:Rel k L E' s' w
def we.trans {E E1 E2:Ev} {π π1 π2:NM} {s1 s2:St} {L1 L2:List HP} (a:we k L1 w E π E1 π1 s1) (b:we k L2 w E1 π1 E2 π2 s2):we k L2 w E π E2 π2 s2:=⟨a.le.trans b.le,a.ext.trans b.ext,b.wf,b.rel⟩
def Rel.FB {E:Ev} {s:St} (R:Rel k L E s w):∃E',E.le E'/\Rel k L E' (s.new .Al) w/\E'.fv[s.nx]? =au (.slice av 0 0,[]):=by
 have hle:E.le ⟨E.F,E.fv++[(.slice av 0 0,[])]⟩:=Ev.le.app _;have jv:(E.fv++[((.slice av 0 0,[]):Hd)])[s.nx]? =au (.slice av 0 0,[]):=by rw[<- R.nx];simp
 refine⟨_,hle,⟨by simp[St.new,R.nx],?_⟩,jv⟩;have H2:=wO (λr x=>gu.mono hle r) R.hp;have:=(@hP k w True _).2 ⟨trivial,H2⟩;exact this.imp λx hx=> .inr ⟨_,jv,by simp only[fi];exact⟨hx.2,trivial,trivial⟩⟩
mutual
theorem Zd:∀{v a:V} {π:NM} {s:St} {K:NM->St->Prop} {E:Ev} {y:aa},BB v a π s K->Rel k L E s w->Af π E.fv->VR E a y->∃E' π' s',we k L w E π E' π' s'/\PV E' π' v y/\K π' s'
 | .top,a,π,s,K,E,y,h,R,hw,hv=>by
   simp only[BB]at h;exact⟨E,π,s,⟨Ev.le.refl _,Ext.refl _,hw,R⟩,λ_ _ _ _ _ _=>by simp only[VR],h⟩
 | .d p,a,π,s,K,E,y,h,R,hw,hv=>by
   simp only[BB]at h;split at h<;>first|exact h.elim|skip
   ·rename_i q;obtain⟨h1,h⟩:=h;simp only[VR]at hv;exact⟨E,π,s,⟨Ev.le.refl _,Ext.refl _,hw,R⟩,λE2 _ a _ _ _=>by simp only[VR];exact(yZf h1 hv).mono a.1,h⟩
   ·rename_i n;split at h<;>first|exact h.elim|skip
    rename_i sz eg;split at h<;>first|exact h.elim|skip
    ·rename_i t ot kq hg;obtain⟨hb,rfl,hk⟩:=zK h;have e:=iX hb;subst e;obtain⟨E',q1,q2,q3,q4,q5⟩:=NZ R (v:= .own n) (d:= .ro sz eg) (s':=s.set n (.ja sz eg)) (by simp only[Kq,hg]) hv;exact⟨E',π,_,⟨q1,Ext.refl _,by rw[q2];exact hw,q3⟩,λE2 _ a _ _ _=>by simp only[VR];exact q5.mono a.1,hk⟩
    ·rename_i ot kq hg;obtain⟨hb,rfl,hk⟩:=zK h;have e:=iX hb;subst e;obtain⟨E',q1,q2,q3,q4,q5⟩:=NZ R (v:= .own n) (d:= .ro sz eg) (s':=s) (by simp only[Kq,hg]) hv;exact⟨E',π,_,⟨q1,Ext.refl _,by rw[q2];exact hw,q3⟩,λE2 _ a _ _ _=>by simp only[VR];exact q5.mono a.1,hk⟩
    ·rename_i T ot kq i f b c hg;split at h<;>first|exact h.elim|skip
     rename_i t2 ur lv yp;obtain⟨hb,⟨rfl,hi,hf,rfl⟩,hk⟩:=zK h;simp only[kx,EB]at hb;have e:=iX hb.1;subst e;obtain⟨E',q1,q2,q3,q4⟩:=R.F' hg yp hb.2 hi hf hv;exact⟨E',π,_,⟨q1,Ext.refl _,by rw[q2];exact hw,q3⟩,λE2 _ a _ _ _=>by simp only[VR];exact q4.mono a.1,hk⟩
 | .nm p o,a,π,s,K,E,y,h,R,hw,hv=>by
   simp only[BB]at h;split at h<;>first|exact h.elim|skip
   rename_i n o';obtain⟨hb,hk⟩:=zK h;have e:=iX hb;subst e;simp only[VR]at hv;obtain⟨b,oo,l,h1,rfl⟩:=hv;obtain⟨π',q1,q2,q3,q4⟩:=rS hk hw h1;refine⟨E,π',s,⟨Ev.le.refl _,q1,q2,R⟩,λE2 π2 a b' tl hl=> ?_,q4⟩;simp only[VR];obtain⟨hd,e1,e2⟩:=hl p n (b' p n q3);rw[a.get h1]at e1;cases e1;exact⟨b,oo,l,e2,rfl⟩
 | .el p sz i f,a,π,s,K,E,y,h,R,hw,hv=>by
   simp only[BB]at h;split at h<;>first|exact h.elim|skip
   rename_i n ot i' f';obtain⟨hb,rfl,hk⟩:=zK h;simp only[kx]at hb;have e:=iX hb.1;subst e;have e:=iX hb.2;subst e;simp only[VR]at hv;obtain⟨b,oo,m,c,l,h1,rfl⟩:=hv;obtain⟨π',q1,q2,q3,q4⟩:=rS hk hw h1;refine⟨E,π',s,⟨Ev.le.refl _,q1,q2,R⟩,λE2 π2 a b' tl hl=> ?_,q4⟩;simp only[VR];obtain⟨hd,e1,e2⟩:=hl p n (b' p n q3);rw[a.get h1]at e1;cases e1;exact⟨b,oo,m,c,l,e2,rfl⟩
 | .own p,a,π,s,K,E,y,h,R,hw,hv=>by
   simp only[BB]at h;split at h<;>first|exact h.elim|skip
   ·rename_i n;simp only[VR]at hv;obtain⟨l,h1,h2⟩:=hv;obtain⟨π',q1,q2,q3,q4⟩:=rS h hw h1;refine⟨E,π',s,⟨Ev.le.refl _,q1,q2,R⟩,λE2 π2 a b' tl hl=> ?_,q4⟩;simp only[VR];obtain⟨hd,e1,e2⟩:=hl p n (b' p n q3);rw[a.get h1]at e1;cases e1;exact⟨l,e2,h2⟩
   ·split at h<;>first|exact h.elim|skip
    rename_i hm;obtain⟨E',q1,q2,q3⟩:=R.FB;simp only[VR,DR]at hv;obtain⟨rfl,_⟩:=hv;have ym:z8 p ((p,s.nx)::π)=au s.nx:=by simp[z8]
    refine⟨E',_,_,⟨q1,λq m e=> ?_,λq m e=> ?_,q2⟩,λE2 π2 a b' tl hl=> ?_,h⟩
    ·simp only[z8];cases hb:aw p q
     ·exact e
     ·have:=iX hb;subst this;rw[hm]at e;cases e
    ·simp only[z8]at e;cases hb:aw p q
     ·rw[hb]at e;obtain⟨hd,h'⟩:=hw q m e;exact⟨hd,q1.get h'⟩
     ·rw[hb]at e;cases e;exact⟨_,q3⟩
    ·simp only[VR];obtain⟨hd,e1,e2⟩:=hl p _ (b' p _ ym);rw[a.get q3]at e1;cases e1;exact⟨[],e2,_,_,_,rfl⟩
 | .mp p,a,π,s,K,E,y,h,R,hw,hv=>by
   simp only[BB]at h;split at h<;>first|exact h.elim|skip
   rename_i n;simp only[VR]at hv;obtain⟨b,l,h1,h2⟩:=hv;obtain⟨π',q1,q2,q3,q4⟩:=rS h hw h1;refine⟨E,π',s,⟨Ev.le.refl _,q1,q2,R⟩,λE2 π2 a b' tl hl=> ?_,q4⟩;simp only[VR];obtain⟨hd,e1,e2⟩:=hl p n (b' p n q3);rw[a.get h1]at e1;cases e1;exact⟨b,l,e2,h2⟩
 | .agg l,a,π,s,K,E,y,h,R,hw,hv=>by
   simp only[BB]at h;split at h<;>first|exact h.elim|skip
   simp only[VR]at hv;obtain⟨ys,rfl,hv⟩:=hv;obtain⟨E',π',s',q1,q2,q3⟩:=lT h R hw hv;exact⟨E',π',s',q1,λE2 π2 a b tl c=>by simp only[VR];exact⟨ys,rfl,q2 E2 π2 a b tl c⟩,q3⟩
 | .iW l,a,π,s,K,E,y,h,R,hw,hv=>by
   simp only[BB]at h;split at h<;>first|exact h.elim|skip
   simp only[VR]at hv;obtain⟨ys,rfl,hv⟩:=hv;obtain⟨E',π',s',q1,q2,q3⟩:=lT h R hw hv;exact⟨E',π',s',q1,λE2 π2 a b tl c=>by simp only[VR];exact⟨ys,rfl,q2 E2 π2 a b tl c⟩,q3⟩
 | .fn f x z,a,π,s,K,E,y,h,R,hw,hv=>by
   simp only[BB]at h;split at h<;>first|exact h.elim|skip
   rename_i f' x' z';obtain⟨hb,hk⟩:=zK h;have e:=iX hb;subst e;simp only[VR]at hv;obtain⟨as,bs,rfl,h1,h2⟩:=hv;obtain⟨E',π',s',q1,q2,q3⟩:=lT hk R hw h1;obtain⟨E2,π2,s2,r1,r2,r3⟩:=lT q3 q1.rel q1.wf (h2.mono q1.le);exact⟨E2,π2,s2,q1.trans r1,λE3 π3 a b tl c=>by simp only[VR];exact⟨as,bs,rfl,q2.mono r1.le r1.ext E3 π3 a b tl c,r2 E3 π3 a b tl c⟩,r3⟩
 | .zh t x,a,π,s,K,E,y,h,R,hw,hv=>by
   simp only[BB]at h;split at h<;>first|exact h.elim|skip
   rename_i t' x';obtain⟨hb,hk⟩:=zK h;have e:=iX hb;subst e;simp only[VR]at hv;obtain⟨z,rfl,h1⟩:=hv;obtain⟨E',π',s',q1,q2,q3⟩:=Zd hk R hw h1;exact⟨E',π',s',q1,λE3 π3 a b tl c=>by simp only[VR];exact⟨z,rfl,q2 E3 π3 a b tl c⟩,q3⟩
 | .re sz eg i f,a,π,s,K,E,y,h,R,hw,hv=>by simp only[BB]at h
 | .sub n i,a,π,s,K,E,y,h,R,hw,hv=>by simp only[BB]at h
theorem lT:∀{v a:List V} {π:NM} {s:St} {K:NM->St->Prop} {E:Ev} {y:List aa},Dr v a π s K->Rel k L E s w->Af π E.fv->gp E a y->∃E' π' s',we k L w E π E' π' s'/\US E' π' v y/\K π' s'
 |[],a,π,s,K,E,y,h,R,hw,hv=>by
  simp only[Dr]at h;split at h<;>first|exact h.elim|skip
  simp only[gp]at hv;exact⟨E,π,s,⟨Ev.le.refl _,Ext.refl _,hw,R⟩,λ_ _ _ _ _ _=>by simpa only[gp]using hv,h⟩
 |v::vs,a,π,s,K,E,y,h,R,hw,hv=>by
  simp only[Dr]at h;split at h<;>first|exact h.elim|skip
  simp only[gp]at hv;obtain⟨x,xs,rfl,h1,h2⟩:=hv;obtain⟨E',π',s',q1,q2,q3⟩:=Zd h R hw h1;obtain⟨E2,π2,s2,r1,r2,r3⟩:=lT q3 q1.rel q1.wf (h2.mono q1.le);exact⟨E2,π2,s2,q1.trans r1,λE3 π3 a b tl c=>by simp only[gp];exact⟨_,_,rfl,q2.mono r1.le r1.ext E3 π3 a b tl c,r2 E3 π3 a b tl c⟩,r3⟩
end
mutual
def eO (π:NM):V->V
 | .top=> .top
 | .d d=> .d d
 | .nm n o=>match z8 n π with
   |some m=> .nm m o
   |none=> .top
 | .el n sz i f=>match z8 n π with
   |some m=> .el m sz i f
   |none=> .top
 | .re sz eg i f=> .re sz eg i f
 | .na _ _ _=> .top
 | .own n=>match z8 n π with
   |some m=> .own m
   |none=> .top
 | .mp n=>match z8 n π with
   |some m=> .mp m
   |none=> .top
 | .sub n i=>match z8 n π with
   |some m=> .sub m i
   |none=> .top
 | .agg l=> .agg (GZ π l)
 | .iW l=> .iW (GZ π l)
 | .fn f a b=> .fn f (GZ π a) (GZ π b)
 | .zh t x=> .zh t (eO π x)
def GZ (π:NM):List V->List V
 |[]=>[]
 |v::l=>eO π v::GZ π l
end
def oN (π:NM):Option Nat->Option Nat
 |some m=>z8 m π
 |none=>av
def DU (π:NM):ff->ff
 | .cells vs t=> .cells (GZ π vs) t
 | .vi q t sz eg i f b m=> .vi q t sz eg i f b (oN π m)
 |o=>o
def NR (ix:Nat->ff) (π:NM) (nx:Nat):List Nat->List (Nat×ff)
 |[]=>[]
 |j::js=>(nx+j,DU π (ix (j+1)))::NR ix π nx js
def mE (n nx m:Nat):NM:=(0,n)::(az (m-1)).map λj=>(j+1,nx+j)
def J' (s:St) (n m:Nat) (ix:Nat->ff):ff×St:=
 (DU (mE n s.nx m) (ix 0),⟨NR ix (mE n s.nx m) s.nx (az (m-1))++s.rows,s.nx+(m-1)⟩)
def St.Ch (s:St) (n:Nat):Option ff:=
 match s.get n with
 |some .gone=>av
 |o=>o
def S' {s:St} {n:Nat} {o:ff} (h:s.Ch n=au o):s.get n=au o/\o≠.gone:=by
 unfold St.Ch at h;split at h
 ·cases h
 ·rename_i je;exact⟨h,λe=>je (e▸h)⟩
def sF (m:Nat):NM->Bool
 |[]=>bu
 |(p,_)::l=>bif ax p m then sF m l else bv
def aS {m:Nat}:∀{π:NM},sF m π=bu->∀p n,z8 p π=au n->p<m
 |[],h,p,n,e=>by cases e
 |(q,r)::l,h,p,n,e=>by
  simp only[sF]at h;cases hb:ax q m
  ·rw[hb]at h;cases h
  ·rw[hb]at h;simp only[z8]at e;cases hq:aw q p
   ·rw[hq]at e;exact aS h p n e
   ·have:=iX hq;subst this;simpa[xv]using hb
def Od (f:Nat->NM->St->(NM->St->Prop)->Prop):List Nat->NM->St->(NM->St->Prop)->Prop
 |[],π,s,K=>K π s
 |j::js,π,s,K=>f j π s λπ s=>Od f js π s K
def AT:ff->Nat->ff->NM->St->(NM->St->Prop)->Prop
 | .gone,_,_,π,s,K=>K π s
 | .vi _ t sz eg i f b m,n,o,π,s,K=>match o with
   | .vi _ t' ot kq i' f' b' m'=>bif aw t t' && aw sz ot then(eg=kq/\i=i'/\f=f'/\b=b')/\(match m,m' with
     |some p,au c=>J9 p c π λπ=>K π s
     |_,_=>False)else False
   | .own t' ot kq=>bif aw t t' && aw sz ot then(eg=kq/\b=bv)/\(match m with
     |some p=>(match z8 p π with
      |none=>K ((p,s.nx)::π) (s.new .Al)
      |some _=>False)
     |none=>False)else False
   |_=>False
 | .cells vs t,n,o,π,s,K=>match o with
   | .cells zy t'=>bif aw t t' then Dr vs zy π s K else False
   | .qq T m ix x=>bif ay 1 m then(match J' s n m (ix x)with
     |(.cells zy t',s')=>bif aw t t' then Dr vs zy π s' K else False
     |_=>False)else False
   |_=>False
 | .own t sz eg,n,o,π,s,K=>match o with
   | .own t' ot kq=>bif aw t t' && aw sz ot then eg=kq/\K π s else False
   | .Al=>eg=[]/\K π s
   |_=>False
 | .vec ds t,n,o,π,s,K=>match o with
   | .cells vs t'=>bif aw t t' then ds.map V.d=vs/\K π s else False
   |o=>ff.vec ds t=o/\K π s
 | .map es,n,o,π,s,K=>match o with
   | .map CK=>es=CK/\K π s
   |_=>False
 | .iter b p,n,o,π,s,K=>match o with
   | .iter b' p'=>b=b'/\p=p'/\K π s
   |_=>False
 | .qq T m ix x,n,o,π,s,K=>match o with
   | .cells vs t=>bif ay 1 m then Od (λj π s K=>match z8 j π with
      |some n'=>match(match j with|0=>au (ff.cells vs t)|_=>s.Ch n')with
       |some o'=>AT (ix x j) n' o' π (match j with|0=>s|_=>s.HV n' o') K
       |none=>False
      |none=>False) (az m) [(0,n)] s (λπ' s=>bif sF m π' then K π s else False)else False
   |o=>ff.qq T m ix x=o/\K π s
 | .ja sz eg,n,o,π,s,K=>match o with
   | .own t ot kq=>bif aw sz ot then eg=kq/\K π s else False
   |o=>ff.ja sz eg=o/\K π s
 | .jt t T m ix l hole,n,o,π,s,K=>match o with
   | .Al=>l=[]/\hole=av/\K π s
   |o=>ff.jt t T m ix l hole=o/\K π s
 |o',n,o,π,s,K=>o'=o/\K π s
def Hm:Nat->List ff->NM->St->(NM->St->Prop)->Prop
 |_,[],π,s,K=>K π s
 |p,.gone::os,π,s,K=>Hm (p+1) os π s K
 |p,o::os,π,s,K=>match z8 p π with
  |some n=>match s.Ch n with
   |some o'=>AT o n o' π (s.HV n o') λπ s=>Hm (p+1) os π s K
   |none=>False
  |none=>False
variable {k:Ko} {L:List HP} {w:ab}
def Bb (E:Ev) (π:NM) (n:Nat) (o:ff):HP:=λh=>∀E2 π2,E.le E2->Ext π π2->∀tl,Loc π2 E2.fv tl->∃hd,E2.fv[n]? =au hd/\fi E2.F o tl hd h
def Bb.mono {E E':Ev} {π π':NM} (hle:E.le E') (hx:Ext π π') {n:Nat} {o:ff} {h:PH} (e:Bb E π n o h):Bb E' π' n o h:=λE2 π2 a b tl c=>e E2 π2 (hle.trans a) (hx.trans b) tl c
def z9o:ff->Bool
 | .cells _ _=>bu
 | .vi _ _ _ _ _ _ _ _=>bu
 |_=>bv
def fi.fv {F:PH} {o:ff} (ho:z9o o=bv) {fv ox:List Hd} {hd:Hd} {h:PH} (e:fi F o fv hd h):fi F o ox hd h:=by
 cases o<;>first|(cases ho;done)|(simp only[fi]at e ⊢;exact e)
def gP {E:Ev} {π:NM} {n:Nat} {o:ff} (ho:z9o o=bv) (hg:o≠.gone) {h:PH} (e:gu E (n,o) h):Bb E π n o h:=by
 rcases e with⟨e,_⟩|⟨hd,h1,h2⟩
 ·exact absurd e hg
 ·intro E2 π2 a b tl c;exact⟨hd,a.get h1,(h2.mono a.1 _ a.2).fv ho⟩
mutual
theorem VR.uj {π:NM} {F:PH} {tl fv:List Hd} (hr:∀p n hd,z8 p π=au n->tl[p]? =au hd->fv[n]? =au hd):∀{v:V} {y:aa},VR ⟨F,tl⟩ v y->VR ⟨F,fv⟩ (eO π v) y
 | .top,y,h=>by simp only[eO,VR]
 | .d d,y,h=>by simpa only[eO,VR]using h
 | .nm n o,y,h=>by
   simp only[eO];split
   ·rename_i m hm;simp only[VR]at h ⊢;obtain⟨b,oo,l,h1,h2⟩:=h;exact⟨b,oo,l,hr _ _ _ hm h1,h2⟩
   ·simp only[VR]
 | .el n sz i f,y,h=>by
   simp only[eO];split
   ·rename_i m hm;simp only[VR]at h ⊢;obtain⟨b,oo,mm,c,l,h1,h2⟩:=h;exact⟨b,oo,mm,c,l,hr _ _ _ hm h1,h2⟩
   ·simp only[VR]
 | .re sz eg i f,y,h=>by simpa only[eO,VR]using h
 | .na n o i,y,h=>by simp only[eO,VR]
 | .own n,y,h=>by
   simp only[eO];split
   ·rename_i m hm;simp only[VR]at h ⊢;obtain⟨l,h1,h2⟩:=h;exact⟨l,hr _ _ _ hm h1,h2⟩
   ·simp only[VR]
 | .mp n,y,h=>by
   simp only[eO];split
   ·rename_i m hm;simp only[VR]at h ⊢;obtain⟨b,l,h1,h2⟩:=h;exact⟨b,l,hr _ _ _ hm h1,h2⟩
   ·simp only[VR]
 | .sub n i,y,h=>by
   simp only[eO];split
   ·rename_i m hm;simp only[VR]at h ⊢;obtain⟨hd,l,b,oo,h1,h2⟩:=h;exact⟨hd,l,b,oo,hr _ _ _ hm h1,h2⟩
   ·simp only[VR]
 | .agg l,y,h=>by
   simp only[eO,VR]at h ⊢;obtain⟨ys,h1,h2⟩:=h;exact⟨ys,h1,gp.uj hr h2⟩
 | .iW l,y,h=>by
   simp only[eO,VR]at h ⊢;obtain⟨ys,h1,h2⟩:=h;exact⟨ys,h1,gp.uj hr h2⟩
 | .fn f a b,y,h=>by
   simp only[eO,VR]at h ⊢;obtain⟨as,bs,h1,h2,h3⟩:=h;exact⟨as,bs,h1,gp.uj hr h2,gp.uj hr h3⟩
 | .zh t x,y,h=>by
   simp only[eO,VR]at h ⊢;obtain⟨z,h1,h2⟩:=h;exact⟨z,h1,VR.uj hr h2⟩
theorem gp.uj {π:NM} {F:PH} {tl fv:List Hd} (hr:∀p n hd,z8 p π=au n->tl[p]? =au hd->fv[n]? =au hd):∀{vs:List V} {l:List aa},gp ⟨F,tl⟩ vs l->gp ⟨F,fv⟩ (GZ π vs) l
 |[],l,h=>by simpa only[GZ,gp]using h
 |v::vs,l,h=>by
  simp only[GZ,gp]at h ⊢;obtain⟨x,xs,h1,h2,h3⟩:=h;exact⟨x,xs,h1,VR.uj hr h2,gp.uj hr h3⟩
end
def fi.uj {π:NM} {F:PH} {tl fv:List Hd} (hr:∀p n hd,z8 p π=au n->tl[p]? =au hd->fv[n]? =au hd) {o:ff} {hd:Hd} {h:PH} (e:fi F o tl hd h):fi F (DU π o) fv hd h:=by
 cases o<;>simp only[DU]<;>first|exact e.fv rfl|skip
 ·simp only[fi]at e ⊢;obtain⟨b,l,h1,h2,h3⟩:=e;exact⟨b,l,h1,h2.uj hr,h3⟩
 ·rename_i q t sz eg i f b m;simp only[fi]at e ⊢;obtain⟨a,k,ys,xs,h1,h2,h3,h4,h5⟩:=e;refine⟨a,k,ys,xs,h1,h2,h3,?_,h5⟩;cases m with
  |none=>exact h4
  |some m=>
   obtain⟨y,l,e1,e2,e3⟩:=h4;simp only[oN];cases hm:z8 m π with
   |none=>exact⟨y,e2,e3⟩
   |some m'=>exact⟨y,l,hr _ _ _ hm e1,e2,e3⟩
def yEy {n nx m j:Nat} (hj:j+1<m):z8 (j+1) (mE n nx m)=au (nx+j):=by
 unfold mE;simp only[z8,aw,cond_false];have:∀(a c:Nat),a<=j->j<a+c->z8 (j+1) ((List.range' a c).map λj=>(j+1,nx+j))=au (nx+j):=by
  intro a c
  induction c generalizing a with
  |zero=>intro h1 h2;omega
  |succ c ih=>
   intro h1 h2;simp only[List.range'_succ,jo,z8];cases hb:aw (a+1) (j+1)
   ·have je:a≠j:=λe=>by subst e;simp at hb
    exact ih (a+1) (by omega) (by omega)
   ·have:=iX hb;have e:a=j:=by omega
    subst e;rfl
 rw[List.range_eq_range'];exact this 0 (m-1) (by omega) (by omega)
def zSm {n nx m p q:Nat} (h:z8 p (mE n nx m)=au q):(p=0/\q=n)\/∃j,p=j+1/\q=nx+j/\j+1<m:=by
 unfold mE at h;simp only[z8]at h;cases hb:aw 0 p
 ·rw[hb]at h;right;simp only[cond_false]at h;rw[List.range_eq_range']at h;have:∀(a c:Nat),z8 p ((List.range' a c).map λj=>(j+1,nx+j))=au q->∃j,p=j+1/\q=nx+j/\j<a+c:=by
   intro a c
   induction c generalizing a with
   |zero=>intro h;simp[z8]at h
   |succ c ih=>
    intro h;simp only[List.range'_succ,jo,z8]at h;cases hb:aw (a+1) p
    ·rw[hb]at h;obtain⟨j,h1,h2,h3⟩:=ih (a+1) h;exact⟨j,h1,h2,by omega⟩
    ·rw[hb]at h;simp only[cond_true,cf]at h;exact⟨a,(iX hb).symm,h.symm,by omega⟩
  obtain⟨j,h1,h2,h3⟩:=this 0 (m-1) h;exact⟨j,h1,h2,by omega⟩
 ·rw[hb]at h;left;simp only[cond_true,cf]at h;exact⟨(iX hb).symm,h.symm⟩
def Rel.unfold {E:Ev} {s:St} {n m:Nat} {T:Type} {ix:T->Nat->ff} {x:T} (R:Rel k (gu E (n,.qq T m ix x)::L) E s w) (hm:1<=m):
 ∃E',E.le E'/\Rel k (gu E' (n,(J' s n m (ix x)).1)::L) E' (J' s n m (ix x)).2 w:=by
 have H:=R.out;obtain⟨hd,jm,h1,h2,h3,H⟩:∃hd jm,E.fv[n]? =au hd/\jm[0]? =au hd/\jm.length=m/\
  Hp k w (hS ((az m).map λj=>λh=>∃oE,jm[j]? =au oE/\fi E.F (ix x j) jm oE h)::(s.rows.map (gu E)++fz E.F::L)):=by
  obtain⟨hk,hs,hh⟩:=H;cases hh with
  |cons ha iS GL hr=>
   rcases ha with⟨e,_⟩|⟨hd,q1,q2⟩
   ·cases e
   ·simp only[fi]at q2;obtain⟨jm,q3,q4,q5⟩:=q2;exact⟨hd,jm,q1,q3,q4,hk,_,.cons q5 iS GL hr⟩
 let E':Ev:=⟨E.F,E.fv++jm.drop 1⟩
 have hle:E.le E':=⟨wv.refl _,IT _ _⟩
 have An:∀p q oE,z8 p (mE n s.nx m)=au q->jm[p]? =au oE->E'.fv[q]? =au oE:=by
  intro p q oE hp ht;rcases zSm hp with⟨rfl,rfl⟩|⟨j,rfl,rfl,hj⟩
  ·rw[h2]at ht;cases ht;exact hle.get h1
  ·show(E.fv++jm.drop 1)[s.nx+j]? =au oE;rw[<- R.nx,Cy (by omega),AQ];rw[show E.fv.length+j-E.fv.length=j by omega,Ha];exact ht
 have H2:=(qi.1 H)
 have Ar:az m=0::(az (m-1)).map (·+1):=by
  have:m=(m-1)+1:=by omega
  rw[this,List.range_succ_eq_map];simp
 rw[Ar]at H2;simp only[jo,vu,tv]at H2;refine⟨E',hle,Rel.I0 (by show(E.fv++jm.drop 1).length=s.nx+(m-1);rw[im,oV,R.nx,h3]) ?_⟩;have QY:∀l:List Nat,(∀j∈l,j+1<m)->(NR (ix x) (mE n s.nx m) s.nx l)=l.map λj=>(s.nx+j,DU (mE n s.nx m) (ix x (j+1))):=by
  intro l
  induction l with
  |nil=>intro _;rfl
  |cons j l ih=>intro h;simp only[NR,jo];rw[ih λj hj=>h j (jw _ hj)]
 have wu:=QY (az (m-1)) (λj hj=>by have:=BT.1 hj;omega);show Hp k w (gu E' (n,DU (mE n s.nx m) (ix x 0))::((NR (ix x) (mE n s.nx m) s.nx (az (m-1))++s.rows).map (gu E')++fz E.F::L));rw[wu,jk,vu,jd];have H3:Hp k w ((az (m-1)).map ((λj=>λh=>∃oE,jm[j]? =au oE/\fi E.F (ix x j) jm oE h)∘(·+1))++((λh=>∃oE,jm[0]? =au oE/\fi E.F (ix x 0) jm oE h)::(s.rows.map (gu E)++fz E.F::L))):=H2.perm mg.symm
 have H4:=wO (g:=(gu E')∘λj=>(s.nx+j,DU (mE n s.nx m) (ix x (j+1)))) (λj y hy=>by
  obtain⟨oE,e1,e2⟩:=hy;right;have hj:j+1<m:=by
   have:=(jl.1 e1).1;simp only at this;omega
  exact⟨oE,An _ _ _ (yEy hj) e1,e2.uj An⟩) H3
 have H5:=H4.perm mg;have H6:=H5.imp (B:=gu E' (n,DU (mE n s.nx m) (ix x 0))) (λy hy=>by
  obtain⟨oE,e1,e2⟩:=hy;right;rw[h2]at e1;cases e1;exact⟨hd,hle.get h1,e2.uj An⟩)
 have H7:Hp k w (s.rows.map (gu E)++(gu E' (n,DU (mE n s.nx m) (ix x 0))::((az (m-1)).map ((gu E')∘λj=>(s.nx+j,DU (mE n s.nx m) (ix x (j+1))))++fz E.F::L))):=by
  refine H6.perm ?_;refine List.Perm.trans ?_ mg.symm;refine .cons _ ?_;rw[<- jd,<- jd];exact AR.append_right _
 have H8:=wO (λr y=>gu.mono hle r) H7;refine H8.perm ?_;refine mg.trans (.cons _ ?_);rw[<- jd,<- jd];exact AR.append_right _
def yDl {n p q:Nat} (h:z8 p [(0,n)]=au q):p=0/\q=n:=by
 simp only[z8]at h;cases hb:aw 0 p
 ·rw[hb]at h;cases h
 ·rw[hb]at h;simp only[cond_true,cf]at h;exact⟨(iX hb).symm,h.symm⟩
def yVh (o':ff):Prop:=∀{k:Ko} {L:List HP} {w:ab} {n:Nat} {o:ff} {π:NM} {s:St} {K:NM->St->Prop} {E:Ev},AT o' n o π s K->Rel k (gu E (n,o)::L) E s w->Af π E.fv->o≠.gone->
 ∃E' π' s',we k (Bb E' π' n o'::L) w E π E' π' s'/\K π' s'
def PJ (g:Nat->ff) (E:Ev) (π:NM) (j:Nat):HP:=λh=>∃n,z8 j π=au n/\Bb E π n (g j) h
def PJ.mono {g:Nat->ff} {E E':Ev} {π π':NM} (hle:E.le E') (hx:Ext π π') {j:Nat} {h:PH} (e:PJ g E π j h):PJ g E' π' j h:=by
 obtain⟨n,h1,h2⟩:=e;exact⟨n,hx _ _ h1,h2.mono hle hx⟩
def Rel.aal {α:Type} {f g:α->HP} (h:∀a x,f a x->g a x) {l:List α} {E:Ev} {s:St} (R:Rel k (l.map f++L) E s w):Rel k (l.map g++L) E s w:=by
 refine⟨R.nx,?_⟩;have H:Hp k w (l.map f++(s.rows.map (gu E)++fz E.F::L)):=by
  refine R.hp.perm ?_;rw[show s.rows.map (gu E)++fz E.F::(l.map f++L)=(s.rows.map (gu E)++[fz E.F])++(l.map f++L)by simp,<- jd,show l.map f++(s.rows.map (gu E)++fz E.F::L)=(l.map f++(s.rows.map (gu E)++[fz E.F]))++L by simp];exact AR.append_right _
 have H2:=wO h H;refine H2.perm ?_;rw[show s.rows.map (gu E)++fz E.F::(l.map g++L)=((s.rows.map (gu E)++[fz E.F])++l.map g)++L by simp,show l.map g++(s.rows.map (gu E)++fz E.F::L)=(l.map g++(s.rows.map (gu E)++[fz E.F]))++L by simp];exact AR.append_right _
def Rel.As {E:Ev} {s:St} {A:List HP} (R:Rel k (A++L) E s w):Hp k w (A++(s.rows.map (gu E)++fz E.F::L)):=by
 refine R.hp.perm ?_;rw[show s.rows.map (gu E)++fz E.F::(A++L)=(s.rows.map (gu E)++[fz E.F])++(A++L)by simp,<- jd,show A++(s.rows.map (gu E)++fz E.F::L)=(A++(s.rows.map (gu E)++[fz E.F]))++L by simp];exact AR.append_right _
def z0n {g:Nat->ff} (hg:∀j,yVh (g j)) {c:Option ff}:∀{js:List Nat} {done:List Nat} {π:NM} {s:St} {K:NM->St->Prop} {E:Ev},(0∉js)->
 Od (λj π s K=>match z8 j π with
  |some n'=>match(match j with|0=>c|_=>s.Ch n')with
   |some o'=>AT (g j) n' o' π (match j with|0=>s|_=>s.HV n' o') K
   |none=>False
  |none=>False) js π s K->Rel k (done.map (PJ g E π)++L) E s w->Af π E.fv->
 ∃E' π' s',we k ((js.reverse++done).map (PJ g E' π')++L) w E π E' π' s'/\K π' s'
 |[],done,π,s,K,E,h0,h,R,hw=>⟨E,π,s,⟨Ev.le.refl _,Ext.refl _,hw,by simpa using R⟩,h⟩
 |j::js,done,π,s,K,E,h0,h,R,hw=>by
  simp only[Od]at h;split at h<;>first|exact h.elim|skip
  rename_i n' UG;cases j with
  |zero=>exact absurd ji h0
  |succ j=>
   simp only at h;split at h<;>first|exact h.elim|skip
   rename_i o' oz;obtain⟨oz,Rc⟩:=S' oz
   ·have R1:=R.gf oz;obtain⟨E1,π1,s1,q1,q2⟩:=hg (j+1) h R1 hw Rc;have R2:Rel k (((j+1)::done).map (PJ g E1 π1)++L) E1 s1 w:=by
     have R3:=q1.rel.qc (B:=PJ g E1 π1 (j+1)) λx hx=>⟨n',q1.ext _ _ UG,hx⟩
     have R4:Rel k (done.map (PJ g E π)++(PJ g E1 π1 (j+1)::L)) E1 s1 w:=⟨R3.nx,R3.hp.perm (by
      refine bz _ (.cons _ ?_);exact mg.symm)⟩
     have R5:=R4.aal (g:=PJ g E1 π1) λa x hx=>hx.mono q1.le q1.ext
     exact⟨R5.nx,R5.hp.perm (by
      refine bz _ (.cons _ ?_);exact mg)⟩
    obtain⟨E2,π2,s2,r1,r2⟩:=z0n hg (λhm=>h0 (jw _ hm)) q2 R2 q1.wf;refine⟨E2,π2,s2,⟨q1.le.trans r1.le,q1.ext.trans r1.ext,r1.wf,?_⟩,r2⟩;have:=r1.rel;simpa using this
def yLa {E:Ev}:∀{ds:List D} {l:List aa},gp E (ds.map V.d) l->iz E.F ds l
 |[],l,h=>by simpa only[Ct,gp,iz]using h
 |d::ds,l,h=>by
  simp only[jo,gp,VR]at h;obtain⟨x,xs,h1,h2,h3⟩:=h;simp only[iz];exact⟨x,xs,h1,h2,yLa h3⟩
def y0d:∀o',yVh o':=by
 intro o'
 induction o' with
 |gone=>
  intro k L w n o π s K E h R hw hg;simp only[AT]at h;have H:=R.out;refine⟨E,π,s,⟨Ev.le.refl _,Ext.refl _,hw,?_⟩,h⟩;obtain⟨hd,x,q1,_,_⟩:∃hd x,E.fv[n]? =au hd/\fi E.F o E.fv hd x/\Sub x w:=by
   obtain⟨x,hx,hs⟩:=H.sat;rcases hx with⟨e,_⟩|⟨hd,h1,h2⟩
   ·exact absurd e hg
   ·exact⟨hd,x,h1,h2,hs⟩
  refine Rel.I0 R.nx (((@hP k w True _).2 ⟨trivial,H.drop⟩).imp λx hx=> ?_);intro E2 π2 a b tl c;exact⟨hd,a.get q1,by simp only[fi];exact hx.2⟩
 |vi q t sz eg i f b m=>
  intro k L w n o π s K E h R hw hg;simp only[AT]at h;split at h<;>first|exact h.elim|skip
  ·rename_i q' t' ot kq i' f' b' m';have hh:=zK h;clear h;obtain⟨hb,⟨rfl,rfl,rfl,rfl⟩,h⟩:=hh;simp only[kx]at hb;have e1:=iX hb.1;have e2:=iX hb.2;subst e1 e2;split at h<;>first|exact h.elim|skip
   rename_i p c;obtain⟨hdc,hc⟩:∃hd,E.fv[c]? =au hd:=by
    obtain⟨x,hx,_⟩:=R.out.sat;rcases hx with⟨e,_⟩|⟨hd,h1,h2⟩
    ·cases e
    simp only[fi]at h2;obtain⟨A,k',ys,xs,e1,e2,e3,⟨y,l,e4,_⟩,_⟩:=h2;exact⟨_,e4⟩
   obtain⟨π',q1,q2,q3,q4⟩:=rS h hw hc;refine⟨E,π',s,⟨Ev.le.refl _,q1,q2,R.qc λx hx=> ?_⟩,q4⟩;rcases hx with⟨e,_⟩|⟨hd,h1,h2⟩
   ·cases e
   intro E2 π2 a b' tl hl;refine⟨hd,a.get h1,?_⟩;simp only[fi]at h2 ⊢;obtain⟨A,k',ys,xs,e1,e2,e3,⟨y,l,e4,e5⟩,e6⟩:=h2;obtain⟨oE,r1,r2⟩:=hl p c (b' p c q3);rw[a.get e4]at r1;cases r1;exact⟨A,k',ys,xs,e1,e2.mono a.1,e3,⟨y,l,r2,e5⟩,e6⟩
  ·rename_i t' ot kq;have hh:=zK h;clear h;obtain⟨hb,⟨rfl,rfl⟩,h⟩:=hh;simp only[kx]at hb;have e1:=iX hb.1;have e2:=iX hb.2;subst e1 e2;split at h<;>first|exact h.elim|skip
   rename_i p;split at h<;>first|exact h.elim|skip
   rename_i hm;obtain⟨E',r1,r2,r3⟩:=R.FB;have ym:z8 p ((p,s.nx)::π)=au s.nx:=by simp[z8]
   refine⟨E',_,_,⟨r1,λq m e=> ?_,λq m e=> ?_,r2.qc λx hx=> ?_⟩,h⟩
   ·simp only[z8];cases hb:aw p q
    ·exact e
    ·have:=iX hb;subst this;rw[hm]at e;cases e
   ·simp only[z8]at e;cases hb:aw p q
    ·rw[hb]at e;obtain⟨hd,h'⟩:=hw q m e;exact⟨hd,r1.get h'⟩
    ·rw[hb]at e;cases e;exact⟨_,r3⟩
   rcases hx with⟨e,_⟩|⟨hd,h1,h2⟩
   ·cases e
   intro E2 π2 a b' tl hl;refine⟨hd,a.get (r1.get h1),?_⟩;simp only[fi]at h2 ⊢;obtain⟨A,k',xs,e1,e2,e3,e4⟩:=h2;obtain⟨oE,z1,z2⟩:=hl p _ (b' p _ ym);rw[a.get r3]at z1;cases z1;exact⟨A,k',xs,xs,e1,(e2.mono r1.1).mono a.1,e3,⟨_,_,z2,⟨av,0,0,rfl⟩,rfl⟩,e4⟩
 |Al=>
  intro k L w n o π s K E h R hw hg;simp only[AT]at h;obtain⟨rfl,h⟩:=h;exact⟨E,π,s,⟨Ev.le.refl _,Ext.refl _,hw,R.qc λx hx=>gP rfl (by simp) hx⟩,h⟩
 |ja sz eg=>
  intro k L w n o π s K E h R hw hg;simp only[AT]at h;split at h
  ·rename_i t ot kq;obtain⟨hb,e9,hK⟩:=zK h;subst e9;have e:=iX hb;subst e;have H:Hp k w (gu E (n,.own t sz eg)::fz E.F::(s.rows.map (gu E)++L)):=R.out.cons mg;obtain⟨x,hx,hd,iS,H⟩:=UY H;rcases hx with⟨e,_⟩|⟨hv,h1,h2⟩
   ·cases e
   simp only[fi]at h2;obtain⟨a,c,xs,h3,h4,h5,h6⟩:=h2;have hle:E.le ⟨un x E.F,E.fv⟩:=⟨Y' hd,IN _⟩
   have Pm:DR (un x E.F) (.ro sz eg) hv.1:=by
    simp only[DR];refine⟨a,c,h3,(R9 h6).2,h5,?_⟩;rcases h6 with⟨rfl,q2,rfl,rfl,rfl⟩|⟨b,r,rfl,rfl,q3,q4,q5⟩
    ·exact .inl (xu q2)
    ·refine .inr ⟨b,0,xs++r,t,(0,0),rfl,?_,oJ.2 ⟨xs,r,rfl,h4.mono hle.1⟩⟩;simp[un,one]
   have H1:Hp k w (s.rows.map (gu E)++fz (un x E.F)::L):=H.perm mg.symm;have H2:=wO (λr x=>gu.mono hle r) H1;have H3:=yHo H2;refine⟨⟨un x E.F,E.fv⟩,π,s,⟨hle,Ext.refl _,hw,Rel.I0 R.nx (H3.imp λy hy=> ?_)⟩,hK⟩;intro E2 π2 a1 b1 tl c1;refine⟨hv,a1.get h1,?_⟩;simp only[fi];exact⟨hy,Pm.mono a1.1⟩
  ·obtain⟨rfl,h⟩:=h;exact⟨E,π,s,⟨Ev.le.refl _,Ext.refl _,hw,R.qc λx hx=>gP rfl (by simp) hx⟩,h⟩
 |jt t T m ix l hole ih=>
  intro k L w n o π s K E h R hw hg;simp only[AT]at h;split at h
  ·obtain⟨rfl,rfl,h⟩:=h;refine⟨E,π,s,⟨Ev.le.refl _,Ext.refl _,hw,R.qc λx hx=>gP (o:= .jt t T m ix [] av) rfl (by simp) ?_⟩,h⟩;rcases hx with⟨e,_⟩|⟨hd,h1,h2⟩
   ·cases e
   ·simp only[fi]at h2;obtain⟨rfl,e1,e2⟩:=h2;refine .inr ⟨hd,h1,qj.2 ⟨av,0,e1,by rw[e2];rfl,λp hp=>(by rw[e2]at hp;exact(nomatch hp)),pe,pe,by rw[e2];exact z9f t 1,rfl,?_,?_⟩⟩
    ·intro b;exact .inl rfl
    ·funext b;rfl
  ·obtain⟨rfl,h⟩:=h;exact⟨E,π,s,⟨Ev.le.refl _,Ext.refl _,hw,R.qc λx hx=>gP rfl (by simp) hx⟩,h⟩
 |vec ds t=>
  intro k L w n o π s K E h R hw hg;simp only[AT]at h;split at h
  ·obtain⟨hb,e9,hK⟩:=zK h;subst e9;have e:=iX hb;subst e;refine⟨E,π,s,⟨Ev.le.refl _,Ext.refl _,hw,R.qc λx hx=>gP (o:= .vec ds t) rfl (by simp) ?_⟩,hK⟩;rcases hx with⟨e,_⟩|⟨hd,h1,h2⟩
   ·cases e
   ·simp only[fi]at h2;obtain⟨b,l,e1,e2,e3⟩:=h2;refine .inr ⟨hd,h1,?_⟩;simp only[fi];exact⟨b,l,e1,yLa e2,e3⟩
  ·obtain⟨rfl,h⟩:=h;exact⟨E,π,s,⟨Ev.le.refl _,Ext.refl _,hw,R.qc λx hx=>gP rfl (by simp) hx⟩,h⟩
 |map es=>
  intro k L w n o π s K E h R hw hg;simp only[AT]at h;split at h<;>first|exact h.elim|skip
  obtain⟨rfl,h⟩:=h;exact⟨E,π,s,⟨Ev.le.refl _,Ext.refl _,hw,R.qc λx hx=>gP rfl (by simp) hx⟩,h⟩
 |B8 es kv x=>
  intro k L w n o π s K E h R hw hg;simp only[AT]at h;obtain⟨rfl,h⟩:=h;exact⟨E,π,s,⟨Ev.le.refl _,Ext.refl _,hw,R.qc λx hx=>gP rfl (by simp) hx⟩,h⟩
 |Gy t eg=>
  intro k L w n o π s K E h R hw hg;simp only[AT]at h;obtain⟨rfl,h⟩:=h;exact⟨E,π,s,⟨Ev.le.refl _,Ext.refl _,hw,R.qc λx hx=>gP rfl (by simp) hx⟩,h⟩
 |iter b p=>
  intro k L w n o π s K E h R hw hg;simp only[AT]at h;split at h<;>first|exact h.elim|skip
  obtain⟨rfl,rfl,h⟩:=h;exact⟨E,π,s,⟨Ev.le.refl _,Ext.refl _,hw,R.qc λx hx=>gP rfl (by simp) hx⟩,h⟩
 |own t sz eg=>
  intro k L w n o π s K E h R hw hg;simp only[AT]at h;split at h<;>first|exact h.elim|skip
  ·obtain⟨hb,rfl,hk⟩:=zK h;simp only[kx]at hb;have e1:=iX hb.1;have e2:=iX hb.2;subst e1 e2;exact⟨E,π,s,⟨Ev.le.refl _,Ext.refl _,hw,R.qc λx hx=>gP rfl (by simp) hx⟩,hk⟩
  ·obtain⟨rfl,h⟩:=h;refine⟨E,π,s,⟨Ev.le.refl _,Ext.refl _,hw,R.qc λx hx=> ?_⟩,h⟩;rcases hx with⟨e,_⟩|⟨hd,h1,h2⟩
   ·cases e
   ·intro E2 π2 a b tl c;simp only[fi]at h2;refine⟨hd,a.get h1,?_⟩;simp only[fi];exact⟨av,0,[],h2.2.1,by simp[iz],by simp,.inl ⟨rfl,rfl,rfl,rfl,h2.1⟩⟩
 |cells vs t=>
  intro k L w n o π s K E h R hw hg;have key:∀{E:Ev} {s:St} {zy:List V} {π:NM},Rel k (gu E (n,.cells zy t)::L) E s w->Af π E.fv->Dr vs zy π s K->∃E' π' s',we k (Bb E' π' n (.cells vs t)::L) w E π E' π' s'/\K π' s':=by
   intro E s zy π R hw h;have H:=R.out;obtain⟨b,l,sub,h1,h2,H⟩:∃b l sub,E.fv[n]? =au (.pointer (au ⟨b,0,av⟩),sub)/\gp E zy l/\Hp k w (pt b (.cells l.toArray t)::(s.rows.map (gu E)++fz E.F::L)):=by
    obtain⟨hk,hs,hh⟩:=H;cases hh with
    |cons ha iS GL hr=>
     rcases ha with⟨e,_⟩|⟨⟨hv,sub⟩,q1,q2⟩
     ·cases e
     ·simp only[fi]at q2;obtain⟨b,l,rfl,q3,rfl⟩:=q2;exact⟨b,l,sub,q1,q3,hk,_,.cons rfl iS GL hr⟩
   have R1:Rel k (pt b (.cells l.toArray t)::L) E s w:=Rel.I0 R.nx H;obtain⟨E',π',s',q1,q2,q3⟩:=lT h R1 hw h2;refine⟨E',π',s',⟨q1.le,q1.ext,q1.wf,q1.rel.qc λx hx=> ?_⟩,q3⟩;intro E2 π2 a b' tl c;refine⟨_,a.get (q1.le.get h1),?_⟩;simp only[fi];exact⟨b,l,rfl,q2 E2 π2 a b' tl c,hx⟩
  simp only[AT]at h;split at h<;>first|exact h.elim|skip
  ·obtain⟨hb,hk⟩:=zK h;have e:=iX hb;subst e;exact key R hw hk
  ·rename_i T m ix x;obtain⟨hb,h⟩:=zK h;obtain⟨E1,q1,q2⟩:=R.unfold (BA hb);revert q2 h;generalize J' s n m (ix x)=u;obtain⟨u1,u2⟩:=u;intro h q2;simp only at h q2;split at h<;>first|exact h.elim|skip
   rename_i zy t' s' heq;cases heq;obtain⟨hb,hk⟩:=zK h;have e:=iX hb;subst e;obtain⟨E',π',s2,r1,r2⟩:=key q2 (hw.mono q1) hk;exact⟨E',π',s2,⟨q1.trans r1.le,r1.ext,r1.wf,r1.rel⟩,r2⟩
 |qq T m ix x ih=>
  intro k L w n o π s K E h R hw hg;unfold AT at h;split at h
  ·rename_i vs t;obtain⟨hb,h⟩:=zK h;have hm:=BA hb;have Ar:az m=0::(az (m-1)).map (·+1):=by
    have:m=(m-1)+1:=by omega
    rw[this,List.range_succ_eq_map];simp
   obtain⟨hd,hd1⟩:∃hd,E.fv[n]? =au hd:=by
    obtain⟨x,hx,_⟩:=R.out.sat;rcases hx with⟨e,_⟩|⟨hd,h1,_⟩
    ·cases e
    ·exact⟨hd,h1⟩
   have OT:Af [(0,n)] E.fv:=λp q e=>by
    obtain⟨_,rfl⟩:=yDl e;exact⟨hd,hd1⟩
   rw[Ar]at h;simp only[Od]at h;have ym:z8 0 [(0,n)]=au n:=rfl;rw[ym]at h;simp only at h;obtain⟨E1,π1,s1,q1,q2⟩:=ih x 0 h R OT (by simp);have R2:Rel k ([0].map (PJ (ix x) E1 π1)++L) E1 s1 w:=q1.rel.qc λy hy=>⟨n,q1.ext _ _ ym,hy⟩
   obtain⟨E2,π2,s2,r1,r2⟩:=z0n (λj=>ih x j) (c:=au (ff.cells vs t)) (by simp) q2 R2 q1.wf;have hle:=q1.le.trans r1.le;obtain⟨gr,r2⟩:=zK r2;refine⟨E2,π,s2,⟨hle,Ext.refl _,hw.mono hle,?_⟩,r2⟩;have H:=r1.rel.As;have H2:Hp k w ((az m).map (PJ (ix x) E2 π2)++(s2.rows.map (gu E2)++fz E2.F::L)):=by
    refine H.perm (cd _ (List.Perm.map _ ?_));rw[Ar];refine(List.reverse_perm _).append_right _|>.trans ?_
    exact AR
   refine Rel.I0 r1.rel.nx ((qi.2 H2).imp λy hy=> ?_);intro E3 π3 a b tl c;have uz:∀j,j<m->∃n,z8 j π2=au n:=by
    intro j hj;have hs:∀{l:List HP} {y:PH},hS l y->∀A∈l,∃z,A z:=by
     intro l
     induction l with
     |nil=>intro y _ A hA;cases hA
     |cons B l ih=>
      intro y hy A hA;cases l with
      |nil=>rcases vf.1 hA with rfl;exact⟨y,hy⟩
      |cons C l=>
       obtain⟨g,g',h1,h2,_,_⟩:=hy;rcases mf.1 hA with rfl|hA
       ·exact⟨g,h1⟩
       ·exact ih h2 A hA
    obtain⟨z,n,hz,_⟩:=hs hy (PJ (ix x) E2 π2 j) (pk.2 ⟨j,BT.2 hj,rfl⟩);exact⟨n,hz⟩
   let jm:List Hd:=(az m).map λj=>(E3.fv[(z8 j π2).getD 0]?).getD (af,[])
   have P9:∀j n,j<m->z8 j π2=au n->∃hd,E3.fv[n]? =au hd/\jm[j]? =au hd:=by
    intro j n hj hn;obtain⟨hd,h'⟩:=r1.wf j n hn;refine⟨hd,a.get h',?_⟩;show((az m).map _)[j]? =_;rw[uq,KD hj];simp only[vw,hn,zf,a.get h']
   have sc:Loc π2 E3.fv jm:=λp q e=>P9 p q (aS gr p q e) e
   refine⟨hd,a.get (hle.get hd1),?_⟩;simp only[fi];refine⟨jm,?_,by simp[jm],?_⟩
   ·have h0:z8 0 π2=au n:=r1.ext _ _ (q1.ext _ _ ym);obtain⟨oE,e1,e2⟩:=P9 0 n (by omega) h0;rw[a.get (hle.get hd1)]at e1;cases e1;exact e2
   ·refine Kf ?_ hy;rintro j z ⟨nj,hj,hz⟩;obtain⟨oE,e1,e2⟩:=hz E3 π2 a (Ext.refl _) jm sc;obtain⟨zi,e3,e4⟩:=sc j nj hj;rw[e1]at e3;cases e3;exact⟨oE,e4,e2⟩
  ·obtain⟨rfl,h⟩:=h;exact⟨E,π,s,⟨Ev.le.refl _,Ext.refl _,hw,R.qc λx hx=>gP rfl (by simp) hx⟩,h⟩
variable {k:Ko} {L:List HP} {w:ab}
def gC:Nat->List ff->List (Nat×ff)
 |_,[]=>[]
 |p,o::os=>(p,o)::gC (p+1) os
def PQ (E:Ev) (π:NM) (r:Nat×ff):HP:=λh=>(r.2= .gone/\h=pe)\/∃n,z8 r.1 π=au n/\Bb E π n r.2 h
def PQ.mono {E E':Ev} {π π':NM} (hle:E.le E') (hx:Ext π π') (r:Nat×ff) {h:PH} (e:PQ E π r h):PQ E' π' r h:=by
 rcases e with e|⟨n,h1,h2⟩
 ·exact .inl e
 ·exact .inr ⟨n,hx _ _ h1,h2.mono hle hx⟩
def RD:∀{os:List ff} {p:Nat} {π:NM} {s:St} {K:NM->St->Prop} {E:Ev} {L:List HP},Hm p os π s K->Rel k L E s w->Af π E.fv->
 ∃E' π' s',we k ((gC p os).map (PQ E' π')++L) w E π E' π' s'/\K π' s'
 |[],p,π,s,K,E,L,h,R,hw=>⟨E,π,s,⟨Ev.le.refl _,Ext.refl _,hw,R⟩,h⟩
 |o::os,p,π,s,K,E,L,h,R,hw=>by
  have fin:∀{E1:Ev} {π1:NM} {s1:St},we k (PQ E1 π1 (p,o)::L) w E π E1 π1 s1->Hm (p+1) os π1 s1 K->∃E' π' s',we k ((gC p (o::os)).map (PQ E' π')++L) w E π E' π' s'/\K π' s':=by
   intro E1 π1 s1 q1 q2;obtain⟨E2,π2,s2,r1,r2⟩:=RD q2 q1.rel q1.wf;refine⟨E2,π2,s2,⟨q1.le.trans r1.le,q1.ext.trans r1.ext,r1.wf,?_⟩,r2⟩;have R3:=r1.rel;have R4:Rel k (PQ E1 π1 (p,o)::((gC (p+1) os).map (PQ E2 π2)++L)) E2 s2 w:=⟨R3.nx,R3.hp.perm (by
    refine bz _ (.cons _ ?_);exact mg)⟩
   exact R4.qc λx hx=>hx.mono r1.le r1.ext
  cases o with
  |gone=>
   simp only[Hm]at h;refine fin ⟨Ev.le.refl _,Ext.refl _,hw,?_⟩ h;exact Rel.I0 R.nx (((@hP k w True _).2 ⟨trivial,R.hp⟩).imp λx hx=> .inl ⟨rfl,hx.2⟩)
  |_=>
   simp only[Hm]at h;split at h<;>first|exact h.elim|skip
   rename_i n hn;split at h<;>first|exact h.elim|skip
   rename_i o' oz;obtain⟨oz,hg⟩:=S' oz;obtain⟨E1,π1,s1,q1,q2⟩:=y0d _ h (R.gf oz) hw hg;exact fin ⟨q1.le,q1.ext,q1.wf,q1.rel.qc λx hx=> .inr ⟨n,q1.ext _ _ hn,hx⟩⟩ q2
structure Alt where
 o:Type
 res:o->V
 post:o->List ff
 rel:o->Prop
structure fy where
 ι:Type
 pat:ι->List V
 pre:ι->List ff
 dp:ι->Prop
 alts:ι->List Alt
def G' (m nx:Nat):Nat->NM->NM
 |0,π=>π
 |q+1,π=>G' m nx q ((m+q,nx+q)::π)
def kD (π:NM):Nat->List ff->List (Nat×ff)
 |_,[]=>[]
 |p,.gone::os=>kD π (p+1) os
 |p,o::os=>match z8 p π with
  |some n=>(n,DU π o)::kD π (p+1) os
  |none=>kD π (p+1) os
def y0b (m:Nat) (π:NM) (s:St) (os:List ff):St:=⟨kD (G' m s.nx (os.length-m) π) 0 os++s.rows,s.nx+(os.length-m)⟩
def ZO (m:Nat) (π:NM) (s:St) (K:V->St->Prop) (a:Alt):Prop:=
 ∀o,a.rel o->bif ay m (a.post o).length then K (eO (G' m s.nx ((a.post o).length-m) π) (a.res o)) (y0b m π s (a.post o))else False
def ZY (m:Nat) (π:NM) (s:St) (K:V->St->Prop):List Alt->Prop
 |[]=>True
 |[a]=>ZO m π s K a
 |a::l=>ZO m π s K a/\ZY m π s K l
def zUs {m:Nat} {π:NM} {s:St} {K:V->St->Prop}:∀{l:List Alt},ZY m π s K l->∀a∈l,ZO m π s K a
 |[],_,a,ha=>by cases ha
 |[b],h,a,ha=>by rcases vf.1 ha with rfl;exact h
 |b::c::l,h,a,ha=>by
  rcases mf.1 ha with rfl|ha
  ·exact h.1
  ·exact zUs h.2 a ha
def fy.call (C:fy) (args:List V) (s:St) (K:V->St->Prop):Prop:=
 ∃i:C.ι,Dr (C.pat i) args [] s λπ s=>Hm 0 (C.pre i) π s λπ s=>bif sF (C.pre i).length π then C.dp i/\ZY (C.pre i).length π s K (C.alts i)else False
def fy.ok (P:ae) (f:ap) (C:fy):Prop:=∀i,C.dp i->∀(k:Ko) (L:List HP) (E:Ev) (w:ab) (ys:List aa),Rel k L E ⟨gC 0 (C.pre i),(C.pre i).length⟩ w->gp E (C.pat i) ys->
 mo P (ag f ys.toArray) w λy w'=>∃a∈C.alts i,∃o,a.rel o/\∃E',E.le E'/\VR E' (a.res o) y/\Rel k L E' ⟨gC 0 (a.post o),(a.post o).length⟩ w'
def zVe {m nx:Nat} {p n:Nat}:∀{q:Nat} {π:NM},z8 p (G' m nx q π)=au n->z8 p π=au n\/(m<=p/\n=nx+(p-m))
 |0,π,h=> .inl h
 |q+1,π,h=>by
  simp only[G']at h;rcases zVe (q:=q) h with h|h
  ·simp only[z8]at h;cases hb:aw (m+q) p
   ·rw[hb]at h;exact .inl h
   ·rw[hb]at h;have:=iX hb;simp only[cond_true,cf]at h;exact .inr ⟨by omega,by omega⟩
  ·exact .inr h
def nT {π:NM} {E E2:Ev} (hF:E.F=E2.F) (hr:∀p n hd,z8 p π=au n->E.fv[p]? =au hd->E2.fv[n]? =au hd) {M:List HP}:∀{os:List ff} {p:Nat},Hp k w ((gC p os).map (gu E)++M)->Hp k w ((kD π p os).map (gu E2)++M)
 |[],p,H=>H
 |o::os,p,H=>by
  simp only[gC,jo,tv]at H;have drop:Hp k w ((kD π (p+1) os).map (gu E2)++M):=nT hF hr H.drop;have main:∀n,z8 p π=au n->Hp k w (gu E2 (n,DU π o)::((kD π (p+1) os).map (gu E2)++M)):=by
   intro n hn;have H1:Hp k w ((gC (p+1) os).map (gu E)++(gu E (p,o)::M)):=H.perm mg.symm;have H2:=nT hF hr H1;refine(H2.perm mg).imp λx hx=> ?_
   rcases hx with⟨e,e2⟩|⟨hd,h1,h2⟩
   ·left;simp only at e;subst e;exact⟨rfl,e2⟩
   ·right;exact⟨hd,hr _ _ _ hn h1,hF▸h2.uj hr⟩
  cases o with
  |gone=>simpa only[kD]using drop
  |_=>
   simp only[kD];split
   ·rename_i n hn;exact main n hn
   ·exact drop
def fy.xp {P:ae} {f:ap} {C:fy} (hC:C.ok P f) {args:List V} {s:St} {K:V->St->Prop} {E:Ev} {ys:List aa} (h:C.call args s K) (R:Rel k L E s w) (hv:gp E args ys):
 mo P (ag f ys.toArray) w (oU k L E K):=by
 obtain⟨i,h⟩:=h;have OT:Af [] E.fv:=λp n e=>by cases e
 obtain⟨E1,π1,s1,q1,q2,q3⟩:=lT h R OT hv;obtain⟨E2,π2,s2,r1,r2⟩:=RD q3 q1.rel q1.wf;obtain⟨gr,hc,ha⟩:=zK r2;have gr:=aS gr
 let m:=(C.pre i).length
 let tl:List Hd:=(az m).map λp=>(E2.fv[(z8 p π2).getD 0]?).getD (af,[])
 have sc:Loc π2 E2.fv tl:=by
  intro p n hp;obtain⟨hd,h'⟩:=r1.wf p n hp;refine⟨hd,h',?_⟩;show((az m).map _)[p]? =_;rw[uq,KD (gr p n hp)];simp only[vw,hp,zf,h']
 have Ho:tl.length=m:=by simp[tl]
 have H:=r1.rel.As;have H1:=wO (g:=gu ⟨E2.F,tl⟩) (λr x hx=>by
  rcases hx with⟨e1,e2⟩|⟨n,h1,h2⟩
  ·exact .inl ⟨e1,e2⟩
  ·right;obtain⟨hd,h3,h4⟩:=h2 E2 π2 (Ev.le.refl _) (Ext.refl _) tl sc;obtain⟨oE,h5,h6⟩:=sc _ _ h1;rw[h3]at h5;cases h5;exact⟨hd,h6,h4⟩) H
 have R0:Rel k (s2.rows.map (gu E2)++L) ⟨E2.F,tl⟩ ⟨gC 0 (C.pre i),(C.pre i).length⟩ w:=⟨Ho,H1.perm (bz _ mg)⟩
 have Ux:gp ⟨E2.F,tl⟩ (C.pat i) ys:=q2 E2 π2 r1.le r1.ext tl sc;refine(hC i hc k _ _ w ys R0 Ux).mono ?_;rintro y w' ⟨a,ha',o,K9,E3,hle,OV,R3⟩;obtain⟨hm,hk⟩:=zK (zUs ha a ha' o K9);have hm:=BA hm
 let q:=(a.post o).length
 have hlen:E3.fv.length=q:=R3.nx
 let E4:Ev:=⟨E3.F,E2.fv++E3.fv.drop m⟩
 have qu:E2.le E4:=⟨hle.1,IT _ _⟩
 have An:∀p n hd,z8 p (G' m s2.nx (q-m) π2)=au n->E3.fv[p]? =au hd->E4.fv[n]? =au hd:=by
  intro p n hd hp ht;rcases zVe hp with hp|⟨h1,rfl⟩
  ·obtain⟨oE,h5,h6⟩:=sc _ _ hp;have:=Sn hle.2 h6;rw[ht]at this;cases this;exact qu.get h5
  ·show(E2.fv++E3.fv.drop m)[s2.nx+(p-m)]? =au hd;rw[<- r1.rel.nx,Cy (by omega),AQ];rw[show m+(E2.fv.length+(p-m)-E2.fv.length)=p by omega];exact ht
 refine⟨E4,_,_,(q1.le.trans r1.le).trans qu,?_,OV.uj (F:=E3.F) An,hk⟩;refine⟨by show(E2.fv++E3.fv.drop m).length=s2.nx+(q-m);rw[im,oV,r1.rel.nx,hlen],?_⟩;have H2:=nT (E:=E3) (E2:=E4) rfl An R3.hp;have H3:Hp k w' (s2.rows.map (gu E2)++((kD (G' m s2.nx (q-m) π2) 0 (a.post o)).map (gu E4)++fz E3.F::L)):=by
  refine H2.perm ?_;rw[<- jd];refine List.Perm.trans ?_ (AR.append_right _);rw[jd];exact bz _ mg.symm
 have H4:=wO (g:=gu E4) (λr x=>gu.mono qu r) H3;refine H4.perm ?_;show(s2.rows.map (gu E4)++((kD (G' m s2.nx (q-m) π2) 0 (a.post o)).map (gu E4)++fz E3.F::L)).Perm ((kD (G' m s2.nx (q-m) π2) 0 (a.post o)++s2.rows).map (gu E4)++fz E4.F::L);rw[<- jd,jk];exact AR.append_right _
variable {P:ae} {k:Ko} {L:List HP}
def kS (P:ae) (ρ:xA) (op:Op):Nat:=
 match op with
 | .convert s d _=>bif Ot P s && Ka P d then 1 else bif Ka P s && G6 P d then 2 else bif Ot P s && G6 P d then 2 else 0
 | .indexAddr _ x _=>match lh ρ x with
   | .own _=>1
   |_=>0
 | .slice _ x _ _ _=>match lh ρ x with
   | .own _=>2
   |_=>0
 | .binOp _ _ x _ _=>match lh ρ x with
   | .own _=>1
   |_=>0
 | .call c=>match c.callee with
   | .builtin .len=>match CJ ρ c.args.toList with
     |[.own _]=>1
     |[.mp _]=>1
     |_=>0
   | .builtin .cap=>0
   | .builtin .min=>0
   | .builtin .max=>0
   |_=>2
 |op=>RK P op
def opS (P:ae) (H:AY) (o:ao) (ρ:xA) (s:St) (K:V->St->Prop):Prop:=
 match kS P ρ o.op with
 |0=>sq P o ρ λv=>K v s
 |1=>sr P o ρ s λv=>K v s
 |_=>se P H o ρ s K
def yEz {H:AY} (hH:HE P H) {E:Ev} {s:St} {w:ab} (R:Rel k L E s w) {ρS:xA} {ρ:Env} (he:ki E ρS ρ) {o:ao} {K:V->St->Prop} (h:opS P H o ρS s K):mo P (ac (ev ρ) o) w (oU k L E K):=by
 unfold opS at h;split at h
 ·obtain⟨v,y,hk,hv,hf⟩:=z2d he h;exact j7 (hf w) ⟨E,v,s,Ev.le.refl _,R,hv,hk⟩
 ·obtain⟨v,y,hk,hv,hf⟩:=VU R he h;exact j7 hf ⟨E,v,s,Ev.le.refl _,R,hv,hk⟩
 ·exact z0d hH R he h
def NH (ops:List ao) (g:Option (Nat×Bool)) (ρ:xA) (Y N:xA->Prop):Prop:=
 match g with
 |none=>Y ρ
 |some (j,want)=>
  match Tw ops j with
  |none=>N ρ
  |some d=>
   match ρ d with
   | .d (.v (.bool c))=>gd c want (Y (lX ρ (au d) (.d (.v (.bool want))))) (N (lX ρ (au d) (.d (.v (.bool !want)))))
   | .iW []=>N ρ
   |_=>False
def yEw {ρ:xA} {d:Nat} {v:V} (h:ρ d=v):lX ρ (au d) v=ρ:=by
 funext i;simp only[lX];cases hb:aw i d
 ·rfl
 ·have:=iX hb;subst this;exact h.symm
def sN {ops:List ao} {o:ao} {a:Act} {E:Ev} {ρS:xA} (he:ki E ρS (yM a)) {Y N:xA->Prop} (h:NH ops o.guard ρS Y N):
 if cr o (yielded ops.toArray a.tmps)then Y ρS else N ρS:=by
 unfold NH at h;unfold cr;split at h
 ·rename_i hg;rw[hg];exact h
 ·rename_i j want hg;rw[hg];have hy:=zHp ops a.tmps j;split at h
  ·rename_i hd;rw[hd]at hy;simp only[hy];simpa using h
  ·rename_i d hd;rw[hd]at hy;simp only[hy];have hv:yM a d=(a.tmps[d]?).getD af:=by simp[yM,BV]
   have EP:=he d;rw[hv]at EP;split at h<;>first|exact h.elim|skip
   ·rename_i c hc;rw[hc]at EP;simp only[VR,DR]at EP;cases ht:a.tmps[d]? with
    |none=>rw[ht]at EP;exact absurd EP.1 (by simp[af])
    |some v=>
     rw[ht]at EP;simp only[zf]at EP;rw[EP.1];simp only[];have hs:∀b,c=b->lX ρS (au d) (.d (.v (.bool b)))=ρS:=λb hb=>yEw (by rw[hc,hb])
     cases c<;>cases want<;>simp only[gd,Bool.not_true,IK]at h<;>rw[hs _ rfl]at h<;>simpa using h
   ·rename_i hc;rw[hc]at EP;simp only[VR,gp]at EP;obtain⟨ys,e1,rfl⟩:=EP;cases ht:a.tmps[d]? with
    |none=>simpa using h
    |some v=>
     rw[ht]at e1;simp only[zf]at e1;subst e1;simpa using h
def Oe (P:ae) (H:AY) (ops:List ao):List ao->xA->St->(xA->St->Prop)->Prop
 |[],ρ,s,K=>K ρ s
 |o::rest,ρ,s,K=>NH ops o.guard ρ (λρ=>opS P H o ρ s λv s'=>Oe P H ops rest (lX ρ o.dst v) s' K) (λρ=>Oe P H ops rest (lX ρ o.dst (.iW [])) s K)
def X1 (E:Ev):VR E (.iW []) af:=by
 simp only[VR];exact⟨[],rfl,gp.nil⟩
def zLo {H:AY} (hH:HE P H) {ops:List ao} {n:Nat} {A:Nat->Bool} {e0:Env} {Q:Exit->Act->ab->Prop} {E0:Ev} {K:xA->St->Prop}
 (hQ:∀a w E ρS s,Good n A e0 a->E0.le E->Rel k L E s w->ki E ρS (yM a)->K ρS s->Q .normal a w):
 ∀(l:List ao) (a:Act) (w:ab) (E:Ev) (ρS:xA) (s:St),Ir n A l->Good n A e0 a->E0.le E->Rel k L E s w->ki E ρS (yM a)->Oe P H ops l ρS s K->wpList P ops.toArray Q l a w
 |[],a,w,E,ρS,s,_,hg,hle,R,he,h=>hQ a w E ρS s hg hle R he h
 |o::l,a,w,E,ρS,s,hf,pg,hle,R,he,h=>by
  have xd:=hf o ji;have hf':Ir n A l:=λo' oz=>hf o' (jw _ oz)
  have hg:=sN he h;have nx:∀{v:aa} {w:ab} {E':Ev} {v':V} {s':St},E.le E'->Rel k L E' s' w->VR E' v' v->Oe P H ops l (lX ρS o.dst v') s' K->wpList P ops.toArray Q l (a.put o.dst v) w:=λ{v w E' v' s'} jh R' hv hh=>
   zLo hH hQ l _ _ E' _ s' hf' (pg.put xd v) (hle.trans jh) R' (by rw[pg.lu xd];exact(he.mono jh).put _ hv) hh
  unfold wpList;split
  ·rename_i hw;rw[fc hw]at hg;left;refine Ys ?_;have:=yEz hH R he hg;rw[wH]at this;refine this.mono ?_;rintro v w' ⟨E',v',s',h1,h2,h3,h4⟩;exact nx h1 h2 h3 h4
  ·rename_i hw;rw[ej hw]at hg;exact nx (Ev.le.refl _) R (X1 E) hg
def zLl {P:ae} {E:Ev} {t sz i f:Nat} {eg:List (List D)} {b o:Nat} {l:List aa} {T:aj} {fr:Nat×Nat} {ds:List D} {v:V} (hu:∀el∈eg,el.length=sz) (h5:A1 E.F eg (l.drop o))
 (hp:zD eg i f ds.length=au ds) (hm:Hn P t ds=au v):∃y,VR E v y/\∀w:ab,w.heap[b]? =au (.cells l.toArray T fr)->nC P t ⟨b,o+i*sz+f,av⟩ w y:=by
 obtain⟨xs,r,e,hx⟩:=oJ.1 h5;unfold zD at hp;split at hp<;>first|(cases hp;done)|skip
 rename_i el oR;obtain⟨hb,hp⟩:=yU hp;have hb:=BA hb;have tf:=lr oR;have hi:i<eg.length:=(jl.1 oR).1;rw[hu el tf]at hb;have mn:=(hx.drop (i*sz+f)).take ds.length;have hfp:=Xu hu oR hb;rw[hfp,cg hp]at mn;have hlen:xs.length=eg.length*sz:=by rw[hx.length,jM hu]
 have vj:i*sz+sz<=eg.length*sz:=by
  have:=wj sz (show i+1<=eg.length by omega);rwa [zd]at this
 have nk:(l.drop (o+i*sz+f)).take ds.length=(xs.drop (i*sz+f)).take ds.length:=by
  rw[Dm,<- Cw,e,ED (by omega),xq (by rw[oV];omega)]
 unfold Hn at hm;split at hm
 ·rename_i n hn;obtain⟨hq,hm⟩:=yU hm;have:=iX hq;cases hm;refine⟨.agg ((xs.drop (i*sz+f)).take ds.length).toArray,by simp only[VR];exact⟨_,rfl,mn.MV⟩,λw e2=> ?_⟩;refine SW hn e2 (by rw[<- this];exact nk) ?_;rw[mn.length,this]
 ·obtain⟨hq,hm⟩:=yU hm;split at hm<;>first|(cases hm;done)|skip
  rename_i d;cases hm;simp only[iD,tp,iz]at mn nk;obtain⟨y,ys,e4,h4,h5⟩:=mn;subst h5;refine⟨y,by simpa only[VR]using h4,λw e2=>vF hq e2 ?_⟩;have:((l.drop (o+i*sz+f)).take 1)[0]? =au y:=by rw[nk,e4];rfl
  rw[IU,fc (by omega),AQ]at this;simpa using this
def So (ρ:xA) (s:St):Op->Bool
 | .load _ x=>match lh ρ x with
   | .re _ _ _ _=>bu
   | .el n _ _ _=>match s.get n with
     |some (.ja _ _)=>bu
     |_=>bv
   |_=>bv
 |_=>bv
def yFl {E:Ev} {s:St} {w:ab} (R:Rel k L E s w) {ρS:xA} {ρ:Env} (he:ki E ρS ρ) {o:ao} {K:V->Prop} (ku:So ρS s o.op=bu) (h:sr P o ρS s K):
 ∃v y,K v/\VR E v y/\∀(E':Ev) (s':St) (w':ab),E.le E'->Rel k L E' s' w'->(ac (ev ρ) o).run P w'= .ok (.value y) w':=by
 cases ho:o.op<;>rw[ho]at ku<;>first|(cases ku;done)|skip
 case load t x=>
  simp only[sr,ho]at h;simp only[So]at ku;have hv:=he.ev x;split at ku<;>first|(cases ku;done)|skip
  ·rename_i sz eg i f hx;rw[hx]at hv h;simp only[VR]at hv;simp only at h;obtain⟨e0,e1,b,oo,l,T,fr,e2,e3,e4⟩:=hv;obtain⟨ds,hp,h⟩:=bX h;obtain⟨v,hm,hk⟩:=zM h;obtain⟨y,hy,hh⟩:=zLl (b:=b) (T:=T) (fr:=fr) e1 e4 hp hm;refine⟨v,y,hk,hy,λE' s' w' hle R'=> ?_⟩;simp only[ac,ho,e2];exact yF (hh w' (R'.frozen _ _ (hle.1 _ _ e3)))
  ·rename_i n sz i f hx;rw[hx]at hv h;simp only[VR]at hv;simp only at h;split at ku<;>first|(cases ku;done)|skip
   rename_i sz0 abh hg;obtain⟨b,oo,m,c,l,e1,e2⟩:=hv;simp only[Ke,mV,hg]at h;obtain⟨⟨ot,eg⟩,hd,h⟩:=zM h;simp only[eB,hg,cf,Prod.mk.injEq]at hd;obtain⟨rfl,rfl⟩:=hd;obtain⟨hb,h⟩:=zK h;have:=iX hb;simp only at this;subst this;obtain⟨ds,hp,h⟩:=bX h;obtain⟨v,hm,hk⟩:=zM h;obtain⟨hd,x',q1,q2,q3⟩:=R.row hg (by simp);rw[e1]at q1;cases q1;simp only[fi,DR]at q2;obtain⟨_,a,c',q4,q5,q6,q7⟩:=q2;cases q4;rcases q7 with rfl|⟨b',o',l',T,fr,q8,q9,q10⟩
   ·simp[zD]at hp
   cases q8;obtain⟨y,hy,hh⟩:=zLl (b:=b) (T:=T) (fr:=fr) q6 q10 hp hm;refine⟨v,y,hk,hy,λE' s' w' hle R'=> ?_⟩;simp only[ac,ho,e2];exact yF (hh w' (R'.frozen _ _ (hle.1 _ _ q9)))
def y0m:V->V->Prop
 | .d (.v x),.d (.v y)=>Uo x y
 | .nm n o,.nm n' o'=>bif aw n n' && aw o o' then True else False
 | .own n,.own n'=>bif aw n n' then True else False
 | .mp n,.mp n'=>bif aw n n' then True else False
 | .el n sz i f,.el n' ot i' f'=>bif aw n n' && aw sz ot && aw f f' then i=i' else False
 |_,_=>False
def gF {E E':Ev} (hle:E.le E') {v v':V} {y y':aa} (h:y0m v' v) (hy:VR E v y) (oW:VR E' v' y'):y'=y:=by
 unfold y0m at h;split at h<;>first|exact h.elim|skip
 ·simp only[VR,DR]at hy oW;rw[hy.1,oW.1,yJi h]
 ·obtain⟨hb,_⟩:=zK h;simp only[kx]at hb;have e1:=iX hb.1;have e2:=iX hb.2;subst e1 e2;simp only[VR]at hy oW;obtain⟨b,oo,l,h1,rfl⟩:=hy;obtain⟨b',oo',l',AV,rfl⟩:=oW;rw[hle.get h1]at AV;cases AV;rfl
 ·obtain⟨hb,_⟩:=zK h;have e1:=iX hb;subst e1;simp only[VR]at hy oW;obtain⟨l,h1,_⟩:=hy;obtain⟨l',AV,_⟩:=oW;rw[hle.get h1]at AV;cases AV;rfl
 ·obtain⟨hb,_⟩:=zK h;have e1:=iX hb;subst e1;simp only[VR]at hy oW;obtain⟨b,l,h1,_⟩:=hy;obtain⟨b',l',AV,_⟩:=oW;rw[hle.get h1]at AV;cases AV;rfl
 ·obtain⟨hb,rfl⟩:=zK h;simp only[kx]at hb;have e1:=iX hb.1.1;have e2:=iX hb.1.2;have e3:=iX hb.2;subst e1 e2 e3;simp only[VR]at hy oW;obtain⟨b,oo,m,c,l,h1,rfl⟩:=hy;obtain⟨b',oo',m',c',l',AV,rfl⟩:=oW;rw[hle.get h1]at AV;cases AV;rfl
mutual
def BW:V->V->Prop
 | .agg l,v=>match v with
   | .agg l'=>MF l l'
   |_=>False
 | .iW l,v=>match v with
   | .iW l'=>MF l l'
   |_=>False
 |u,v=>y0m u v
def MF:List V->List V->Prop
 |[],l=>match l with
  |[]=>True
  |_=>False
 |u::us,l=>match l with
  |v::vs=>BW u v/\MF us vs
  |[]=>False
end
mutual
theorem z8r {E E':Ev} (hle:E.le E'):∀{v' v:V} {y y':aa},BW v' v->VR E v y->VR E' v' y'->y'=y
 | .agg l,v,y,y',h,hy,oW=>by
   simp only[BW]at h;split at h<;>first|exact h.elim|skip
   simp only[VR]at hy oW;obtain⟨ys,rfl,h1⟩:=hy;obtain⟨Dl,rfl,h2⟩:=oW;rw[Wm hle h h1 h2]
 | .iW l,v,y,y',h,hy,oW=>by
   simp only[BW]at h;split at h<;>first|exact h.elim|skip
   simp only[VR]at hy oW;obtain⟨ys,rfl,h1⟩:=hy;obtain⟨Dl,rfl,h2⟩:=oW;rw[Wm hle h h1 h2]
 | .top,v,y,y',h,hy,oW=>gF hle (by simpa only[BW]using h) hy oW
 | .d _,v,y,y',h,hy,oW=>gF hle (by simpa only[BW]using h) hy oW
 | .nm _ _,v,y,y',h,hy,oW=>gF hle (by simpa only[BW]using h) hy oW
 | .el _ _ _ _,v,y,y',h,hy,oW=>gF hle (by simpa only[BW]using h) hy oW
 | .re _ _ _ _,v,y,y',h,hy,oW=>gF hle (by simpa only[BW]using h) hy oW
 | .own _,v,y,y',h,hy,oW=>gF hle (by simpa only[BW]using h) hy oW
 | .mp _,v,y,y',h,hy,oW=>gF hle (by simpa only[BW]using h) hy oW
 | .sub _ _,v,y,y',h,hy,oW=>gF hle (by simpa only[BW]using h) hy oW
 | .fn _ _ _,v,y,y',h,hy,oW=>gF hle (by simpa only[BW]using h) hy oW
 | .zh _ _,v,y,y',h,hy,oW=>gF hle (by simpa only[BW]using h) hy oW
theorem Wm {E E':Ev} (hle:E.le E'):∀{v' v:List V} {y y':List aa},MF v' v->gp E v y->gp E' v' y'->y'=y
 |[],v,y,y',h,hy,oW=>by
  simp only[MF]at h;split at h<;>first|exact h.elim|skip
  simp only[gp]at hy oW;rw[hy,oW]
 |u::us,v,y,y',h,hy,oW=>by
  simp only[MF]at h;split at h<;>first|exact h.elim|skip
  simp only[gp]at hy oW;obtain⟨x,xs,rfl,h1,h2⟩:=hy;obtain⟨x',xs',rfl,AV,h2'⟩:=oW;rw[z8r hle h.1 h1 AV,Wm hle h.2 h2 h2']
end
@[reducible] def Ep:=Nat×(St->Prop)
def It (bf:List Nat) (i:Nat):List Ep->List Ep
 |[]=>[]
 |m::l=>bif AN bf i m.1 then It bf i l else m::It bf i l
def ZJ:List Ep->St->Prop->Prop
 |[],_,X=>X
 |m::ms,s,X=>m.2 s/\ZJ ms s X
def yVy (P:ae) (ops:List ao) (ρ:xA) (i:Nat):Bool:=
 match ops[i]? with
 |some o=>match kS P ρ o.op with
  |2=>bv
  |_=>bu
 |none=>bu
def RP:Op->Bool
 | .slice _ _ _ _ av=>bu
 |_=>bv
def z6a {o:Op} (h:RP o=bu):∃t x lo hi,o= .slice t x lo hi av:=by
 unfold RP at h;split at h
 ·exact⟨_,_,_,_,rfl⟩
 ·cases h
def lC (P:ae) (H:AY) (ops:List ao) (bf:List Nat):Nat->Array Bool->List Ep->xA->St->(xA->St->Prop)->Prop
 |0,fh,_,ρ,s,K=>
  match ct .any ops.toArray fh with
  |[]=>K ρ s
  |_=>False
 |fuel+1,fh,M,ρ,s,K=>
  match ct .any ops.toArray fh with
  |[]=>K ρ s
  |r::rs=>
   match(r::rs).find? (yVy P ops ρ)with
   |some i=>
    match ops[i]? with
    |none=>False
    |some o=>NH ops o.guard ρ
      (λρ'=>match kS P ρ' o.op with
        |0=>sq P o ρ' λv=>lC P H ops bf fuel (fh.setIfInBounds i bu) M (lX ρ' o.dst v) s K
        |1=>sr P o ρ' s λv=>lC P H ops bf fuel (fh.setIfInBounds i bu) ((i,λs'=>bif So ρ' s o.op then True else sr P o ρ' s' λv'=>BW v' v)::M) (lX ρ' o.dst v) s K
        |_=>False)
      (λρ'=>lC P H ops bf fuel (fh.setIfInBounds i bu) M (lX ρ' o.dst (.iW [])) s K)
   |none=>TP (r::rs) λi=>
    match ops[i]? with
    |none=>False
    |some o=>NH ops o.guard ρ
      (λρ'=>se P H o ρ' s λv s'=>bif RP o.op then lC P H ops bf fuel (fh.setIfInBounds i bu) (It bf i M) (lX ρ' o.dst v) s' K else ZJ (It bf i M) s' (lC P H ops bf fuel (fh.setIfInBounds i bu) (It bf i M) (lX ρ' o.dst v) s' K))
      (λρ'=>lC P H ops bf fuel (fh.setIfInBounds i bu) (It bf i M) (lX ρ' o.dst (.iW [])) s K)
inductive oq (k:Ko) (L:List HP) (E:Ev):List Ep->List Mon->Prop
 |nil:oq k L E [] []
 |cons {i:Nat} {f:St->Prop} {g:ab->Prop} {M:List Ep} {N:List Mon}:(∀E' s' w',E.le E'->Rel k L E' s' w'->f s'->g w')->oq k L E M N->oq k L E ((i,f)::M) ((i,g)::N)
def oq.mono {E E':Ev} (hle:E.le E') {M:List Ep} {N:List Mon} (h:oq k L E M N):oq k L E' M N:=by
 induction h with
 |nil=>exact .nil
 |cons h _ ih=>exact .cons (λE2 s w a=>h E2 s w (hle.trans a)) ih
def oq.oI {E:Ev} {bf:List Nat} {i:Nat} {M:List Ep} {N:List Mon} (h:oq k L E M N):oq k L E (It bf i M) (jC bf i N):=by
 induction h with
 |nil=>exact .nil
 | @cons j f g M N h _ ih=>
   simp only[It,jC,List.filter_cons]at ih ⊢;cases hb:AN bf i j
   ·simpa using .cons h ih
   ·simpa using ih
def oq.all {E E':Ev} (hle:E.le E') {M:List Ep} {N:List Mon} (h:oq k L E M N) {s:St} {w:ab} (R:Rel k L E' s w) {X:Prop} (hm:ZJ M s X):Ek N w/\X:=by
 induction h with
 |nil=>exact⟨λm hm=>(by cases hm),hm⟩
 |cons h _ ih=>
  obtain⟨h1,h2⟩:=hm;obtain⟨h3,h4⟩:=ih h2;refine⟨λm hm=> ?_,h4⟩;rcases mf.1 hm with rfl|hm
  ·exact h _ _ _ hle R h1
  ·exact h3 m hm
def z0z {H:AY} (hH:HE P H) {ops:List ao} {n:Nat} {A:Nat->Bool} {e0:Env} {Q:Act->ab->Prop} {E0:Ev} {K:xA->St->Prop} (oK:sR ops (u0 ops [])=bu) (hf:Ir n A ops)
 (hQ:∀a w E ρS s,Good n A e0 a->E0.le E->Rel k L E s w->ki E ρS (yM a)->K ρS s->Q a w):
 ∀(fuel:Nat) (fh:Array Bool) (M:List Ep) (N:List Mon) (a:Act) (w:ab) (E:Ev) (ρS:xA) (s:St),tW ops (qH fh)->Ek N w->oq k L E M N->Good n A e0 a->E0.le E->Rel k L E s w->ki E ρS (yM a)->
  lC P H ops (u0 ops []) fuel fh M ρS s K->Cq P ops.toArray (u0 ops []) Q fuel N fh a w:=by
 intro fuel
 induction fuel with
 |zero=>
  intro fh M N a w E ρS s hc hM ER pg hle R he h;unfold lC at h;split at h
  ·rename_i hr;exact⟨hr,hQ a w E ρS s pg hle R he h⟩
  ·exact h.elim
 |succ fuel ih=>
  intro fh M N a w E ρS s hc hM ER pg hle R he h;unfold lC at h;split at h
  ·rename_i hr;exact⟨λ_=>hQ a w E ρS s pg hle R he h,λi hi=>by rw[hr]at hi;cases hi⟩
  ·rename_i r rs hr;have je:ct .any ops.toArray fh≠[]:=by rw[hr];simp
   split at h
   ·rename_i i Fi;have hi:i∈ct .any ops.toArray fh:=by rw[hr];exact List.mem_of_find?_eq_some Fi
    split at h<;>first|exact h.elim|skip
    rename_i o ho;have yw:∀v,yM (a.put o.dst v)=Cv.put (yM a) o.dst v:=λv=>pg.lu (mO hf ho) v
    have hg:=sN he h;have nx:∀{M:List Ep} {N:List Mon} {v:V} {y:aa},Ek N w->oq k L E M N->VR E v y->lC P H ops (u0 ops []) fuel (fh.setIfInBounds i bu) M (lX ρS o.dst v) s K->
     Cq P ops.toArray (u0 ops []) Q fuel N (fh.setIfInBounds i bu) (a.put o.dst y) w:=λ{M N v y} hM ER hv hh=>
     ih _ _ _ _ _ _ _ _ (uM hc hi) hM ER (pg.put (mO hf ho) _) hle R (by rw[yw];exact he.put _ hv) hh
    by_cases hw:cr o (yielded ops.toArray a.tmps)=bu
    ·rw[fc hw]at hg;split at hg<;>first|exact hg.elim|skip
     ·obtain⟨v,y,hk,hv,ud⟩:=z2d he hg;rw[wH]at ud;have hs:∀w,tM P ops.toArray o y a w:=λw=> .inl ⟨hw,ud w⟩
      exact gY oK ho fuel N fh a w hc hi (hs w) hM (mZ hs fuel _ _ _ (nx hM ER hv hk))
     ·cases ku:So ρS s o.op
      ·obtain⟨v,y,hk,hv,jg⟩:=VU R he hg;rw[wH]at jg;simp only[ku,cond_false]at hk;have hs:tM P ops.toArray o y a w:= .inl ⟨hw,jg⟩;refine gY oK ho fuel N fh a w hc hi hs hM (nx ?_ (.cons ?_ ER) hv hk)
       ·intro m hm;rcases mf.1 hm with rfl|hm
        ·exact hs
        ·exact hM m hm
       ·intro E' s' w' jh R' ku;obtain⟨v',y',qx,I4,JM⟩:=VU R' (he.mono jh) ku;rw[wH]at JM;have:=z8r jh qx hv I4;subst this;exact .inl ⟨hw,JM⟩
      ·obtain⟨v,y,hk,hv,jg⟩:=yFl R he ku hg;rw[wH]at jg;simp only[ku,cond_true]at hk;have hs:tM P ops.toArray o y a w:= .inl ⟨hw,jg E s w (Ev.le.refl _) R⟩;refine gY oK ho fuel N fh a w hc hi hs hM (nx ?_ (.cons ?_ ER) hv hk)
       ·intro m hm;rcases mf.1 hm with rfl|hm
        ·exact hs
        ·exact hM m hm
       ·intro E' s' w' jh R' _;exact .inl ⟨hw,jg E' s' w' jh R'⟩
    ·rw[ej hw]at hg;have hs:∀w,tM P ops.toArray o af a w:=λw=> .inr ⟨by simpa using hw,rfl⟩
     exact gY oK ho fuel N fh a w hc hi (hs w) hM (mZ hs fuel _ _ _ (nx hM ER (X1 E) hg))
   ·refine⟨λh0=>absurd h0 je,λi hi=> ?_⟩;have h1:=VD h i (by rw[<- hr];exact hi);split at h1<;>first|exact h1.elim|skip
    rename_i o ho;have yw:∀v,yM (a.put o.dst v)=Cv.put (yM a) o.dst v:=λv=>pg.lu (mO hf ho) v
    have hg:=sN he h1;unfold DT;simp only[AF,ho];by_cases hw:cr o (yielded ops.toArray a.tmps)=bu
    ·rw[fc hw]at hg ⊢;cases yd:RP o.op with
     |true=>
      obtain⟨t,x,lo,Nh,oz⟩:=z6a yd;obtain⟨y,GJ,E',v,s',jh,R',hv,hh⟩:=z0e R he oz hg;rw[wH]at GJ;rw[yd]at hh;have CH:Ek (jC (u0 ops []) i N) w:=λm hm=>hM m (by simp only[jC,ve]at hm;exact hm.1)
      exact j7 (GJ w) ⟨CH,ih _ _ _ _ _ _ _ _ (uM hc hi) CH (ER.oI.mono jh) (pg.put (mO hf ho) _) (hle.trans jh) R' (by rw[yw];exact(he.mono jh).put _ hv) hh⟩
     |false=>
     have Bi:=z0d hH R he hg;rw[wH]at Bi;refine Bi.mono ?_;rintro y w' ⟨E',v,s',jh,R',hv,hh⟩;rw[yd]at hh;obtain⟨CH,hh⟩:=(ER.oI (bf:=u0 ops []) (i:=i)).all jh R' hh;exact⟨CH,ih _ _ _ _ _ _ _ _ (uM hc hi) CH (ER.oI.mono jh) (pg.put (mO hf ho) _) (hle.trans jh) R' (by rw[yw];exact(he.mono jh).put _ hv) hh⟩
    ·rw[ej hw]at hg ⊢;have CH:Ek (jC (u0 ops []) i N) w:=λm hm=>hM m (by simp only[jC,ve]at hm;exact hm.1)
     exact⟨CH,ih _ _ _ _ _ _ _ _ (uM hc hi) CH ER.oI (pg.put (mO hf ho) _) hle R (by rw[yw];exact he.put _ (X1 E)) hg⟩
variable {P:ae} {k:Ko} {L:List HP}
structure gj where
 ι:Type
 du:ι->List (Nat×V)
 rows:ι->List ff
 oI:Nat->Bool:=λ_=>bu
 un:Nat:=0
 oP:ι->List (Nat×V):=λ_=>[]
 lp:ι->List ff:=λ_=>[]
 aam:List (Nat×aa):=[]
 CB:List Nat:=[]
 fr:Nat->Bool:=λ_=>bv
def gj.oX (x:gj):gj:={x with du:=x.oP,rows:=x.lp}
def M3:Code->Nat
 | .region i _ _=>i
 | .seq a _=>M3 a
 | .block _ a=>M3 a
 | .loop a=>M3 a
 | .cond _ a _=>M3 a
 |_=>0
def y8j:Code->Nat
 | .region i _ _=>4*i
 | .cond c a b=>4*M3 (.cond c a b)+1
 | .seq a b=>4*M3 a+2
 | .block id _=>4*id+3
 |_=>0
def yTe (n:Nat):List (Nat×gj)->Option gj
 |[]=>av
 |(m,x)::l=>bif aw m n then au x else yTe n l
def Tx (t:Nat):List (Nat×V)->Option V
 |[]=>av
 |(u,v)::l=>bif aw u t then au v else Tx t l
def NK (ρ:xA):List (Nat×V)->List V
 |[]=>[]
 |(t,_)::l=>ρ t::NK ρ l
def Nv:List (Nat×V)->List V
 |[]=>[]
 |(_,v)::l=>v::Nv l
def TX:ff->Bool
 | .own _ _ _=>bu
 | .Al=>bu
 | .ja _ _=>bu
 | .jt _ _ _ _ _ _=>bu
 |_=>bv
def wF (fr:Nat->Bool) (π:NM):Nat->List ff->NM
 |_,[]=>[]
 |p,o::os=>bif TX o then wF fr π (p+1) os else bif fr p then wF fr π (p+1) os else match z8 p π with
  |some n=>(p,n)::wF fr π (p+1) os
  |none=>wF fr π (p+1) os
def eJ (fr:Nat->Bool) (N:Nat) (π:NM):Nat->List ff->NM
 |_,[]=>[]
 |p,o::os=>bif TX o then(p,N+p)::eJ fr N π (p+1) os else bif fr p then(p,N+p)::eJ fr N π (p+1) os else match z8 p π with
  |some n=>(p,n)::eJ fr N π (p+1) os
  |none=>eJ fr N π (p+1) os
def G2 (N:Nat) (st:NM):Nat->NM
 |0=>[]
 |p+1=>(p,(z8 p st).getD (N+p))::G2 N st p
def Wd {N:Nat} {st:NM} {p q:Nat}:∀{m:Nat},z8 p (G2 N st m)=au q->q=N+p\/z8 p st=au q
 |0,h=>by cases h
 |m+1,h=>by
  simp only[G2,z8]at h;cases hb:aw m p
  ·rw[hb]at h;exact Wd h
  ·rw[hb]at h;have:=iX hb;subst this;simp only[cond_true,cf]at h;cases hs:z8 m st with
   |none=>rw[hs]at h;exact .inl h.symm
   |some n=>rw[hs]at h;exact .inr (by rw[<- h];rfl)
def rQ {fr:Nat->Bool} {π:NM} {p q:Nat}:∀{os:List ff} {p0:Nat},z8 p (wF fr π p0 os)=au q->z8 p π=au q
 |[],p0,h=>by cases h
 |o::os,p0,h=>by
  simp only[wF]at h;cases ho:TX o<;>rw[ho]at h
  ·cases hf:fr p0<;>rw[hf]at h
   ·simp only[cond_false]at h;split at h
    ·rename_i n hn;simp only[z8]at h;cases hb:aw p0 p
     ·rw[hb]at h;exact rQ h
     ·rw[hb]at h;cases h;rw[<- iX hb];exact hn
    ·exact rQ h
   ·exact rQ h
  ·exact rQ h
def Ml {fr:Nat->Bool} {N:Nat} {π:NM} {p q:Nat}:∀{os:List ff} {p0:Nat},z8 p (eJ fr N π p0 os)=au q->q=N+p\/z8 p (wF fr π p0 os)=au q
 |[],p0,h=>by cases h
 |o::os,p0,h=>by
  simp only[eJ,wF]at h ⊢;cases ho:TX o<;>rw[ho]at h
  ·cases hf:fr p0<;>rw[hf]at h
   ·simp only[cond_false]at h ⊢;split at h
    ·rename_i n hn;simp only[z8]at h ⊢;cases hb:aw p0 p
     ·rw[hb]at h;exact Ml h
     ·rw[hb]at h;exact .inr h
    ·exact Ml h
   ·simp only[cond_true,cond_false,z8]at h ⊢;cases hb:aw p0 p
    ·rw[hb]at h;exact Ml h
    ·rw[hb]at h;cases h;left;rw[iX hb]
  ·simp only[cond_true,z8]at h ⊢;cases hb:aw p0 p
   ·rw[hb]at h;exact Ml h
   ·rw[hb]at h;cases h;left;rw[iX hb]
def Mm (uj:NM) (du:List (Nat×V)) (as:List Nat) (ρ:xA):xA:=λt=>
 match Tx t du with
 |some v=>eO uj v
 |none=>bif nZ t as then .top else ρ t
mutual
def Di (N:Nat):V->Bool
 | .nm n _=>ax n N
 | .el n _ _ _=>ax n N
 | .own n=>ax n N
 | .na n _ _=>ax n N
 | .mp n=>ax n N
 | .sub n _=>ax n N
 | .agg l=>IE N l
 | .iW l=>IE N l
 | .fn _ a b=>IE N a && IE N b
 | .zh _ x=>Di N x
 |_=>bu
def IE (N:Nat):List V->Bool
 |[]=>bu
 |v::l=>Di N v && IE N l
end
def ZL (N:Nat):ff->Bool
 | .cells vs _=>IE N vs
 | .vi _ _ _ _ _ _ _ (au m)=>ax m N
 |_=>bu
def NW (N:Nat):List (Nat×ff)->Bool
 |[]=>bu
 |(n,o)::l=>ax n N && ZL N o && NW N l
def kB (oI:Nat->Bool):List (Nat×ff)->List (Nat×ff)
 |[]=>[]
 |(n,o)::l=>bif oI n then(n,o)::kB oI l else kB oI l
def J8:List (Nat×ff)->St->Prop
 |[],_=>True
 |[(n,o)],s=>match s.Ch n with
  |some o'=>o'=o
  |none=>False
 |(n,o)::l,s=>match s.Ch n with
  |some o'=>o'=o/\J8 l (s.del n)
  |none=>False
def NG (N:Nat) (uj:NM) (rows:List ff) (kept:List (Nat×ff)):St:=⟨kD uj 0 rows++kept,N+rows.length⟩
def LY (next:xA->St->Prop) (Q:Exit->xA->St->Prop):Exit->xA->St->Prop
 | .normal,ρ,s=>next ρ s
 |e,ρ,s=>Q e ρ s
def yKd (id:Nat) (Q:Exit->xA->St->Prop):Exit->xA->St->Prop
 | .exit EH,ρ,s=>bif aw EH id then Q .normal ρ s else Q (.exit EH) ρ s
 |e,ρ,s=>Q e ρ s
def L0 (x:gj) (i:x.ι) (π0:NM) (ρ:xA) (s:St) (K:NM->St->Prop):Prop:=
 Dr (Nv (x.du i)) (NK ρ (x.du i)) π0 s λπ s=>Hm 0 (x.rows i) π s λπ s=>bif sF (x.rows i).length π then K π s else False
def yIy (f:(Exit->xA->St->Prop)->xA->St->Prop) (Q:Exit->xA->St->Prop):Nat->xA->St->Prop
 |0,_,_=>False
 |n+1,ρ,s=>f (LY (yIy f Q n) Q) ρ s
def NC (n:Nat) (s:St):St:=
 match s.get n with
 |some (.qq _ m ix x)=>bif ay 1 m then⟨(n,(J' (s.del n) n m (ix x)).1)::(J' (s.del n) n m (ix x)).2.rows,(J' (s.del n) n m (ix x)).2.nx⟩else s
 |_=>s
def RR:List Nat->St->St
 |[],s=>s
 |n::l,s=>RR l (NC n s)
def zUk {w:ab} {E:Ev} {s:St} (R:Rel k L E s w) (n:Nat):∃E',E.le E'/\Rel k L E' (NC n s) w:=by
 unfold NC;split
 ·rename_i T m ix x hg;cases hb:ay 1 m
  ·exact⟨E,Ev.le.refl _,R⟩
  ·obtain⟨E',h1,h2⟩:=(R.take hg).unfold (BA hb);refine⟨E',h1,⟨h2.nx,?_⟩⟩;have:=h2.out;simpa using this
 ·exact⟨E,Ev.le.refl _,R⟩
def Yq {w:ab}:∀(l:List Nat) {E:Ev} {s:St} (R:Rel k L E s w),∃E',E.le E'/\Rel k L E' (RR l s) w
 |[],E,s,R=>⟨E,Ev.le.refl _,R⟩
 |n::l,E,s,R=>by
  obtain⟨E1,h1,h2⟩:=zUk R n;obtain⟨E2,h3,h4⟩:=Yq l h2;exact⟨E2,h1.trans h3,h4⟩
def Y9:List Nat->xA->St->St
 |[],_,s=>s
 |t::ts,ρ,s=>Y9 ts ρ (match ρ t with
  | .nm n 0=>NC n s
  |_=>s)
def zVh {w:ab} {ρ:xA}:∀(l:List Nat) {E:Ev} {s:St} (R:Rel k L E s w),∃E',E.le E'/\Rel k L E' (Y9 l ρ s) w
 |[],E,s,R=>⟨E,Ev.le.refl _,R⟩
 |t::ts,E,s,R=>by
  obtain⟨E1,h1,h2⟩:∃E',E.le E'/\Rel k L E' (match ρ t with
   | .nm n 0=>NC n s
   |_=>s) w:=by
   split
   ·exact zUk R _
   ·exact⟨E,Ev.le.refl _,R⟩
  obtain⟨E2,h3,h4⟩:=zVh ts h2;exact⟨E2,h1.trans h3,h4⟩
def y3t (t:Nat) (x:aa) (ρ:xA) (K:xA->Prop):Prop:=match ρ t with
 | .d (.v y)=>y=x/\K (λu=>bif aw u t then .d (.v x)else ρ u)
 |_=>False
def YR:List (Nat×aa)->xA->(xA->Prop)->Prop
 |[],_,_=>False
 |(t,x)::l,ρ,K=>y3t t x ρ K\/YR l ρ K
def ml (P:ae) (H:AY) (J:List (Nat×gj)):List gj->Code->(Exit->xA->St->Prop)->xA->St->Prop
 |_,.skip,Q,ρ,s=>Q .normal ρ s
 |an,.seq a b,Q,ρ,s=>match yTe (y8j a) J with
  |none=>ml P H J (an.take (nL a)) a (LY (λρ s=>ml P H J (an.drop (nL a)) b Q ρ s) Q) ρ s
  |some x=>match x.CB with
   |t0::ts=>ml P H J (an.take (nL a)) a (LY (λρ s=>ml P H J (an.drop (nL a)) b Q ρ (Y9 (t0::ts) ρ s)) Q) ρ s
   |[]=>match x.aam with
   |l0::ls=>ml P H J (an.take (nL a)) a (LY (λρ s=>YR (l0::ls) ρ λρ=>ml P H J (an.drop (nL a)) b Q ρ s) Q) ρ s
   |[]=>∃i0,L0 x.oX i0 [] ρ s λπ s1=>∃(I:x.ι->Prop),(bif NW s1.nx (kB x.oI s1.rows)then
    ml P H J (an.take (nL a)) a (LY (λρ' s'=>∃i',L0 x i' (wF x.fr π 0 (x.lp i0)) ρ' s' λ_ s2=>I i'/\J8 (kB x.oI s1.rows) s2) Q)
     (Mm (G2 s1.nx (wF x.fr π 0 (x.lp i0)) (x.lp i0).length) (x.oP i0) [] ρ) (NG s1.nx (G2 s1.nx (wF x.fr π 0 (x.lp i0)) (x.lp i0).length) (x.lp i0) (kB x.oI s1.rows))/\
    ∀i,I i->ml P H J (an.drop (nL a)) b Q (Mm (G2 s1.nx (wF x.fr π 0 (x.lp i0)) (x.rows i).length) (x.du i) (uc a) ρ) (NG s1.nx (G2 s1.nx (wF x.fr π 0 (x.lp i0)) (x.rows i).length) (x.rows i) (kB x.oI s1.rows))else False)
 |an,.cond c a b,Q,ρ,s=>
  match lh ρ c with
  | .d (.v (.bool t))=>dp t (ml P H J (an.take (nL a)) a Q ρ s) (ml P H J (an.drop (nL a)) b Q ρ s)
  |_=>False
 |an,.block id a,Q,ρ,s=>ml P H J an a (yKd id Q) ρ s
 |an,.loop a,Q,ρ,s=>
  match an with
  |[]=>False
  |x::rest=>bif ax 0 x.un then yIy (λQ ρ s=>ml P H J rest a Q ρ s) Q x.un ρ s else ∃i0,L0 x i0 [] ρ s λπ s1=>∃(I:x.ι->Prop) (μ:x.ι->Nat),I i0/\(bif NW s1.nx (kB x.oI s1.rows)then
    ∀i,I i->ml P H J rest a (LY (λρ' s'=>∃i',L0 x i' (wF x.fr π 0 (x.rows i0)) ρ' s' λ_ s2=>I i'/\μ i'<μ i/\J8 (kB x.oI s1.rows) s2) Q)
     (Mm (eJ x.fr s1.nx π 0 (x.rows i0)) (x.du i) (uc a) ρ) (NG s1.nx (eJ x.fr s1.nx π 0 (x.rows i0)) (x.rows i) (kB x.oI s1.rows))else False)
 |_,.exit id,Q,ρ,s=>Q (.exit id) ρ s
 |_,.ret,Q,ρ,s=>Q .ret ρ s
 |_,.region _ ops d,Q,ρ,s=>bif d then lC P H ops.toList (u0 ops.toList []) ops.toList.length (cn ops.toList.length bv) [] ρ s (Q .normal)
    else Oe P H ops.toList ops.toList ρ s (Q .normal)
 |_,_,_,_,_=>False
def TZ (k:Ko) (L:List HP) (n:Nat) (A:Nat->Bool) (e0:Env) (E0:Ev) (Q:Exit->xA->St->Prop):Exit->Act->ab->Prop:=λe a w=>
 Good n A e0 a/\∃E ρS s,E0.le E/\Rel k L E s w/\ki E ρS (yM a)/\Q e ρS s
mutual
theorem VR.low {F:PH} {fv ox:List Hd} {N:Nat} (h:∀n,n<N->∀hd,fv[n]? =au hd->ox[n]? =au hd):∀{v:V} {y:aa},Di N v=bu->VR ⟨F,fv⟩ v y->VR ⟨F,ox⟩ v y
 | .top,y,hl,e=>by simp only[VR]
 | .d d,y,hl,e=>by simpa only[VR]using e
 | .nm n o,y,hl,e=>by
   simp only[Di,xv]at hl;simp only[VR]at e ⊢;obtain⟨b,oo,l,h1,h2⟩:=e;exact⟨b,oo,l,h n hl _ h1,h2⟩
 | .el n sz i f,y,hl,e=>by
   simp only[Di,xv]at hl;simp only[VR]at e ⊢;obtain⟨b,oo,m,c,l,h1,h2⟩:=e;exact⟨b,oo,m,c,l,h n hl _ h1,h2⟩
 | .re sz eg i f,y,hl,e=>by simpa only[VR]using e
 | .na n o i,y,hl,e=>by
   simp only[Di,xv]at hl;simp only[VR]at e ⊢;obtain⟨b,oo,l,h1,h2⟩:=e;exact⟨b,oo,l,h n hl _ h1,h2⟩
 | .own n,y,hl,e=>by
   simp only[Di,xv]at hl;simp only[VR]at e ⊢;obtain⟨l,h1,h2⟩:=e;exact⟨l,h n hl _ h1,h2⟩
 | .mp n,y,hl,e=>by
   simp only[Di,xv]at hl;simp only[VR]at e ⊢;obtain⟨b,l,h1,h2⟩:=e;exact⟨b,l,h n hl _ h1,h2⟩
 | .sub n i,y,hl,e=>by
   simp only[Di,xv]at hl;simp only[VR]at e ⊢;obtain⟨hd,l,b,oo,h1,h2⟩:=e;exact⟨hd,l,b,oo,h n hl _ h1,h2⟩
 | .agg l,y,hl,e=>by
   simp only[Di]at hl;simp only[VR]at e ⊢;obtain⟨ys,h1,h2⟩:=e;exact⟨ys,h1,gp.low h hl h2⟩
 | .iW l,y,hl,e=>by
   simp only[Di]at hl;simp only[VR]at e ⊢;obtain⟨ys,h1,h2⟩:=e;exact⟨ys,h1,gp.low h hl h2⟩
 | .fn f a b,y,hl,e=>by
   simp only[Di,kx]at hl;simp only[VR]at e ⊢;obtain⟨as,bs,h1,h2,h3⟩:=e;exact⟨as,bs,h1,gp.low h hl.1 h2,gp.low h hl.2 h3⟩
 | .zh t x,y,hl,e=>by
   simp only[Di]at hl;simp only[VR]at e ⊢;obtain⟨z,h1,h2⟩:=e;exact⟨z,h1,VR.low h hl h2⟩
theorem gp.low {F:PH} {fv ox:List Hd} {N:Nat} (h:∀n,n<N->∀hd,fv[n]? =au hd->ox[n]? =au hd):∀{vs:List V} {l:List aa},IE N vs=bu->gp ⟨F,fv⟩ vs l->gp ⟨F,ox⟩ vs l
 |[],l,hl,e=>by simpa only[gp]using e
 |v::vs,l,hl,e=>by
  simp only[IE,kx]at hl;simp only[gp]at e ⊢;obtain⟨x,xs,h1,h2,h3⟩:=e;exact⟨x,xs,h1,VR.low h hl.1 h2,gp.low h hl.2 h3⟩
end
def fi.low {F:PH} {fv ox:List Hd} {N:Nat} (h:∀n,n<N->∀hd,fv[n]? =au hd->ox[n]? =au hd) {o:ff} (hl:ZL N o=bu) {hd:Hd} {x:PH} (e:fi F o fv hd x):fi F o ox hd x:=by
 cases o<;>first|exact e.fv rfl|skip
 ·simp only[fi]at e ⊢;obtain⟨b,l,h1,h2,h3⟩:=e;exact⟨b,l,h1,h2.low h hl,h3⟩
 ·rename_i q t sz eg i f b m;simp only[fi]at e ⊢;obtain⟨a,k,ys,xs,h1,h2,h3,h4,h5⟩:=e;refine⟨a,k,ys,xs,h1,h2,h3,?_,h5⟩;cases m with
  |none=>exact h4
  |some m=>
   simp only[ZL,xv]at hl;obtain⟨y,l,e1,e2⟩:=h4;exact⟨y,l,h m hl _ e1,e2⟩
def zTj {E:Ev} {ρS:xA} {ρ:Env} (he:ki E ρS ρ):∀l:List (Nat×V),gp E (NK ρS l) (l.map λp=>ρ p.1)
 |[]=>by simp[NK,gp]
 |(t,v)::l=>by simp only[NK,jo,gp];exact⟨_,_,rfl,he t,zTj he l⟩
def zZw {F:PH} {tl:List Hd} {ρ:Env}:∀{l:List (Nat×V)},gp ⟨F,tl⟩ (Nv l) (l.map λp=>ρ p.1)->∀{t:Nat} {v:V},Tx t l=au v->VR ⟨F,tl⟩ v (ρ t)
 |[],_,t,v,h=>by cases h
 |(u,x)::l,hv,t,v,h=>by
  simp only[Nv,jo,gp]at hv;obtain⟨y,ys,e,h1,h2⟩:=hv;cases e;simp only[Tx]at h;cases hb:aw u t
  ·rw[hb]at h;exact zZw h2 h
  ·rw[hb]at h;cases h;rw[<- iX hb];exact h1
def Vp {w:ab} {E3 E4:Ev} (hF:E3.F=E4.F) {N:Nat} (Ce:∀n,n<N->∀hd,E3.fv[n]? =au hd->E4.fv[n]? =au hd):∀{kept:List (Nat×ff)} {s:St} {M:List HP},J8 kept s->NW N kept=bu->
 Hp k w (s.rows.map (gu E3)++M)->Hp k w (kept.map (gu E4)++M)
 |[],s,M,_,_,H=>by
  have:∀(l:List (Nat×ff)),Hp k w (l.map (gu E3)++M)->Hp k w M:=by
   intro l
   induction l with
   |nil=>intro H;exact H
   |cons a l ih=>intro H;exact ih H.drop
  exact this _ H
 |(n,o)::kept,s,M,hk,hl,H=>by
  simp only[NW,kx,xv]at hl;have jv:s.get n=au o/\J8 kept (s.del n):=by
   cases kept with
   |nil=>
    simp only[J8]at hk;split at hk<;>first|exact hk.elim|skip
    rename_i o' ho;subst hk;exact⟨(S' ho).1,trivial⟩
   |cons a l=>
    simp only[J8]at hk;split at hk<;>first|exact hk.elim|skip
    rename_i o' ho;obtain⟨rfl,hk⟩:=hk;exact⟨(S' ho).1,hk⟩
  have H1:Hp k w (gu E3 (n,o)::((s.del n).rows.map (gu E3)++M)):=by
   refine H.perm ?_;have:=((vQ jv.1).1.map (gu E3)).append_right M;simpa[St.del]using this
  have H2:Hp k w ((s.del n).rows.map (gu E3)++(gu E3 (n,o)::M)):=H1.perm mg.symm;have H3:=Vp hF Ce jv.2 hl.2 H2;refine(H3.perm mg).imp λx hx=> ?_
  rcases hx with⟨e,e2⟩|⟨hd,h1,h2⟩
  ·exact .inl ⟨e,e2⟩
  ·exact .inr ⟨hd,Ce n hl.1.1 _ h1,hF▸h2.low Ce hl.1.2⟩
def SJ {w:ab} {x:gj} {i:x.ι} {π0:NM} {ρS:xA} {ρ:Env} {s:St} {K:NM->St->Prop} {E:Ev} (h:L0 x i π0 ρS s K) (R:Rel k L E s w) (he:ki E ρS ρ) (OT:Af π0 E.fv):
 ∃E3 s3 π3,E.le E3/\K π3 s3/\Ext π0 π3/\Af π3 E3.fv/\E3.fv.length=s3.nx/\∀(E1:Ev) (kept:List (Nat×ff)) (N:Nat) (ρ0:xA) (as:List Nat) (uj:NM),(∀p q,z8 p uj=au q->q=N+p\/(z8 p π3=au q/\q<N))->E1.fv.length=N->wv E1.F E3.F->E1.fv<+:E3.fv->(∀E4:Ev,E3.F=E4.F->E1.le E4->(∀n,n<N->∀hd,E3.fv[n]? =au hd->E4.fv[n]? =au hd)->∀M,Hp k w (s3.rows.map (gu E3)++M)->Hp k w (kept.map (gu E4)++M))->(∀t,nZ t as=bv->VR E1 (ρ0 t) (ρ t))->
  ∃E4,E1.le E4/\Rel k L E4 (NG N uj (x.rows i) kept) w/\ki E4 (Mm uj (x.du i) as ρ0) ρ:=by
 unfold L0 at h;obtain⟨E2,π2,s2,q1,q2,q3⟩:=lT h R OT (zTj he _);obtain⟨E3,π3,s3,r1,r2⟩:=RD q3 q1.rel q1.wf;obtain⟨gr,hk⟩:=zK r2;have gr:=aS gr;refine⟨E3,s3,π3,q1.le.trans r1.le,hk,q1.ext.trans r1.ext,r1.wf,r1.rel.nx,?_⟩;intro E1 kept N ρ0 as uj hre hN hF Lc Bh DH
 let m:=(x.rows i).length
 let tl:List Hd:=(az m).map λp=>(E3.fv[(z8 p π3).getD 0]?).getD (af,[])
 have sc:Loc π3 E3.fv tl:=by
  intro p n hp;obtain⟨hd,h'⟩:=r1.wf p n hp;refine⟨hd,h',?_⟩;show((az m).map _)[p]? =_;rw[uq,KD (gr p n hp)];simp only[vw,hp,zf,h']
 have Ho:tl.length=m:=by simp[tl]
 let E4:Ev:=⟨E3.F,E1.fv++tl⟩
 have qu:E1.le E4:=⟨hF,IT _ _⟩
 have JN:∀n,n<N->∀hd,E3.fv[n]? =au hd->E4.fv[n]? =au hd:=by
  intro n hn hd e;have h1:E1.fv[n]? =au hd:=by
   rw[vd (by omega)];have:E3.fv[n]? =au (E1.fv[n]'(by omega)):=Sn Lc (vd (by omega));rw[this]at e;exact e
  exact qu.get h1
 have An:∀p n hd,z8 p uj=au n->tl[p]? =au hd->E4.fv[n]? =au hd:=by
  intro p n hd hp ht;rcases hre p n hp with rfl|⟨h1,h2⟩
  ·show(E1.fv++tl)[N+p]? =au hd;rw[<- hN,Cy (by omega),show E1.fv.length+p-E1.fv.length=p by omega];exact ht
  ·obtain⟨oE,e1,e2⟩:=sc p n h1;rw[ht]at e2;cases e2;exact JN n h2 _ e1
 refine⟨E4,qu,⟨by show(E1.fv++tl).length=N+m;rw[im,Ho,hN],?_⟩,?_⟩
 ·have H:=r1.rel.As;have H1:=wO (g:=gu ⟨E3.F,tl⟩) (λr y hy=>by
   rcases hy with⟨e1,e2⟩|⟨n,h1,h2⟩
   ·exact .inl ⟨e1,e2⟩
   ·right;obtain⟨hd,h3,h4⟩:=h2 E3 π3 (Ev.le.refl _) (Ext.refl _) tl sc;obtain⟨oE,h5,h6⟩:=sc _ _ h1;rw[h3]at h5;cases h5;exact⟨hd,h6,h4⟩) H
  have H2:=nT (E:=⟨E3.F,tl⟩) (E2:=E4) rfl An H1;have H3:Hp k w (s3.rows.map (gu E3)++((kD uj 0 (x.rows i)).map (gu E4)++fz E3.F::L)):=by
   refine H2.perm ?_;rw[<- jd,<- jd];exact AR.append_right _
  have H4:=Bh E4 rfl qu JN _ H3;refine H4.perm ?_;show(kept.map (gu E4)++((kD uj 0 (x.rows i)).map (gu E4)++fz E3.F::L)).Perm ((kD uj 0 (x.rows i)++kept).map (gu E4)++fz E4.F::L);rw[<- jd,jk];exact AR.append_right _
 ·intro t;have yd:gp ⟨E3.F,tl⟩ (Nv (x.du i)) ((x.du i).map λp=>ρ p.1):=q2 E3 π3 r1.le r1.ext tl sc;unfold Mm;split
  ·rename_i v hv;exact(zZw yd hv).uj An
  ·cases hb:nZ t as
   ·exact(DH t hb).mono qu
   ·simp only[cond_true,VR]
def SZ {w:ab} {E:Ev} {oI:Nat->Bool}:∀{l:List (Nat×ff)} {M:List HP},Hp k w (l.map (gu E)++M)->Hp k w ((kB oI l).map (gu E)++M)
 |[],M,H=>H
 |(n,o)::l,M,H=>by
  simp only[kB];cases oI n
  ·exact SZ H.drop
  ·have H1:Hp k w (l.map (gu E)++(gu E (n,o)::M)):=H.perm mg.symm;exact(SZ H1).perm mg
def zTr {E:Ev} {env:Env} {K:xA->Prop}:∀{l:List (Nat×aa)} {ρ:xA},YR l ρ K->ki E ρ env->∃ρ',ki E ρ' env/\K ρ'
 |[],ρ,h,_=>h.elim
 |(t,x)::l,ρ,h,he=>by
  rcases h with h|h
  ·unfold y3t at h;split at h<;>first|exact h.elim|skip
   rename_i y hy;obtain⟨rfl,hk⟩:=h;refine⟨_,λu=> ?_,hk⟩;have:=he u;cases hb:aw u t
   ·exact this
   ·rw[iX hb]at this ⊢;rw[hy]at this;exact this
  ·exact zTr h he
def z1t {H:AY} (hH:HE P H) (hm:P.follows .mixedOrders=bu) {J:List (Nat×gj)} {n:Nat}:∀(c:Code) (an:List gj) (Q:Exit->xA->St->Prop) (A:Nat->Bool) (e0:Env) (E0 E:Ev) (a:Act) (w:ab) (ρS:xA) (s:St),
 wm n c=bu->(∀t∈uc c,A t=bu)->Good n A e0 a->E0.le E->Rel k L E s w->ki E ρS (yM a)->ml P H J an c Q ρS s->c.wp P (TZ k L n A e0 E0 Q) a w:=by
 intro c
 induction c with
 |skip=>intro an Q A e0 E0 E a w ρS s _ _ hg hle R he h;exact wp_skip ⟨hg,E,ρS,s,hle,R,he,h⟩
 |region id ops d=>
  intro an Q A e0 E0 E a w ρS s hc hA hg hle R he h;simp only[wm,kx]at hc;have xd:=z1m (A:=A) hc.1 hA;cases d
  ·refine wp_region_list ?_;exact zLo (Q:=TZ k L n A e0 E0 Q) (E0:=E0) (K:=Q .normal) hH (λa w E ρS s hg hle R he h=>⟨hg,E,ρS,s,hle,R,he,h⟩) ops.toList a w E ρS s xd hg hle R he h
  ·refine wp_region_any hm ?_;have oK:sR ops.toList (u0 ops.toList [])=bu:=hc.2;have qy:ki E ρS (yM a):=he;have R':Rel k L E s w.drew:=⟨R.nx,R.hp.drew⟩
   refine gG (Q:=λa w=>TZ k L n A e0 E0 Q .normal a w) (λ_ _ h=>h) ops.size _ _ _ (M:=[]) (bf:=u0 ops.toList []) ?_;have Az:tW ops.toList (qH (cn ops.toList.length bv)):=by
    intro i o ho hi;exfalso;unfold qH at hi;simp[BV]at hi;rw[Ua]at hi;split at hi<;>simp at hi
   have:=z0z (P:=P) (K:=Q .normal) (E0:=E0) (Q:=λa w=>TZ k L n A e0 E0 Q .normal a w) hH oK xd (λa w E ρS s hg hle R he h=>⟨hg,E,ρS,s,hle,R,he,h⟩) ops.toList.length _ [] [] a _ E ρS s Az (λm hm=>by cases hm) .nil hg hle R' qy h;simpa using this
 |seq x y D5 D4=>
  intro an Q A e0 E0 E a w ρS s hc hA hg hle R he h;simp only[wm,kx,uc,pn]at hc hA;simp only[ml]at h;split at h
  ·refine wp_seq (ak (D5 _ _ A e0 E0 E a w ρS s hc.1 (λt ht=>hA t (.inl ht)) hg hle R he h) ?_);rintro e a' w' ⟨py,E',ρ',s',jh,R',qy,h'⟩;cases e<;>first|exact D4 _ _ A e0 E0 E' a' w' ρ' s' hc.2 (λt ht=>hA t (.inr ht)) py jh R' qy h'|exact⟨py,E',ρ',s',jh,R',qy,h'⟩
  rename_i jn hjn;split at h
  ·rename_i t0 ts hts;refine wp_seq (ak (D5 _ _ A e0 E0 E a w ρS s hc.1 (λt ht=>hA t (.inl ht)) hg hle R he h) ?_);rintro e a' w' ⟨py,E',ρ',s',jh,R',qy,h'⟩;cases e<;>first|exact⟨py,E',ρ',s',jh,R',qy,h'⟩|skip
   obtain⟨E2,tg,R2⟩:=zVh (ρ:=ρ') (t0::ts) R';exact D4 _ _ A e0 E0 E2 a' w' ρ' _ hc.2 (λt ht=>hA t (.inr ht)) py (jh.trans tg) R2 (qy.mono tg) h'
  split at h
  ·rename_i l0 ls O7;refine wp_seq (ak (D5 _ _ A e0 E0 E a w ρS s hc.1 (λt ht=>hA t (.inl ht)) hg hle R he h) ?_);rintro e a' w' ⟨py,E',ρ',s',jh,R',qy,h'⟩;cases e<;>first|exact⟨py,E',ρ',s',jh,R',qy,h'⟩|skip
   obtain⟨ρ2,Pl,h2⟩:=zTr h' qy;exact D4 _ _ A e0 E0 E' a' w' ρ2 s' hc.2 (λt ht=>hA t (.inr ht)) py jh R' Pl h2
  ·obtain⟨i0,h⟩:=h;obtain⟨E1,s1,π1,wb,⟨I,tn⟩,_,EY,BY,hmk⟩:=SJ (x:=jn.oX) h R he (λp n e=>by cases e);obtain⟨Ce,Ri,Bf⟩:=zK tn;have Cd:∀p q,z8 p (wF jn.fr π1 0 (jn.lp i0))=au q->z8 p π1=au q/\q<s1.nx:=λp q e=>by
    have h1:=rQ e;obtain⟨hd,h2⟩:=EY p q h1;exact⟨h1,by rw[<- BY];exact(jl.1 h2).1⟩
   have CU:∀t,nZ t []=bv->VR E1 (ρS t) (yM a t):=λt _=>(he t).mono wb
   obtain⟨E2,tg,R2,Pl⟩:=hmk E1 (kB jn.oI s1.rows) s1.nx ρS [] (G2 s1.nx (wF jn.fr π1 0 (jn.lp i0)) (jn.lp i0).length) (λp q e=>(Wd e).imp_right (Cd p q)) BY (wv.refl _) (IN _) (λE4 _ qu _ M H=>wO (λr y=>gu.mono qu r) (SZ H)) CU;have Pg:Good n (λt=>A t && nZ t (uc x)) (yM a) a:=⟨hg.size,hg.defers,λ_ _=>rfl⟩
   refine wp_seq (ak (D5 _ _ (λt=>A t && nZ t (uc x)) (yM a) E2 E2 a w _ _ hc.1 (λt ht=>by rw[hA t (.inl ht),rl.2 ht];rfl) Pg (Ev.le.refl _) R2 Pl Ri) ?_);rintro e a2 w2 ⟨yp,E3,ρ3,s3,Ap,R3,Pk,h2⟩;have Jd:Good n A e0 a2:=⟨yp.size,yp.defers,λt ht=>by rw[yp.same t (by simp[ht]),hg.same t ht]⟩
   have Fc:E0.le E3:=hle.trans (wb.trans (tg.trans Ap));cases e<;>first|exact⟨Jd,E3,ρ3,s3,Fc,R3,Pk,h2⟩|skip
   obtain⟨i',h2⟩:=h2;have Uw:Af (wF jn.fr π1 0 (jn.lp i0)) E3.fv:=λp q e=>by
    obtain⟨hd,h2⟩:=EY p q (Cd p q e).1;exact⟨hd,(tg.trans Ap).get h2⟩
   obtain⟨E4,s4,π4,qu,⟨Fg,Bh⟩,Fj,_,hn4,Lg⟩:=SJ h2 R3 Pk Uw;have CT:∀t,nZ t (uc x)=bv->VR E1 (ρS t) (yM a2 t):=λt ht=>by rw[yp.same t (by simp[ht])];exact(he t).mono wb
   obtain⟨E5,Li,R5,he5⟩:=Lg E1 (kB jn.oI s1.rows) s1.nx ρS (uc x) (G2 s1.nx (wF jn.fr π1 0 (jn.lp i0)) (jn.rows i').length) (λp q e=>(Wd e).imp_right λh=>⟨Fj p q h,(Cd p q h).2⟩) BY (tg.trans (Ap.trans qu)).1 (tg.trans (Ap.trans qu)).2
    (λE6 hF _ hl M H=>Vp (E3:=E4) (E4:=E6) hF hl Bh Ce H) CT
   exact D4 _ _ A e0 E0 E5 a2 w2 _ _ hc.2 (λt ht=>hA t (.inr ht)) Jd (hle.trans (wb.trans Li)) R5 he5 (Bf i' Fg)
 |cond c x y D5 D4=>
  intro an Q A e0 E0 E a w ρS s hc hA hg hle R he h;simp only[wm,kx,uc,pn]at hc hA;simp only[ml]at h;split at h<;>first|exact h.elim|skip
  rename_i t ht;have hv:=he.ev c;rw[ht]at hv;simp only[VR,DR]at hv;have GC:=hv.1;rw[wH]at GC;refine wp_cond_split GC (λe=> ?_) (λe=> ?_)
  ·subst e;exact D5 _ _ A e0 E0 E a w ρS s hc.1 (λt ht=>hA t (.inl ht)) hg hle R he h
  ·subst e;exact D4 _ _ A e0 E0 E a w ρS s hc.2 (λt ht=>hA t (.inr ht)) hg hle R he h
 |block id x ih=>
  intro an Q A e0 E0 E a w ρS s hc hA hg hle R he h;refine wp_block (ak (ih an _ A e0 E0 E a w ρS s hc hA hg hle R he h) ?_);rintro e a' w' ⟨py,E',ρ',s',jh,R',qy,h'⟩;cases e<;>first|exact⟨py,E',ρ',s',jh,R',qy,h'⟩|skip
  rename_i EH;simp only[Exit.inBlock];simp only[yKd]at h';split
  ·rename_i heq;subst heq;rw[Nat.beq_refl]at h';exact⟨py,E',ρ',s',jh,R',qy,h'⟩
  ·rename_i je;have hb:aw EH id=bv:=by
    cases hb:aw EH id with
    |false=>rfl
    |true=>exact absurd (iX hb) je
   rw[hb]at h';exact⟨py,E',ρ',s',jh,R',qy,h'⟩
 |loop x ih=>
  intro an Q A e0 E0 E a w ρS s hc hA hg hle R he h;cases an with
  |nil=>exact h.elim
  |cons an rest=>
   have hh:=dB h;clear h;rcases hh with⟨_,h⟩|⟨_,h⟩
   ·refine wp_loop_rounds an.un ?_;revert h;generalize an.un=m;intro h
    induction m generalizing a w E ρS s with
    |zero=>exact h.elim
    |succ m ihm=>
     rw[rounds_succ];simp only[yIy]at h;refine ak (ih rest _ A e0 E0 E a w ρS s hc hA hg hle R he h) ?_;rintro e a' w' ⟨py,E',ρ',s',jh,R',qy,h'⟩;cases e<;>first|exact ihm E' a' w' ρ' s' py jh R' qy h'|exact⟨py,E',ρ',s',jh,R',qy,h'⟩
   obtain⟨i0,h⟩:=h;obtain⟨E1,s1,π1,wb,⟨I,μ,Rb,tn⟩,_,EY,BY,hmk⟩:=SJ h R he (λp n e=>by cases e);obtain⟨Ce,tn⟩:=zK tn;have Cd:∀p q,z8 p (wF an.fr π1 0 (an.rows i0))=au q->z8 p π1=au q/\q<s1.nx:=λp q e=>by
    have h1:=rQ e;obtain⟨hd,h2⟩:=EY p q h1;exact⟨h1,by rw[<- BY];exact(jl.1 h2).1⟩
   have CU:∀t,nZ t (uc x)=bv->VR E1 (ρS t) (yM a t):=λt _=>(he t).mono wb
   obtain⟨E2,tg,R2,Pl⟩:=hmk E1 (kB an.oI s1.rows) s1.nx ρS (uc x) (eJ an.fr s1.nx π1 0 (an.rows i0)) (λp q e=>(Ml e).imp_right (Cd p q)) BY (wv.refl _) (IN _) (λE4 _ qu _ M H=>wO (λr y=>gu.mono qu r) (SZ H)) CU;refine wp_loop_ghost (λm a' w'=>Good n A e0 a'/\(∀t,nZ t (uc x)=bv->yM a' t=yM a t)/\∃i E',E1.le E'/\I i/\Rel k L E' (NG s1.nx (eJ an.fr s1.nx π1 0 (an.rows i0)) (an.rows i) (kB an.oI s1.rows)) w'/\
    ki E' (Mm (eJ an.fr s1.nx π1 0 (an.rows i0)) (an.du i) (uc x) ρS) (yM a')/\μ i=m) (μ i0) ⟨hg,λ_ _=>rfl,i0,E2,tg,Rb,R2,Pl,rfl⟩ ?_
   rintro m a' w' ⟨py,DH,i,E',jh,hinv,R',qy,rfl⟩;have h1:=tn i hinv;have Pg:Good n (λt=>A t && nZ t (uc x)) (yM a') a':=⟨py.size,py.defers,λ_ _=>rfl⟩
   refine ak (ih rest _ (λt=>A t && nZ t (uc x)) (yM a') E' E' a' w' _ _ hc (λt ht=>by rw[hA t ht,rl.2 ht];rfl) Pg (Ev.le.refl _) R' qy h1) ?_;rintro e a2 w2 ⟨yp,E3,ρ3,s3,Ap,R3,Pk,h2⟩;have Jd:Good n A e0 a2:=⟨yp.size,yp.defers,λt ht=>by rw[yp.same t (by simp[ht]),py.same t ht]⟩
   have Fc:E0.le E3:=hle.trans (wb.trans (jh.trans Ap));cases e<;>first|exact⟨Jd,E3,ρ3,s3,Fc,R3,Pk,h2⟩|skip
   obtain⟨i',h2⟩:=h2;have Uw:Af (wF an.fr π1 0 (an.rows i0)) E3.fv:=λp q e=>by
    obtain⟨hd,h2⟩:=EY p q (Cd p q e).1;exact⟨hd,(jh.trans Ap).get h2⟩
   obtain⟨E4,s4,π4,qu,⟨Fg,hμ,Bh⟩,Fj,_,hn4,Lg⟩:=SJ h2 R3 Pk Uw;have CT:∀t,nZ t (uc x)=bv->yM a2 t=yM a t:=λt ht=>by rw[yp.same t (by simp[ht]),DH t ht]
   obtain⟨E5,Li,R5,he5⟩:=Lg E1 (kB an.oI s1.rows) s1.nx ρS (uc x) (eJ an.fr s1.nx π1 0 (an.rows i0)) (λp q e=>(Ml e).imp_right λh=>⟨Fj p q h,(Cd p q h).2⟩) BY (jh.trans (Ap.trans qu)).1 (jh.trans (Ap.trans qu)).2
    (λE6 hF _ hl M H=>Vp (E3:=E4) (E4:=E6) hF hl Bh Ce H) (λt ht=>by rw[CT t ht];exact CU t ht)
   exact⟨_,hμ,Jd,CT,i',E5,Li,Fg,R5,he5,rfl⟩
 |exit id=>intro an Q A e0 E0 E a w ρS s _ _ hg hle R he h;exact wp_exit ⟨hg,E,ρS,s,hle,R,he,h⟩
 |ret=>intro an Q A e0 E0 E a w ρS s _ _ hg hle R he h;exact wp_ret ⟨hg,E,ρS,s,hle,R,he,h⟩
 |rangeFunc f ps x y D5 D4=>intro an Q A e0 E0 E a w ρS s _ _ hg hle R he h;exact h.elim
 |scope x ih=>intro an Q A e0 E0 E a w ρS s _ _ hg hle R he h;exact h.elim
 |label l=>intro an Q A e0 E0 E a w ρS s _ _ hg hle R he h;exact h.elim
 |goto l=>intro an Q A e0 E0 E a w ρS s _ _ hg hle R he h;exact h.elim
 |refuse t=>intro an Q A e0 E0 E a w ρS s _ _ hg hle R he h;exact h.elim
variable {P:ae} {k:Ko} {L:List HP}
def G4 (P:ae) (ρ:xA) (s:St):List ResultVar->Option (List V)
 |[]=>au []
 | .tmp t::rs=>match G4 P ρ s rs with
   |some vs=>au (ρ t::vs)
   |none=>av
 | .cell a t::rs=>match ρ a with
   | .nm n off=>match s.get n with
     |some (.cells vs _)=>match TW P t vs off with
      |some v=>match G4 P ρ s rs with
       |some us=>au (v::us)
       |none=>av
      |none=>av
     |_=>av
   |_=>av
def L6:List V->V
 |[v]=>v
 |vs=> .iW vs
def Yd {E:Ev} {s:St} {w:ab} (R:Rel k L E s w) {ρS:xA} {a:Act} (he:ki E ρS (yM a)):∀{rs:List ResultVar} {vs:List V},G4 P ρS s rs=au vs->∃ys,(rs.mapM (G3 a.tmps)).run P w= .ok ys w/\gp E vs ys
 |[],vs,h=>by
  simp only[G4,cf]at h;subst h;exact⟨[],rfl,gp.nil⟩
 | .tmp t::rs,vs,h=>by
   simp only[G4]at h;split at h<;>first|(cases h;done)|skip
   rename_i us OX;cases h;obtain⟨ys,h1,h2⟩:=Yd R he OX;refine⟨yM a t::ys,?_,by simp only[gp];exact⟨_,_,rfl,he t,h2⟩⟩;simp only[be,G3,bind,pure,run_bind,cq,cp]at h1 ⊢;rw[h1]
 | .cell c t::rs,vs,h=>by
   simp only[G4]at h;split at h<;>first|(cases h;done)|skip
   rename_i n off hc;split at h<;>first|(cases h;done)|skip
   rename_i cs T hg;split at h<;>first|(cases h;done)|skip
   rename_i v hp;split at h<;>first|(cases h;done)|skip
   rename_i us OX;cases h;obtain⟨ys,h1,h2⟩:=Yd R he OX;have hv:=he c;rw[hc]at hv;simp only[VR]at hv;obtain⟨b,oo,l,e1,e2⟩:=hv;obtain⟨b',l',sub,q1,q2,q3⟩:=R.cells hg;rw[e1]at q1;cases q1;obtain⟨y,hy,hh⟩:=zLr q2 q3 hp;refine⟨y::ys,?_,by simp only[gp];exact⟨_,_,rfl,hy,h2⟩⟩;rw[nw]at e2;have e2':a.tmps.getD c af= .pointer (au ⟨b,off,av⟩):=e2;unfold nC at hh;simp only[be,G3,bind,pure,run_bind,cq,cp,e2',asAddr,hh]at h1 ⊢;rw[h1]
def UP (P:ae) (fn:Func) (K:V->St->Prop):Exit->xA->St->Prop
 | .normal,ρ,s=>iC (G4 P ρ s fn.results.toList) λvs=>K (L6 vs) s
 | .ret,ρ,s=>iC (G4 P ρ s fn.results.toList) λvs=>K (L6 vs) s
 |_,_,_=>False
def Oq:List V->Nat->V
 |[],_=> .top
 |v::_,0=>v
 |_::l,n+1=>Oq l n
def NF (args:List V):xA:=λt=>Oq args t
def z7z {E:Ev}:∀{vs:List V} {ys:List aa},gp E vs ys->∀t,VR E (Oq vs t) (ys.getD t af)
 |[],ys,h,t=>by simp only[Oq,VR]
 |v::vs,ys,h,t=>by
  simp only[gp]at h;obtain⟨x,xs,rfl,h1,h2⟩:=h;cases t with
  |zero=>exact h1
  |succ t=>simpa[Oq]using z7z h2 t
def aZ {f:ap} {args:Array aa} {w:ab} {K:aa->ab->Prop} (hb:uP P f=bu) (h:Calls P f args w λe w'=>∃v,e= .returned v/\K v w'):mo P (ag f args) w K:=by
 unfold uP at hb;split at hb
 ·rename_i fn Hx;simp only[kx,EB,Bool.not_eq_eq_eq_not,Bool.not_true]at hb;unfold mo;have:(ag f args).run P w= .ok (.enter f args) w:=by
   simp only[ag,bind,pure,run_bind,program,cp,cq,Hx,hb.1,hb.2,oD,if_false]
  rw[this];exact h
 ·cases hb
def zAb {H:AY} (hH:HE P H) (hm:P.follows .mixedOrders=bu) {f:ap} {fn:Func} {c:Code} (hf:P.funcs[f]? =au fn) (hb:fn.body=au c) (oK:wm fn.ntmps c=bu) (J:List (Nat×gj)) (an:List gj)
 {args:List V} (oT:ay args.length fn.ntmps=bu) {K:V->St->Prop} {s:St} (h:ml P H J an c (UP P fn K) (NF args) s) {E:Ev} {w:ab} {ys:List aa} (R:Rel k L E s w) (hv:gp E args ys):
 Calls P f ys.toArray w λe w'=>∃v,e= .returned v/\oU k L E K v w':=by
 refine calls_of_wp hf hb ?_;have oT:=BA oT;have hlen:=hv.length;have hg:Good fn.ntmps (λ_=>bu) (hJ ys) {tmps:=ys.toArray++cn (fn.ntmps-ys.toArray.size) af,defers:=[]}:=
  ⟨by simp;omega,rfl,λs hs=>by cases hs⟩
 have Lj:yM {tmps:=ys.toArray++cn (fn.ntmps-ys.toArray.size) af,defers:=[]}=hJ ys:=by
  funext i;simp only[yM,hJ,BV,np,Array.getElem?_append];split
  ·simp
  ·rename_i gr;simp at gr;rw[tx gr,Ua];split<;>rfl
 have he:ki E (NF args) (yM {tmps:=ys.toArray++cn (fn.ntmps-ys.toArray.size) af,defers:=[]}):=by
  rw[Lj];intro t;exact z7z hv t
 refine ak (z1t hH hm c an _ (λ_=>bu) (hJ ys) E E _ w _ s oK (λ_ _=>rfl) hg (Ev.le.refl _) R he h) ?_;have fin:∀{a':Act} {w':ab} {E':Ev} {ρ':xA} {s':St},Good fn.ntmps (λ_=>bu) (hJ ys) a'->E.le E'->Rel k L E' s' w'->ki E' ρ' (yM a')->(iC (G4 P ρ' s' fn.results.toList) λvs=>K (L6 vs) s')->
  ∃v,(results fn a'.tmps).run P w'= .ok v w'/\∃v',Ending.returned v= .returned v'/\oU k L E K v' w':=by
  intro a' w' E' ρ' s' py jh R' qy h';obtain⟨vs,hvs,hk⟩:=zM h';obtain⟨zs,h1,h2⟩:=Yd R' qy hvs;refine⟨G8 zs,?_,_,rfl,E',L6 vs,s',jh,R',?_,hk⟩
  ·unfold results;rw[Array.mapM_eq_mapM_toList,map_eq_pure_bind,bind_assoc];exact zLk h1 _ (λr=>by cases r<;>rfl)
  ·rcases vs with _|⟨v,_|⟨u,vs⟩⟩
   ·simp only[gp]at h2;subst h2;simp only[L6,G8,VR];exact⟨[],rfl,gp.nil⟩
   ·simp only[gp]at h2;obtain⟨x,xs,rfl,h3,rfl⟩:=h2;exact h3
   ·have h20:=h2;simp only[gp]at h2;obtain⟨x,xs,rfl,h3,y,Dl,rfl,h4,h5⟩:=h2;simp only[L6,G8,VR];exact⟨_,rfl,h20⟩
 rintro e a' w' ⟨py,E',ρ',s',jh,R',qy,h'⟩;cases e<;>first|exact h'.elim|skip
 ·obtain⟨v,h1,h2⟩:=fin py jh R' qy h';exact⟨py.defers,v,h1,h2⟩
 ·obtain⟨v,h1,h2⟩:=fin py jh R' qy h';exact⟨py.defers,v,h1,h2⟩
def zCz {H:AY} (hH:HE P H) (hm:P.follows .mixedOrders=bu) {f:ap} {fn:Func} {c:Code} (hf:P.funcs[f]? =au fn) (hb:fn.body=au c) (BF:uP P f=bu) (oK:wm fn.ntmps c=bu) (J:List (Nat×gj)) (an:List gj)
 {args:List V} (oT:ay args.length fn.ntmps=bu) {K:V->St->Prop} {s:St} (h:ml P H J an c (UP P fn K) (NF args) s) {E:Ev} {w:ab} {ys:List aa} (R:Rel k L E s w) (hv:gp E args ys):
 mo P (ag f ys.toArray) w (oU k L E K):=aZ BF (zAb hH hm hf hb oK J an oT h R hv)
def E0 (w:ab):Ev:=⟨λb=>w.heap[b]?,[]⟩
def y8a (w:ab) (hG:DK λb=>w.heap[b]?):Rel (Cv.ko w) [] (E0 w) ⟨[],0⟩ w:=⟨rfl,(Hp.start w).imp λx hx=>⟨hx,hG⟩⟩
def y2b (f:Nat):List (Nat×fy)->Option fy
 |[]=>av
 |(g,C)::l=>bif aw g f then au C else y2b f l
def A0 (P:ae):List (Nat×fy)->Prop
 |[]=>True
 |(f,C)::l=>C.ok P f/\A0 P l
def Ov (f:Nat):List (Nat×fy)->Bool
 |[]=>bv
 |(g,_)::l=>bif aw g f then bu else Ov f l
def L7 (f:Nat) (args:List V) (s:St) (K:V->St->Prop):List (Nat×fy)->Prop
 |[]=>False
 |(g,C)::l=>bif aw g f then(bif Ov f l then C.call args s K\/L7 f args s K l else C.call args s K)else L7 f args s K l
def Tg {f:Nat} {args:List V} {s:St} {K:V->St->Prop}:∀{G:List (Nat×fy)},A0 P G->L7 f args s K G->∃C:fy,C.ok P f/\C.call args s K
 |[],_,h=>h.elim
 |(g,C)::l,hG,h=>by
  simp only[L7]at h;cases hb:aw g f with
  |false=>rw[hb]at h;exact Tg hG.2 h
  |true=>
   rw[hb]at h;have e:=iX hb;subst e;cases hl:Ov g l with
   |false=>rw[hl]at h;exact⟨C,hG.1,h⟩
   |true=>
    rw[hl]at h;rcases h with h|h
    ·exact⟨C,hG.1,h⟩
    ·exact Tg hG.2 h
def qm (P:ae) (G:List (Nat×fy)):Nat->AY
 |0,f,args,s,K=>match Ov f G with
  |true=>L7 f args s K G
  |false=>False
 |d+1,f,args,s,K=>match Ov f G with
  |true=>L7 f args s K G
  |false=>match P.funcs[f]? with
   |some fn=>match fn.body with
    |some c=>bif uP P f && wm fn.ntmps c && ay args.length fn.ntmps then ml P (qm P G d) [] [] c (UP P fn K) (NF args) s else False
    |none=>False
   |none=>False
def yIv (hm:P.follows .mixedOrders=bu) {G:List (Nat×fy)} (hG:A0 P G):∀d,HE P (qm P G d):=by
 intro d
 induction d with
 |zero=>
  intro f args s K h k L E w ys R hv;simp only[qm]at h;split at h<;>first|exact h.elim|skip
  obtain⟨C,h1,h2⟩:=Tg hG h;exact fy.xp h1 h2 R hv
 |succ d ih=>
  intro f args s K h k L E w ys R hv;simp only[qm]at h;split at h
  ·obtain⟨C,h1,h2⟩:=Tg hG h;exact fy.xp h1 h2 R hv
  ·split at h<;>first|exact h.elim|skip
   rename_i fn Hx;split at h<;>first|exact h.elim|skip
   rename_i c hc;obtain⟨hb,h⟩:=zK h;simp only[kx]at hb;exact zCz ih hm Hx hc hb.1.1 hb.1.2 [] [] hb.2 h R hv
def Kp:Nat->NM
 |0=>[]
 |m+1=>(m,m)::Kp m
def z1d:∀{m p:Nat},p<m->z8 p (Kp m)=au p
 |m+1,p,h=>by
  simp only[Kp,z8];cases hb:aw m p
  ·have:m≠p:=λe=>by subst e;simp at hb
   exact z1d (by omega)
  ·rw[<- iX hb];rfl
def zFp:∀{m p q:Nat},z8 p (Kp m)=au q->p<m/\q=p
 |0,p,q,h=>by cases h
 |m+1,p,q,h=>by
  simp only[Kp,z8]at h;cases hb:aw m p
  ·rw[hb]at h;obtain⟨h1,h2⟩:=zFp h;exact⟨by omega,h2⟩
  ·rw[hb]at h;have:=iX hb;simp only[cond_true,cf]at h;exact⟨by omega,by omega⟩
def TJ (m:Nat) (v:V) (s:St) (a:Alt):Prop:=
 ∃o,BB (a.res o) v (Kp m) s λπ s=>Hm 0 (a.post o) π s λπ _=>bif sF (a.post o).length π && ay m (a.post o).length then a.rel o else False
def TL (m:Nat) (v:V) (s:St):List Alt->Prop
 |[]=>False
 |[a]=>TJ m v s a
 |a::l=>TJ m v s a\/TL m v s l
def SD {m:Nat} {v:V} {s:St}:∀{l:List Alt},TL m v s l->∃a∈l,TJ m v s a
 |[a],h=>⟨a,by simp,h⟩
 |a::b::l,h=>by
  rcases h with h|h
  ·exact⟨a,by simp,h⟩
  ·obtain⟨c,h1,h2⟩:=SD h;exact⟨c,jw _ h1,h2⟩
def Vq {w:ab} {m:Nat} {v:V} {s:St} {a:Alt} {E0 E:Ev} (h:TJ m v s a) (hn:E0.fv.length=m) (hle:E0.le E) (R:Rel k L E s w) {y:aa} (hv:VR E v y):
 ∃o,a.rel o/\∃E',E0.le E'/\VR E' (a.res o) y/\Rel k L E' ⟨gC 0 (a.post o),(a.post o).length⟩ w:=by
 obtain⟨o,h⟩:=h;have AI:Af (Kp m) E.fv:=λp n e=>by
  obtain⟨h1,rfl⟩:=zFp e;exact⟨E0.fv[n]'(by omega),hle.get (vd (by omega))⟩
 obtain⟨E1,π1,s1,q1,q2,q3⟩:=Zd h R AI hv;obtain⟨E2,π2,s2,r1,r2⟩:=RD q3 q1.rel q1.wf;obtain⟨hb,K9⟩:=zK r2;simp only[kx]at hb;have gr:=aS hb.1;have hmq:=BA hb.2
 let q:=(a.post o).length
 let tl:List Hd:=(az q).map λp=>(E2.fv[(z8 p π2).getD 0]?).getD (af,[])
 have jv:∀p,p<q->tl[p]? =au ((E2.fv[(z8 p π2).getD 0]?).getD (af,[])):=λp hp=>by
  show((az q).map _)[p]? =_;rw[uq,KD hp];rfl
 have sc:Loc π2 E2.fv tl:=by
  intro p n hp;obtain⟨hd,h'⟩:=r1.wf p n hp;refine⟨hd,h',?_⟩;rw[jv p (gr p n hp)];simp only[hp,zf,h']
 have tg:E0.le E2:=hle.trans (q1.le.trans r1.le);have Lc:E0.fv<+:tl:=by
  refine⟨tl.drop m,?_⟩;apply He;intro p;by_cases hp:p<m
  ·rw[EC (by omega)];have ym:z8 p π2=au p:=r1.ext _ _ (q1.ext _ _ (z1d hp));have e1:E0.fv[p]? =au (E0.fv[p]'(by omega)):=vd (by omega);rw[jv p (by omega),ym,zf,tg.get e1,e1];rfl
  ·rw[Cy (by omega),AQ,hn,show m+(p-m)=p by omega]
 refine⟨o,K9,⟨E2.F,tl⟩,⟨tg.1,Lc⟩,q2 E2 π2 r1.le r1.ext tl sc,⟨by simp[tl,q],?_⟩⟩;have H:=r1.rel.As;have H1:=wO (g:=gu ⟨E2.F,tl⟩) (λr x hx=>by
  rcases hx with⟨e1,e2⟩|⟨n,h1,h2⟩
  ·exact .inl ⟨e1,e2⟩
  ·right;obtain⟨hd,h3,h4⟩:=h2 E2 π2 (Ev.le.refl _) (Ext.refl _) tl sc;obtain⟨oE,h5,h6⟩:=sc _ _ h1;rw[h3]at h5;cases h5;exact⟨hd,h6,h4⟩) H
 have H2:Hp k w (s2.rows.map (gu E2)++((gC 0 (a.post o)).map (gu ⟨E2.F,tl⟩)++fz E2.F::L)):=by
  refine H1.perm ?_;rw[<- jd,<- jd];exact AR.append_right _
 have Rf:∀(l:List (Nat×ff)) {M:List HP},Hp k w (l.map (gu E2)++M)->Hp k w M:=by
  intro l
  induction l with
  |nil=>intro M H;exact H
  |cons a l ih=>intro M H;exact ih H.drop
 exact Rf _ H2
def walk (P:ae) (G:List (Nat×fy)) (d:Nat) (J:List (Nat×gj)) (an:List gj) (op:List Nat) (fn:Func) (c:Code) (args:List V) (rows:List ff) (alts:List Alt):Prop:=
 ml P (qm P G d) J an c (UP P fn λv s=>TL rows.length v s alts) (NF args) (RR op ⟨gC 0 rows,rows.length⟩)
def vC (hm:P.follows .mixedOrders=bu) {f:ap} {fn:Func} {c:Code} {C:fy} (G:List (Nat×fy)) (hG:A0 P G) (d:Nat) (J:C.ι->List (Nat×gj)) (an:C.ι->List gj) (op:List Nat) (hf:P.funcs[f]? =au fn) (hb:fn.body=au c) (BF:uP P f=bu) (oK:wm fn.ntmps c=bu)
 (oT:∀i,ay (C.pat i).length fn.ntmps=bu) (h:∀i,C.dp i->walk P G d (J i) (an i) op fn c (C.pat i) (C.pre i) (C.alts i)):C.ok P f:=by
 intro i hc k L E w ys R hv;obtain⟨E1,hle,R1⟩:=Yq op R;refine(zCz (yIv hm hG d) hm hf hb BF oK (J i) (an i) (oT i) (h i hc) R1 (hv.mono hle)).mono ?_;rintro y w' ⟨E',v,s',jh,R',I4,hk⟩;obtain⟨a,ha,EZ⟩:=SD hk;obtain⟨o,h1,E2,h2,h3,h4⟩:=Vq EZ R.nx (hle.trans jh) R' I4;exact⟨a,ha,o,h1,E2,h2,h3,h4⟩
def bU (t:aj):fy where
 ι:=List (aa×List D)
 pat:=λ_=>[.zh t (.mp 0)]
 pre:=λes=>[.map es]
 dp:=λ_=>True
 alts:=λes=>[{o:=Unit,res:=λ_=> .zh t (.mp 1),post:=λ_=>[.map es,.map es],rel:=λ_=>True}]
def z7e {f : FuncId} {fn : Func} (hf : P.funcs[f]? = some fn) (Bg : (fn.name == "runtime.NumGoroutine") = false) (hb : fn.body.isNone = true) (hn : Extern.findNext fn = none) (he : Extern.find fn = some Extern.MapsClone.clone) (t : TypeId) : (bU t).ok P f := by
 intro es _ k L E w ys R hv;simp only[bU,gp,VR]at hv;obtain⟨y,_,rfl,⟨z,rfl,b,sub,e1,rfl⟩,rfl⟩:=hv;have hg:(⟨gC 0 [.map es],1⟩:St).get 0=au (.map es):=rfl;obtain⟨hd,x,q1,q2,q3⟩:=R.row hg (by simp);rw[e1]at q1;cases q1;simp only[fi]at q2;obtain⟨b',fq,ck,e4,e5,e6,rfl⟩:=q2;cases e4;have hm:=q3 b _ (by simp[one];rfl);have jg:(Extern.MapsClone.clone #[.iface t (.map (au b))]).run P w= .ok (.iface t (.map (au w.heap.size))) (w.alloc (.map fq.toArray ck)):=by
  have e:Extern.MapsClone.clone #[.iface t (.map (au b))]=(getObj b>>=λo=>match o with
   | .map entries clock=>(newObj (.map entries clock)>>=λn=>pure (.iface t (.map (au n))))
   | _ => stuck "maps.clone: a map expected") := rfl
  rw[e];simp only[bind,run_bind,qJ hm trivial];rfl
 unfold mo;rw[run_callFunc_extern hf Bg hb hn he,jg];simp only[Result.andThen];have LG:fi E.F (.map es) (E.fv++[(.map (au w.heap.size),[])]) (.map (au w.heap.size),[]) (one w.heap.size (.map fq.toArray ck)):=by
  simp only[fi];exact⟨_,fq,ck,rfl,e5,e6,rfl⟩
 obtain⟨h1,h2,h3⟩:=R.new LG;refine⟨_,vf.2 rfl,(),trivial,_,h1,by simp only[VR];exact⟨_,rfl,_,_,h3,rfl⟩,⟨h2.nx,h2.hp.perm ?_⟩⟩;exact .swap _ _ _
def zYq {E:Ev} {s:St} {w w':ab} (hle:(E0 w).le E) (R:Rel (Cv.ko w) [] E s w'):Below w.heap.size w w':=by
 have GJ:=R.frozen;obtain⟨h1,h2,h3⟩:=R.hp.1;have Qg:∀b,b<w.heap.size->w'.heap[b]? =w.heap[b]? :=λb hb=>by
  have:w.heap[b]? =au w.heap[b]:=OJ hb;rw[this];exact GJ b _ (hle.1 b _ this)
 refine⟨h1,h2,h3,?_,Qg⟩;rcases uo w'.heap.size w.heap.size with gr|KN
 ·have:=Qg w'.heap.size gr;rw[Gx (km _),OJ gr]at this;cases this
 ·exact KN
def zb (hm:P.follows .mixedOrders=bu) {f:ap} {fn:Func} {c:Code} (G:List (Nat×fy)) (hG:A0 P G) (d:Nat) (J:List (Nat×gj)) (an:List gj) (hf:P.funcs[f]? =au fn) (hb:fn.body=au c) (oK:wm fn.ntmps c=bu)
 {args:List V} {alts:List Alt} (oT:ay args.length fn.ntmps=bu) (h:walk P G d J an [] fn c args [] alts) {w:ab} (hG0:DK λb=>w.heap[b]?) {ys:List aa} (hv:gp (E0 w) args ys):
 Calls P f ys.toArray w λe w'=>∃y,e= .returned y/\Below w.heap.size w w'/\∃a∈alts,∃o,a.rel o/\∃E',VR E' (a.res o) y:=by
 refine(zAb (yIv hm hG d) hm hf hb oK J an oT h (y8a w hG0) hv).mono ?_;rintro e w' ⟨y,he,E',v,s',hle,R,OV,hk⟩;obtain⟨a,ha,EZ⟩:=SD hk;obtain⟨o,h1,E2,h2,h3,h4⟩:=Vq EZ rfl hle R OV;exact⟨y,he,zYq hle R,a,ha,o,h1,E2,h3⟩
@[reducible] def zA (n:Int):V:= .d (.v (.int .i64 n))
@[reducible] def lD (n:Int):V:= .d (.v (.int .u64 n))
@[reducible] def TO (n:Int):V:= .d (.v (.int .u32 n))
@[reducible] def yL (b:Bool):V:= .d (.v (.bool b))
@[reducible] def oy (sz:Nat) (eg:List (List D)):V:= .d (.ro sz eg)
def c9:V:= .iW []
@[reducible] def fj (ι:Type) (pat:ι->List V) (pre:ι->List ff) (dp:ι->Prop) (res:ι->V) (post:ι->List ff):fy where
 ι:=ι
 pat:=pat
 pre:=pre
 dp:=dp
 alts:=λi=>[{o:=Unit,res:=λ_=>res i,post:=λ_=>post i,rel:=λ_=>True}]
def bE (l:List UInt8):List (List D):=l.map λb=>[.v (.int .u8 b.toNat)]
@[simp] theorem NJ (a b:List UInt8):bE (a++b)=bE a++bE b:=by simp[bE]
@[simp] theorem y8b:bE []=[]:=rfl
@[simp] theorem yH (a:List UInt8):(bE a).length=a.length:=by simp[bE]
def N8 (a:List UInt8) (n:Nat):bE (a.take n)=(bE a).take n:=by simp[bE]
def Mg (a:List UInt8) (n:Nat):bE (a.drop n)=(bE a).drop n:=by simp[bE]
def zVg (s:ByteArray):jF s=bE s.data.toList:=rfl
def jf (n:Int):UInt8:=UInt8.ofNat (n % 256).toNat
def le (n:Int):Nat->List UInt8
 |0=>[]
 |k+1=>jf n::le (n / 256) k
def xH (k:Nat):∀n:Int,(le n k).length=k:=by
 induction k with
 |zero=>intro n;rfl
 |succ k ih=>intro n;simp[le,ih]
def yPq (k:Nat):∀n:Int,le n (k+1)=le n k++[jf (n / 256 ^ k)]:=by
 induction k with
 |zero=>intro n;simp[le]
 |succ k ih=>
  intro n;have:n / 256 / 256 ^ k=n / 256 ^ (k+1):=by
   rw[Int.ediv_ediv_of_nonneg (by omega),Int.pow_succ,Ex]
  rw[le,ih,le,this,tv]
def Sj (n:Int):cx.wrap n=((jf n).toNat:Int):=by
 have:(cx.wrap n)=n % 256:=rfl;rw[this];unfold jf;have h1:(n % 256).toNat<256:=by omega
 rw[UInt8.toNat_ofNat_of_lt' (by simpa using h1)];omega
def ir {x:Int} (h: -9223372036854775808<=x/\x<=9223372036854775807):cy.wrap x=x:=Cv.wrap_i64 h.1 h.2
def Bw {x:Int} (h:0<=x/\x<18446744073709551616):cu.wrap x=x:=by
 have:cu.wrap x=x % 18446744073709551616:=rfl;rw[this];omega
def y4c {x:Int} (h:0<=x/\x<4294967296):cw.wrap x=x:=by
 have:cw.wrap x=x % 4294967296:=rfl;rw[this];omega
def N6 (k:IntKind) (a:Int) (b:Nat) (h:b<=k.bits):bD k a b=a / 2 ^ b:=by
 unfold bD;rw[show min (Int.toNat (b:Int)) k.bits=b by simp;omega];rw[Int.fdiv_eq_ediv_of_nonneg];exact Int.pow_nonneg (by omega)
def zH {p:Prop} [Decidable p] {A B:Prop} (h1:p->A) (h2:¬p->B):dp (decide p) A B:=Cv.dp.mk (λh=>h1 (pj h)) (λh=>h2 (KC h))
def fg {P:ae}:A0 P []:=trivial
def dw {P:ae} {f:Nat} {C:fy} {l:List (Nat×fy)} (h:C.ok P f) (hl:A0 P l):A0 P ((f,C)::l):=⟨h,hl⟩
end Sx
