/- Texts of ours. No condition. -/
import Derived.Laws.Externs
import Derived.Lib.ConvBytes
import Derived.LoopN
import Derived.MapKept
import Derived.Test.YtgmmlhddihaocaaGreatH2
set_option linter.all false
open Go renaming Value->aa,World->ab,execOp->ac,Program->ae,undef->af,callFunc->ag,TypeId->aj,wp_mono->ak,grownCap->am,Oper->ao,FuncId->ap,MapEntry->aq,Operand->ar
open Option renaming some->au,none->av
open Nat renaming beq->aw,blt->ax,ble->ay
open List renaming range->ba,replicate->bc,map->be,mapM_cons->bg
open Go.Lib renaming bytesCells->bo,bytesWorld->bu
open Bool renaming true->bv,false->cd
open List.Perm renaming append_left->ce,append_right->cf,cons->cg
open Option.some renaming injEq->ci,inj->cm
open Go.Value renaming pointer->cn,int->co
open Array renaming replicate->cp,ext'->cq
open Go.Sem renaming run->cr,bind->cu
open Go.Region renaming wanted->cw,ready->cx
open Go.IntKind renaming u64->cy,u32->cz,u8->da,i64->db
namespace Sx
open Go Go.RowKit Cv
variable {P:ae} {k:Ko} {L:List HP} {E:Ev} {s:St} {w:ab}
def Ev.le.app {E:Ev} (hd:Hd):E.le ⟨E.F,E.gu++[hd]⟩:=⟨yj.refl _,Jk _ _⟩
def Rel.tz (R:Rel k L E s w) {n t sz:Nat} {fh:List (List D)} (h:s.get n=au (.own t sz fh)):
 ∃a c xs sub,E.gu[n]? =au (.slice a fh.length c,sub)/\iI E.F fh.flatten xs/\(∀el∈fh,el.length=sz)/\Hp k w (oA t sz a fh.length c xs::((vY n s.rows).map (iu E)++fz E.F::L)):=by
 obtain⟨hk,hs,hh⟩:=R.focus h;cases hh with
 |cons ha jb hd hr=>
  rcases ha with⟨e,_⟩|⟨⟨hv,sub⟩,h1,h2⟩
  ·cases e
  ·simp only[gg]at h2;obtain⟨a,c,xs,rfl,q1,q2,q3⟩:=h2;exact⟨a,c,xs,sub,h1,q1,q2,hk,_,.cons q3 jb hd hr⟩
def aM {rows:List (Nat×fw)} {nx t sz:Nat} {fh:List (List D)} {a:Option Addr} {c:Nat} {xs:List aa} (hn:E.gu.length=nx) (hx:iI E.F fh.flatten xs) (hu:∀el∈fh,el.length=sz)
 (H:Hp k w (oA t sz a fh.length c xs::(rows.map (iu E)++fz E.F::L))):
 ∃E',E.le E'/\Rel k L E' ⟨(nx,.own t sz fh)::rows,nx+1⟩ w/\VR E' (.own nx) (.slice a fh.length c):=by
 have hle:E.le ⟨E.F,E.gu++[(.slice a fh.length c,[])]⟩:=⟨yj.refl _,Jk _ _⟩
 have kj:(E.gu++[((.slice a fh.length c,[]):Hd)])[nx]? =au (.slice a fh.length c,[]):=by rw[<- hn];simp
 refine⟨⟨E.F,E.gu++[(.slice a fh.length c,[])]⟩,hle,⟨by simp[hn],?_⟩,by simp only[VR];exact⟨[],kj,_,_,_,rfl⟩⟩;have H1:Hp k w (rows.map (iu E)++(oA t sz a fh.length c xs::fz E.F::L)):=H.perm (ni (l₁:=rows.map (iu E))).symm;have H2:=vD (λr x=>iu.mono hle r) H1;have H3:Hp k w (oA t sz a fh.length c xs::(rows.map (iu ⟨E.F,E.gu++[(.slice a fh.length c,[])]⟩)++fz E.F::L)):=H2.perm ni;exact H3.imp λx DU=> .inr ⟨_,kj,by simp only[gg];exact⟨a,c,xs,rfl,hx,hu,DU⟩⟩
def Ub (R:Rel k L E s w) {o:fw} {O:Obj} {hd:Hd} {K:V->St->Prop} {v:V} {y:aa} (h:gg E.F o (E.gu++[hd]) hd (one w.heap.size O)) (hv:(E.gu++[hd])[s.nx]? =au hd->VR ⟨E.F,E.gu++[hd]⟩ v y) (hk:K v (s.new o)):
 pz k L E K y (w.alloc O):=by
 obtain⟨h1,h2,h3⟩:=R.new h;exact⟨_,v,_,h1,h2,hv h3,hk⟩
def Rel.setCells (R:Rel k L E s w) {n:Nat} {vs Am:List V} {T:aj} (h:s.get n=au (.cells vs T)) {b:Nat} {sub:List aa} (ht:E.gu[n]? =au (.pointer (au ⟨b,0,av⟩),sub)) {l':List aa} (hv:im E Am l'):
 Rel k L E (s.set n (.cells Am T)) (World.ja w b (.cells l'.toArray T)):=by
 obtain⟨hk,hs,hh⟩:=R.focus h;cases hh with
 |cons ha jb hd hr=>
  rcases ha with⟨e,_⟩|⟨oY,h1,h2⟩
  ·cases e
  ·rw[ht]at h1;cases h1;simp only[gg]at h2;obtain⟨b',l,e1,e2,rfl⟩:=h2;cases e1;have H:Hp k w (pt b (.cells l.toArray T)::((vY n s.rows).map (iu E)++fz E.F::L)):=⟨hk,_,.cons rfl jb hd hr⟩
   refine R.ov h ((H.oc (.cells l'.toArray T)).imp λx hx=> .inr ⟨_,ht,?_⟩);simp only[gg];exact⟨b,l',rfl,hv,hx⟩
def Rel.L3 (R:Rel k L E s w) {n:Nat} {ds Db:List D} {T:aj} (h:s.get n=au (.vec ds T)) {b:Nat} {sub:List aa} (ht:E.gu[n]? =au (.pointer (au ⟨b,0,av⟩),sub)) {l':List aa} (hv:iI E.F Db l'):
 Rel k L E (s.set n (.vec Db T)) (World.ja w b (.cells l'.toArray T)):=by
 obtain⟨hk,hs,hh⟩:=R.focus h;cases hh with
 |cons ha jb hd hr=>
  rcases ha with⟨e,_⟩|⟨oY,h1,h2⟩
  ·cases e
  ·rw[ht]at h1;cases h1;simp only[gg]at h2;obtain⟨b',l,e1,e2,rfl⟩:=h2;cases e1;have H:Hp k w (pt b (.cells l.toArray T)::((vY n s.rows).map (iu E)++fz E.F::L)):=⟨hk,_,.cons rfl jb hd hr⟩
   refine R.ov h ((H.oc (.cells l'.toArray T)).imp λx hx=> .inr ⟨_,ht,?_⟩);simp only[gg];exact⟨b,l',rfl,hv,hx⟩
def Rel.FX (R:Rel k L E s w) {n:Nat} {es Da:List (aa×List D)} (h:s.get n=au (.map es)) {b:Nat} {sub:List aa} (ht:E.gu[n]? =au (.map (au b),sub)):
 ∃gn ck,MR E.F es gn/\w.heap[b]? =au (.map gn.toArray ck)/\uL gn ck/\∀iU ui,MR E.F Da iU->uL iU ui->Rel k L E (s.set n (.map Da)) (World.ja w b (.map iU.toArray ui)):=by
 obtain⟨hk,hs,hh⟩:=R.focus h;cases hh with
 |cons ha jb hd hr=>
  rcases ha with⟨e,_⟩|⟨oY,h1,h2⟩
  ·cases e
  ·rw[ht]at h1;cases h1;simp only[gg]at h2;obtain⟨b',gn,ck,e1,e2,e3,rfl⟩:=h2;cases e1;have H:Hp k w (pt b (.map gn.toArray ck)::((vY n s.rows).map (iu E)++fz E.F::L)):=⟨hk,_,.cons rfl jb hd hr⟩
   refine⟨gn,ck,e2,H.get,e3,λiU ui hm Rk=>R.ov h ((H.oc (.map iU.toArray ui)).imp λx hx=> .inr ⟨_,ht,?_⟩)⟩;simp only[gg];exact⟨b,iU,ui,rfl,hm,Rk,hx⟩
def Rel.Ix (R:Rel k L E s w) {n:Nat} {es Da:List (aa×List D)} {kv:aa} (h:s.get n=au (.map es)) {b:Nat} {sub:List aa} (ht:E.gu[n]? =au (.map (au b),sub)):
 ∃gn ck,MR E.F es gn/\w.heap[b]? =au (.map gn.toArray ck)/\uL gn ck/\∀iU ui x,MR E.F Da iU->uL iU ui->TK iU kv x->Rel k L E (s.set n (.Ct Da kv x)) (World.ja w b (.map iU.toArray ui)):=by
 obtain⟨hk,hs,hh⟩:=R.focus h;cases hh with
 |cons ha jb hd hr=>
  rcases ha with⟨e,_⟩|⟨oY,h1,h2⟩
  ·cases e
  ·rw[ht]at h1;cases h1;simp only[gg]at h2;obtain⟨b',gn,ck,e1,e2,e3,rfl⟩:=h2;cases e1;have H:Hp k w (pt b (.map gn.toArray ck)::((vY n s.rows).map (iu E)++fz E.F::L)):=⟨hk,_,.cons rfl jb hd hr⟩
   refine⟨gn,ck,e2,H.get,e3,λiU ui x hm Rk jy=>R.ov h ((H.oc (.map iU.toArray ui)).imp λy hy=> .inr ⟨_,ht,?_⟩)⟩;simp only[gg];exact⟨b,iU,ui,rfl,hm,Rk,jy,hy⟩
def Rel.Iw (R:Rel k L E s w) {n:Nat} {es Da:List (aa×List D)} {kv:aa} {x:Int} (h:s.get n=au (.Ct es kv x)) {b:Nat} {sub:List aa} (ht:E.gu[n]? =au (.map (au b),sub)):
 ∃gn ck,MR E.F es gn/\w.heap[b]? =au (.map gn.toArray ck)/\uL gn ck/\TK gn kv x/\∀iU ui,MR E.F Da iU->uL iU ui->Rel k L E (s.set n (.map Da)) (World.ja w b (.map iU.toArray ui)):=by
 obtain⟨hk,hs,hh⟩:=R.focus h;cases hh with
 |cons ha jb hd hr=>
  rcases ha with⟨e,_⟩|⟨oY,h1,h2⟩
  ·cases e
  ·rw[ht]at h1;cases h1;simp only[gg]at h2;obtain⟨b',gn,ck,e1,e2,e3,e4,rfl⟩:=h2;cases e1;have H:Hp k w (pt b (.map gn.toArray ck)::((vY n s.rows).map (iu E)++fz E.F::L)):=⟨hk,_,.cons rfl jb hd hr⟩
   refine⟨gn,ck,e2,H.get,e3,e4,λiU ui hm Rk=>R.ov h ((H.oc (.map iU.toArray ui)).imp λy hy=> .inr ⟨_,ht,?_⟩)⟩;simp only[gg];exact⟨b,iU,ui,rfl,hm,Rk,hy⟩
def yHl {l:List aq} (hn:(l.map (·.born)).Nodup):∀{q:Nat} {m:aq},l[q]? =au m->l.findIdx? (λe=>((e.born:Nat):Int)==((m.born:Nat):Int))=au q:=by
 induction l with
 |nil=>intro q m h;simp at h
 |cons a l ih=>
  intro q m h;simp only[iT,ve]at hn;cases q with
  |zero=>simp at h;subst h;simp[List.findIdx?_cons]
  |succ q=>
   simp only[A5]at h;have jf:a.born≠m.born:=λe=>hn.1 (e▸oe.2 ⟨m,mc h,rfl⟩)
   have Iq:¬((a.born:Nat):Int)=((m.born:Nat):Int):=by omega
   rw[List.findIdx?_cons,dx (by simpa using Iq),ih hn.2 h];rfl
def yIo {F:PH} {P:ae} {t:aj} {ds:List D} {v:V} (h:MD P t=au ds) (hm:G4 P t ds=au v):∃z ys,pI P t=au z/\iI F ds ys/\z=rR ys:=by
 unfold MD at h;split at h
 ·rename_i cs hz;split at h<;>first|(cases h;done)|skip
  rename_i n hn;obtain⟨hb,h⟩:=y3 h;cases h;simp only[G4,hn]at hm;obtain⟨oG,hm⟩:=y3 hm;simp only[ld,HA]at oG;have h1:=ji oG.1;refine⟨_,cs.toList,hz,yKg hb,?_⟩;unfold rR;split
  ·rename_i y hy;rw[hy]at h1;simp only[iT,CS,iY,Al]at h1;rw[<- h1]at oG;exact absurd oG.2 (by decide)
  ·rfl
 ·rename_i z jf hz;split at h<;>first|(cases h;done)|skip
  rename_i hn;obtain⟨hb,h⟩:=y3 h;cases h;exact⟨z,[z],hz,by simp only[iI,DR];exact⟨_,_,rfl,⟨rfl,hb⟩,rfl⟩,rfl⟩
 ·cases h
def z1a {F:PH} {x:aa} {ds:List D} {ys:List aa} (hd:iI F ds ys) {e:aq} (h1:e.key=x) (h2:e.val=rR ys):∀{es:List (aa×List D)} {gn:List aq},MR F es gn->MR F (es++[(x,ds)]) (gn++[e])
 |[],gn,h=>by
  simp only[MR]at h;subst h;simp only[zi,MR];exact⟨e,[],rfl,h1,⟨ys,hd,h2⟩,rfl⟩
 |(y,d)::es,gn,h=>by
  simp only[MR]at h;obtain⟨m,ms,rfl,q1,q2,q3⟩:=h;simp only[tu,MR];exact⟨m,_,rfl,q1,q2,z1a hd h1 h2 q3⟩
def zId {kd:TypeDesc} {x:aa} (hk:I6 kd x):Instr.sameBits 10000 x x=bv:=by
 rcases hk with⟨ik,k,n,rfl,rfl⟩|⟨s,rfl,rfl⟩<;>simp only[Instr.sameBits]
 ·simp
 ·rw[yFg];simp
def z2c {E:Ev} {v:V} (hv:VC v=bv) {y:aa} (h:VR E v y) {ys:List aa} (hc:y.cells=ys.toArray):y=rR ys:=by
 cases v<;>simp only[VC,nr]at hv
 ·rename_i d;simp only[VR]at h;have h1:y.oz=bv:=iI.one (F:=E.F) (vs:=[d]) (l:=[y]) (by simp only[iI];exact⟨_,_,rfl,h,rfl⟩) y (by simp);have hcy:y.cells= #[y]:=by cases y<;>first|rfl|cases h1
  rw[hcy]at hc;have:ys=[y]:=by
   have:=congrArg Array.toList hc;simpa using this.symm
  rw[this];rfl
 ·rename_i l;simp only[VR]at h;obtain⟨zs,rfl,h2⟩:=h;simp only[Value.cells]at hc;have:ys=zs:=by
   have:=congrArg Array.toList hc;simpa using this.symm
  subst this;have hl:=h2.length;unfold rR;split
  ·simp only[iY,Al]at hl;rw[<- hl]at hv;exact absurd hv (by decide)
  ·rfl
def yIw {P:ae} {w:ab} {b:Nat} {l:List aa} {T t:aj} (hb:w.heap[b]? =au (.cells l.toArray T)) (ht:P.underlying t=au (.slice T)) (he:P.underlying T=au (.int .u8)) (n c:Nat):
 (convert t t (.slice (au ⟨b,0,av⟩) n c)).run P w= .ok (.slice (au ⟨b,0,av⟩) n c) (World.ja w b (.cells l.toArray T (l.length,l.length+1))):=by
 have Ju:w.shape? b=au (T,l.length):=by
  unfold World.shape?;rw[hb];simp
 have Ha:w.freeze ⟨b,l.length,av⟩ 1=World.ja w b (.cells l.toArray T (l.length,l.length+1)):=by
  unfold World.freeze World.ja;rw[dx (by decide)];congr 1;apply Pm;intro i;rw[Array.getElem?_modify,Pw];by_cases c:b=i
  ·subst c;have iq:b<w.heap.size:=(Array.getElem?_eq_some_iff.1 hb).1;rw[fk rfl,fk rfl,fk iq,hb];rfl
  ·rw[dx c,dx c]
 simp[convert,Go.run_underlying ht,Go.run_underlying he,markStringish,Ju];exact Ha
def Rel.setIter (R:Rel k L E s w) {n pos pos':Nat} {str:ByteArray} (h:s.get n=au (.iter str pos)) {b:Nat} {sub:List aa} (ht:E.gu[n]? =au (.pointer (au ⟨b,0,av⟩),sub)):
 w.heap[b]? =au (.stringIter str pos)/\Rel k L E (s.set n (.iter str pos')) (World.ja w b (.stringIter str pos')):=by
 obtain⟨hk,hs,hh⟩:=R.focus h;cases hh with
 |cons ha jb hd hr=>
  rcases ha with⟨e,_⟩|⟨oY,h1,h2⟩
  ·cases e
  ·rw[ht]at h1;cases h1;simp only[gg]at h2;obtain⟨b',e1,rfl⟩:=h2;cases e1;have H:Hp k w (pt b (.stringIter str pos)::((vY n s.rows).map (iu E)++fz E.F::L)):=⟨hk,_,.cons rfl jb hd hr⟩
   refine⟨H.get,R.ov h ((H.oc (.stringIter str pos')).imp λx hx=> .inr ⟨_,ht,?_⟩)⟩;simp only[gg];exact⟨b,rfl,hx⟩
def Rel.L4 (R:Rel k L E s w) {n T sz i f:Nat} {fh:List (List D)} {ds:List D} (h:s.get n=au (.own T sz fh)) (hi:i<fh.length) (hf:f+ds.length<=sz) {b oo m c:Nat} {sub:List aa}
 (ht:E.gu[n]? =au (.slice (au ⟨b,oo,av⟩) m c,sub)) {ys:List aa} (hy:iI E.F ds ys):
 ∃l:List aa,w.heap[b]? =au (.cells l.toArray T)/\oo+i*sz+f+ys.length<=l.length/\Rel k L E (s.set n (.own T sz (zX fh i f ds))) (World.ja w b (.cells (lj l (oo+i*sz+f) ys).toArray T)):=by
 obtain⟨a,c',xs,D6,h1,hx,hu,H⟩:=R.tz h;rw[ht]at h1;cases h1;rcases H.oP with⟨e,_⟩|⟨b',r,e,h2,h3,h4,H1⟩
 ·cases e
 cases e;obtain⟨Bl,PM⟩:=pE i f ds hu hi hf;have qt:i*sz+sz<=fh.length*sz:=by
  have:=yh sz (show i+1<=fh.length by omega);rwa [Ak]at this
 have C3:=hy.length;refine⟨xs++r,H1.get,by rw[iQ];omega,R.ov h ((H1.oc (.cells (lj (xs++r) (0+i*sz+f) ys).toArray T)).imp λx DU=> .inr ⟨_,ht,?_⟩)⟩;simp only[gg];have hlen:(zX fh i f ds).length=fh.length:=by simp[zX]
 have Cw:lj (xs++r) (0+i*sz+f) ys=lj xs (i*sz+f) ys++r:=by
  simp only[lj,oC];rw[zq (by omega),GZ (by omega)];simp
 refine⟨_,c,lj xs (i*sz+f) ys,by rw[hlen],?_,PM,.inr ⟨b,r,rfl,by rw[DU,Cw],?_,?_,by rw[hlen];exact h4⟩⟩
 ·rw[Bl];exact OH hx hy _
 ·rw[hlen,<- h2];simp only[lj,iQ,oK,qc];omega
 ·rw[<- h3];simp only[lj,iQ,oK,qc];omega
def yBg {l vs:List aa} {o:Nat} (h:o+vs.length<=l.length) (j:Nat):(lj l o vs)[j]? =if j<o then l[j]? else if j<o+vs.length then vs[j-o]? else l[j]? :=by
 unfold lj;have h1:(l.take o++vs).length=o+vs.length:=by simp;omega
 split
 ·rename_i hj;rw[Fb (by omega),Fb (by simp;omega),Jm,fk hj]
 ·split
  ·rw[Fb (by omega),CY (by simp;omega),oK,GV (by omega)]
  ·rw[CY (by omega),h1,Bg];congr 1;omega
def TJ {l vs:List aa} {o p:Nat} {y:aa} (h:o+vs.length<=l.length) (hp:o+vs.length<=p\/p<o):lj (l.set p y) o vs=(lj l o vs).set p y:=by
 apply Hz;intro j;have hlen:(lj l o vs).length=l.length:=by simp[lj];omega
 rw[yBg (by rw[rj];exact h),GW,GW,yBg h,hlen];by_cases hj:p=j
 ·subst hj;rw[fk rfl,fk rfl];split
  ·rfl
  ·rw[dx (by omega)]
 ·rw[dx hj,dx hj]
def Rel.DE (R:Rel k L E s w) {n:Nat} {x:yf} (h:nY s n=au x):
 ∃a c ys xs sub,E.gu[n]? =au (.slice a x.fh.length c,sub)/\iI E.F x.fh.flatten ys/\(∀el∈x.fh,el.length=x.sz)/\Ag E.gu (x.i*x.sz+x.f) x.b ys xs x.m/\Hp k w (oA x.T x.sz a x.fh.length c xs::((vY n s.rows).map (iu E)++fz E.F::L)):=by
 obtain⟨hk,hs,hh⟩:=R.focus (tK h);cases hh with
 |cons ha jb hd hr=>
  rcases ha with⟨e,_⟩|⟨⟨hv,sub⟩,h1,h2⟩
  ·cases e
  ·simp only[gg]at h2;obtain⟨a,c,ys,xs,rfl,q1,q2,q3,q4⟩:=h2;exact⟨a,c,ys,xs,sub,h1,q1,q2,q3,hk,_,.cons q4 jb hd hr⟩
def yNt {gu:List Hd} {p o:Nat} {b:Bool} {ys xs vs:List aa} (hl:o+vs.length<=ys.length) (hp:b=bv->o+vs.length<=p\/p<o):∀{m:Option Nat},Ag gu p b ys xs m->Ag gu p b (lj ys o vs) (lj xs o vs) m:=by
 have key:∀{y:aa},xs=(bif b then ys.set p y else ys)->lj xs o vs=bif b then(lj ys o vs).set p y else lj ys o vs:=by
  intro y h;cases b with
  |false=>rw[h];rfl
  |true=>rw[h,cond_true,cond_true];exact TJ hl (hp rfl)
 intro m;cases m with
 |none=>rintro⟨y,e,h⟩;exact⟨y,e,key h⟩
 |some m=>rintro⟨y,l,e1,e2,h⟩;exact⟨y,l,e1,e2,key h⟩
def Rel.L6 (R:Rel k L E s w) {n i f:Nat} {x:yf} {ds:List D} (h:nY s n=au x) (hi:i<x.fh.length) (hf:f+ds.length<=x.sz) (xy:x.clear i f ds.length) {b oo m c:Nat} {sub:List aa}
 (ht:E.gu[n]? =au (.slice (au ⟨b,oo,av⟩) m c,sub)) {ys:List aa} (hy:iI E.F ds ys):
 ∃l:List aa,w.heap[b]? =au (.cells l.toArray x.T)/\oo+i*x.sz+f+ys.length<=l.length/\Rel k L E (s.set n (.vh x.q x.T x.sz (zX x.fh i f ds) x.i x.f x.b x.m)) (World.ja w b (.cells (lj l (oo+i*x.sz+f) ys).toArray x.T)):=by
 obtain⟨a,c',zs,xs,D6,h1,hz,hu,hx,H⟩:=R.DE h;rw[ht]at h1;cases h1;rcases H.oP with⟨e,_⟩|⟨b',r,e,h2,h3,h4,H1⟩
 ·cases e
 cases e;obtain⟨Bl,PM⟩:=pE i f ds hu hi hf;have qt:i*x.sz+x.sz<=x.fh.length*x.sz:=by
  have:=yh x.sz (show i+1<=x.fh.length by omega);rwa [Ak]at this
 have C3:=hy.length;have C2:=Yr hx;refine⟨xs++r,H1.get,by rw[iQ];omega,R.ov (tK h) ((H1.oc (.cells (lj (xs++r) (0+i*x.sz+f) ys).toArray x.T)).imp λz PF=> .inr ⟨_,ht,?_⟩)⟩;simp only[gg];have hlen:(zX x.fh i f ds).length=x.fh.length:=by simp[zX]
 have Cw:lj (xs++r) (0+i*x.sz+f) ys=lj xs (i*x.sz+f) ys++r:=by
  simp only[lj,oC];rw[zq (by omega),GZ (by omega)];simp
 refine⟨_,c,lj zs (i*x.sz+f) ys,lj xs (i*x.sz+f) ys,by rw[hlen],?_,PM,yNt (by omega) (λhb=> ?_) hx,.inr ⟨b,r,rfl,by rw[PF,Cw],?_,?_,by rw[hlen];exact h4⟩⟩
 ·rw[Bl];exact OH hz hy _
 ·rw[C3];exact yFe hf xy.1 (xy.2 hb)
 ·rw[hlen,<- h2];simp only[lj,iQ,oK,qc];omega
 ·rw[<- h3];simp only[lj,iQ,oK,qc];omega
def Rel.IA (R:Rel k L E s w) {n c0:Nat} {q:Bool} {x:yf} (h:nY s n=au x) (hi:x.i<x.fh.length) (hf:x.f<x.sz) {b oo m c:Nat} {sub:List aa}
 (ht:E.gu[n]? =au (.slice (au ⟨b,oo,av⟩) m c,sub)) {y:aa} {ly:List aa} (hc:E.gu[c0]? =au (y,ly)) (hs:∃a n c,y= .slice a n c):
 ∃l:List aa,w.heap[b]? =au (.cells l.toArray x.T)/\oo+x.i*x.sz+x.f+1<=l.length/\Rel k L E (s.set n (.vh q x.T x.sz x.fh x.i x.f bv (au c0))) (World.ja w b (.cells (lj l (oo+x.i*x.sz+x.f) [y]).toArray x.T)):=by
 obtain⟨a,c',zs,xs,D6,h1,hz,hu,hx,H⟩:=R.DE h;rw[ht]at h1;cases h1;rcases H.oP with⟨e,_⟩|⟨b',r,e,h2,h3,h4,H1⟩
 ·cases e
 cases e;have qt:x.i*x.sz+x.sz<=x.fh.length*x.sz:=by
  have:=yh x.sz (show x.i+1<=x.fh.length by omega);rwa [Ak]at this
 have C2:=Yr hx;refine⟨xs++r,H1.get,by rw[iQ];omega,R.ov (tK h) ((H1.oc (.cells (lj (xs++r) (0+x.i*x.sz+x.f) [y]).toArray x.T)).imp λz PF=> .inr ⟨_,ht,?_⟩)⟩;simp only[gg];have Cw:lj (xs++r) (0+x.i*x.sz+x.f) [y]=xs.set (x.i*x.sz+x.f) y++r:=by
  simp only[lj,oC];rw[zq (by omega),GZ (by simp;omega),Ns,fk (by omega)];simp
 have ra:xs.set (x.i*x.sz+x.f) y=zs.set (x.i*x.sz+x.f) y:=by
  have key:∀{z:aa},xs=(bif x.b then zs.set (x.i*x.sz+x.f) z else zs)->xs.set (x.i*x.sz+x.f) y=zs.set (x.i*x.sz+x.f) y:=by
   intro z h;cases hb:x.b with
   |false=>rw[h,hb];rfl
   |true=>rw[h,hb,cond_true,Et]
  revert hx;cases x.m with
  |none=>rintro⟨z,_,h⟩;exact key h
  |some m=>rintro⟨z,l,_,_,h⟩;exact key h
 refine⟨_,c,zs,xs.set (x.i*x.sz+x.f) y,rfl,hz,hu,⟨y,ly,hc,hs,by rw[cond_true,ra]⟩,.inr ⟨b,r,rfl,by rw[PF,Cw],by rw[rj,h2],by rw[<- h3];simp,h4⟩⟩
def z4m {P:ae} (R:Rel k L E s w) {t n sz i f:Nat} {x:yf} {v:V} {K:V->St->Prop} (hx:nY s n=au x) (h:X1 P t x n sz i f v s K) {yv:aa} (hv:VR E v yv)
 {b oo m c:Nat} {l:List aa} (e1:E.gu[n]? =au (.slice (au ⟨b,oo,av⟩) m c,l)):∃w',GO P (storeVar t ⟨b,oo+i*sz+f,av⟩ yv) w w'/\pz k L E K af w':=by
 unfold X1 at h;obtain⟨hb,h⟩:=zL h;have e:=ji hb;subst e;have RQ:∀{E':Ev},VR E' (.jm []) af:=λ{E'}=>by simp only[VR];exact⟨[],rfl,im.nil⟩
 have gen:∀{s':St} {ds:List D} {mm:Nat},HX P s t v=au (ds,s')->nY s' n=au x->pM P t=au mm->ds.length=mm->i<x.fh.length->f+mm<=x.sz->x.clear i f mm->K (.jm []) (s'.set n (.vh x.q x.T x.sz (zX x.fh i f ds) x.i x.f x.b x.m))->
  ∃w',GO P (storeVar t ⟨b,oo+i*x.sz+f,av⟩ yv) w w'/\pz k L E K af w':=by
  intro s' ds mm hd hh hm hl hi hf xy hk;obtain⟨E',ys,q1,q2,q3,q4,q5,q6⟩:=MK R hd hv;obtain⟨ll,r1,r2,r3⟩:=q3.L6 (ds:=ds) (i:=i) (f:=f) hh hi (by omega) (by rw[hl];exact xy) (q1.get e1) q6;have jy:=gW (P:=P) (o:=oo+i*x.sz+f) hm q5 (by rw[q6.length,hl]) (by rw[q6.length,hl]at r2;exact r2) q6.one r1;exact⟨_,jy,E',_,_,q1,r3,RQ,hk⟩
 split at h
 ·rename_i c0 vv tt hs;clear hs;split at h<;>first|exact h.elim|skip
  rename_i t2 wv lv hg;have aaF:=zM h;clear h;obtain⟨mm,hm,Sl⟩:=aaF;have hb0:=zL Sl;clear Sl;obtain⟨hb,⟨hi,hf⟩,hq⟩:=hb0;simp only[ld]at hb;have qu:=ji hb.1;subst qu;simp only[VR]at hv;obtain⟨lc,hc,ha⟩:=hv;have xy:yv.cells=[yv].toArray/\∀z∈[yv],z.oz=bv:=by
   obtain⟨a,b,c,rfl⟩:=ha;exact⟨rfl,λz hz=>by rw[xj.1 hz];rfl⟩
  have RS:∀{q:Bool},i=x.i->f=x.f->K (.jm []) (s.set n (.vh q x.T x.sz x.fh x.i x.f bv (au c0)))->∃w',GO P (storeVar t ⟨b,oo+i*x.sz+f,av⟩ yv) w w'/\pz k L E K af w':=by
   intro q h1 h2 hk;subst h1 h2;obtain⟨ll,r1,r2,r3⟩:=R.IA (q:=q) hx hi hf e1 hc ha;exact⟨_,gW (P:=P) (o:=oo+x.i*x.sz+x.f) hm xy.1 rfl r2 xy.2 r1,E,_,_,Ev.le.refl _,r3,RQ,hk⟩
  split at hq
  ·obtain⟨⟨h1,h2⟩,hk⟩:=hq;exact RS h1 h2 hk
  ·obtain⟨hp,yw,hn⟩:=hq;by_cases Ad:i=x.i/\f=x.f
   ·exact RS Ad.1 Ad.2 (hp Ad.1 Ad.2)
   ·have hn:=hn Ad;split at hn<;>first|exact hn.elim|skip
    rename_i ds s' hd;split at hn<;>first|exact hn.elim|skip
    rename_i y hy;obtain⟨oG,rfl,hk⟩:=zL hn;exact gen hd hy hm (ji oG) hi (by omega) ⟨yw,λ_ NO=>by
     have:¬f=y.f:=λe=>Ad ⟨NO,e⟩
     omega⟩ hk
 ·split at h<;>first|exact h.elim|skip
  rename_i ds s' hd;split at h<;>first|exact h.elim|skip
  rename_i y hy;obtain⟨mm,hm,h⟩:=zM h;obtain⟨oG,⟨rfl,hi,hf,xy⟩,hk⟩:=zL h;exact gen hd hy hm (ji oG) hi hf xy hk
def Rel.L5 (R:Rel k L E s w) {n T i:Nat} {fh:List (List D)} {ds:List D} (h:s.get n=au (.G2 T fh)) (hi:i<fh.length) (hf:ds.length=1) {b oo m c:Nat} {sub:List aa}
 (ht:E.gu[n]? =au (.slice (au ⟨b,oo,av⟩) m c,sub)) {y:aa} (hy:iI E.F ds [y]):
 ∃l:List aa,w.heap[b]? =au (.cells l.toArray T (l.length,l.length+1))/\i<l.length/\Rel k L E (s.set n (.G2 T (zX fh i 0 ds))) (World.ja w b (.cells (l.set (oo+i) y).toArray T (l.length,l.length+1)))/\oo=0:=by
 obtain⟨hk,hs,hh⟩:=R.focus h;obtain⟨b',c',xs,r,q1,q2,q3,q4,H⟩:∃b' c' xs r,(Value.slice (au ⟨b,oo,av⟩) m c)= .slice (au ⟨b',0,av⟩) fh.length c'/\iI E.F fh.flatten xs/\(∀el∈fh,el.length=1)/\fh.length<=c'/\Hp k w (pt b' (.cells (xs++r).toArray T ((xs++r).length,(xs++r).length+1))::(((vY n s.rows).map (iu E))++fz E.F::L)):=by
  cases hh with
  |cons ha jb Hb hr=>
   rcases ha with⟨e,_⟩|⟨hv,h1,h2⟩
   ·cases e
   ·rw[ht]at h1;cases h1;simp only[gg]at h2;obtain⟨b',c',xs,r,e1,e2,e3,e4,rfl⟩:=h2;exact⟨b',c',xs,r,e1,e2,e3,e4,hk,_,.cons rfl jb Hb hr⟩
 cases q1;obtain⟨Bl,PM⟩:=pE i 0 ds q3 hi (by omega);have Cm:xs.length=fh.length*1:=by rw[q2.length,j9 q3]
 have hlen:(zX fh i 0 ds).length=fh.length:=by simp[zX]
 refine⟨xs++r,H.get,by rw[iQ];omega,R.ov h ((H.oc (.cells ((xs++r).set (0+i) y).toArray T ((xs++r).length,(xs++r).length+1))).imp λx DU=> .inr ⟨_,ht,?_⟩),rfl⟩;simp only[gg];have ra:(xs++r).set (0+i) y=xs.set i y++r:=by rw[oC,List.set_append_left _ _ (by omega)]
 refine⟨b,c,xs.set i y,r,by rw[hlen],?_,PM,by rw[hlen];exact q4,?_⟩
 ·rw[Bl];have e:xs.set i y=lj xs (i*1+0) [y]:=by
   rw[Ns,fk (by omega)];simp[lj]
  rw[e];exact OH q2 hy _
 ·rw[ra]at DU;rw[DU];simp
def zVr (F:PH):∀l:List UInt8,iI F (l.map λb=>[D.v (.int .u8 b.toNat)]).flatten (l.map λb=>co .u8 b.toNat)
 |[]=>by simp[iI]
 |b::l=>by
  simp only[iT,A2,tu,zi,iI,DR];exact⟨_,_,rfl,⟨rfl,rfl⟩,zVr F l⟩
def yFu {a b:ab} (h1:a.heap=b.heap) (h2:a.tape=b.tape) (h3:a.drawn=b.drawn) (h4:a.os=b.os) (h5:a.output=b.output):a=b:=by
 cases a;cases b;simp only at h1 h2 h3 h4 h5;subst h1 h2 h3 h4 h5;rfl
def zVa (w:ab) (e:aj) (s:ByteArray):bu w e s=World.ja (w.drew.alloc (.cells (bo w e s) e)) w.heap.size (.cells (bo w e s) e ((bo w e s).size,(bo w e s).size+1)):=by
 have hh:(bu w e s).heap=(World.ja (w.drew.alloc (.cells (bo w e s) e)) w.heap.size (.cells (bo w e s) e ((bo w e s).size,(bo w e s).size+1))).heap:=by
  apply Pm;intro j;have oW:(w.drew.alloc (.cells (bo w e s) e)).heap.size=w.heap.size+1:=by simp[World.alloc,World.drew,-World.alloc_eq,-World.drew_eq]
  simp only[World.ja];rw[Pw];by_cases hj:w.heap.size=j
  ·subst hj;rw[fk rfl,fk (by omega),Lib.bytesWorld_at_new]
  ·rw[dx hj];rcases vx j w.heap.size with h|h
   ·rw[Lib.bytesWorld_at_old w e s j h];have:(w.drew.alloc (.cells (bo w e s) e)).heap[j]? =w.heap[j]? :=by
     simp[World.alloc,World.drew,-World.alloc_eq,-World.drew_eq,Array.getElem?_push,Ne.symm hj]
    rw[this]
   ·rw[GY (by rw[Lib.bytesWorld_size];omega),GY (by omega)]
 refine yFu hh ?_ ?_ ?_ ?_<;>(unfold bu World.freeze World.ja;rw[dx (by omega)])
def z8i (R:Rel k L E s w) (b:ByteArray) (e:aj) {K:V->St->Prop} (hk:K (.own s.nx) (s.new (.G2 e (vU b)))):
 pz k L E K (.slice (au ⟨w.heap.size,0,av⟩) b.size (am w b.size 0 e)) (bu w e b):=by
 have hl:(vU b).length=b.size:=by simp[vU]
 have Is:b.size<=am w b.size 0 e:=grownCap_ge w b.size 0 e;have H:=((R.hp.drew).new (.cells (bo w e b) e)).oc (.cells (bo w e b) e ((bo w e b).size,(bo w e b).size+1));have hs:w.drew.heap.size=w.heap.size:=rfl;rw[hs,<- zVa]at H;obtain⟨hd,hhd⟩:∃hd:Hd,hd=(.slice (au ⟨w.heap.size,0,av⟩) b.size (am w b.size 0 e),[]):=⟨_,rfl⟩
 have hle:E.le ⟨E.F,E.gu++[hd]⟩:=Ev.le.app _;have kj:(E.gu++[hd])[s.nx]? =au hd:=by rw[<- R.nx];simp
 refine⟨⟨E.F,E.gu++[hd]⟩,.own s.nx,_,hle,⟨by simp[St.new,R.nx],?_⟩,?_,hk⟩
 ·have H1:Hp k (bu w e b) (s.rows.map (iu E)++(pt w.heap.size (.cells (bo w e b) e ((bo w e b).size,(bo w e b).size+1))::fz E.F::L)):=H.perm (ni (l₁:=s.rows.map (iu E))).symm;have H2:=vD (λr x=>iu.mono hle r) H1;have H3:Hp k (bu w e b) (pt w.heap.size (.cells (bo w e b) e ((bo w e b).size,(bo w e b).size+1))::(s.rows.map (iu ⟨E.F,E.gu++[hd]⟩)++fz E.F::L)):=H2.perm ni;refine H3.imp λx hx=> .inr ⟨hd,kj,?_⟩
  simp only[gg];refine⟨w.heap.size,am w b.size 0 e,b.data.toList.map λ(c:UInt8)=>co .u8 c.toNat,bc (am w b.size 0 e-b.size) (co .u8 0),by rw[hhd,hl],?_,?_,by rw[hl];exact Is,?_⟩
  ·exact zVr _ _
  ·simp[vU]
  ·have hx:x=one w.heap.size _:=hx;rw[hx];have ec:bo w e b=(b.data.toList.map (λ(c:UInt8)=>co .u8 c.toNat)++bc (am w b.size 0 e-b.size) (co .u8 0)).toArray:=by
    apply cq;simp[bo]
   rw[ec];simp
 ·simp only[VR];exact⟨[],by rw[kj,hhd],_,_,_,rfl⟩
def z9t (R:Rel k L E s w) {sz:Nat} {v:V} {fh:List (List D)} (h:Xp s sz v=au fh) {y:aa} (hv:VR E v y):
 ∃ys,Src sz w y fh.length ys/\iI E.F fh.flatten ys/\∀el∈fh,el.length=sz:=by
 unfold Xp at h;split at h
 ·cases h;simp only[VR,DR]at hv;obtain⟨rfl,_⟩:=hv;exact⟨[],.inl ⟨av,0,rfl,pe,.inl ⟨rfl,rfl,rfl⟩,Sub.pe w⟩,by simp[iI],by simp⟩
 ·rename_i b;obtain⟨hb,h⟩:=pA h;have:=ji hb;subst this;cases h;simp only[VR,DR]at hv;obtain⟨rfl,_⟩:=hv;refine⟨b.data.toList.map λb=> .int .u8 b.toNat,.inr ⟨b,rfl,rfl,by simp[vU],rfl⟩,?_,?_⟩
  ·unfold vU;generalize b.data.toList=l
   induction l with
   |nil=>simp[iI]
   |cons a l ih=>simp only[iT,A2,tu,zi,iI,DR];exact⟨_,_,rfl,⟨rfl,rfl⟩,ih⟩
  ·intro el qf;unfold vU at qf;obtain⟨x,_,rfl⟩:=oe.1 qf;rfl
 ·split at h<;>first|(cases h;done)|skip
  rename_i oL mh hd;obtain⟨hb,hh⟩:=pA h;clear h;have:=ji hb;subst this;cases hh;obtain⟨a,c,xs,rfl,h2,h3,h4,h5⟩:=mR R hv hd;exact⟨xs,.inl ⟨a,c,rfl,h5⟩,h3,h4⟩
def zVc (R:Rel k L E s w) {t1 t2 rt:Nat} {x y:V} {xr yr:aa} (hx:VR E x xr) (hy:VR E y yr) {K:V->St->Prop} (h:z1h P t1 t2 s x y K):
 ∃v w',fS P (Builtin.append_ #[t1,t2] rt #[xr,yr]) w v w'/\pz k L E K v w':=by
 unfold z1h at h;obtain⟨i,hi,h⟩:=zM h;obtain⟨hb,h⟩:=zL h;simp only[ld]at hb;obtain⟨mh,D9,h⟩:=zM h;obtain⟨z,q1,q2,q3,q4⟩:=cL hi;obtain⟨ys,J',G6,huy⟩:=z9t R D9 hy;have EF:0<i.oO:=by simpa[zg]using hb.2
 split at h<;>first|exact h.elim|skip
 ·obtain⟨hlen,hk⟩:=h;simp only[VR,DR]at hx;obtain⟨rfl,_⟩:=hx;obtain⟨a',c',w',jr,H⟩:=(R.hp.nil i.e i.sz).append (P:=P) (rt:=rt) q1 hb.1 J' G6.one (by rw[q2]) EF (by simpa using hlen);simp only[oC,zi]at jr H;obtain⟨E',r1,r2,r3⟩:=aM R.nx G6 huy H;exact⟨_,w',jr,E',_,_,r1,r2,r3,hk⟩
 ·rename_i n;split at h<;>first|exact h.elim|skip
  rename_i T sz fh hg;obtain⟨oG,hlen,hk⟩:=zL h;simp only[ld]at oG;have e1:=ji oG.1;have e2:=ji oG.2;subst e1 e2;obtain⟨a,c,xs,sub,h1,we,hu,H⟩:=R.tz hg;simp only[VR]at hx;obtain⟨l,hx,_⟩:=hx;rw[h1]at hx;cases hx;obtain⟨a',c',w',jr,H⟩:=H.append (P:=P) (rt:=rt) q1 hb.1 J' G6.one (by rw[q2]) EF hlen;obtain⟨E',r1,r2,r3⟩:=aM (fh:=fh++mh) R.nx (by rw[Nn];exact we.append G6) (λel qf=>by
   rcases qq.1 qf with h|h
   ·exact hu el h
   ·exact huy el h) (by rw[iQ];exact H)
  rw[iQ]at r3;exact⟨_,w',jr,E',_,_,r1,r2,r3,hk⟩
def Rel.Mb {E:Ev} {s:St} (R:Rel k L E s w) {sz:Nat} {fh:List (List D)} {y:aa} (h:DR E.F (.ro sz fh) y):∃E',E.le E'/\Rel k L E' (s.new (.kh sz fh)) w/\E'.gu[s.nx]? =au (y,[]):=by
 have hle:E.le ⟨E.F,E.gu++[(y,[])]⟩:=Ev.le.app _;have kj:(E.gu++[((y,[]):Hd)])[s.nx]? =au (y,[]):=by rw[<- R.nx];simp
 refine⟨_,hle,⟨by simp[St.new,R.nx],?_⟩,kj⟩;have H2:=vD (λr x=>iu.mono hle r) R.hp;have:=(@gV k w True _).2 ⟨trivial,H2⟩;exact this.imp λx hx=> .inr ⟨_,kj,by simp only[gg];exact⟨hx.2,h⟩⟩
def Ue:∀{vs:List V} {s:St} {K:List V->St->Prop} {E:Ev} {l:List aa},Mx vs s K->Rel k L E s w->im E vs l->∃E' Am s',E.le E'/\Rel k L E' s' w/\im E' Am l/\K Am s'
 |[],s,K,E,l,h,R,hv=>⟨E,[],s,Ev.le.refl _,R,hv,h⟩
 |v::vs,s,K,E,l,h,R,hv=>by
  simp only[Mx]at h;simp only[im]at hv;obtain⟨x,xs,rfl,h1,h2⟩:=hv;split at h
  ·rename_i sz fh;simp only[VR]at h1;obtain⟨E1,q1,q2,q3⟩:=R.Mb h1;obtain⟨E2,Am,s',r1,r2,r3,r4⟩:=Ue h q2 (h2.mono q1);refine⟨E2,_,s',q1.trans r1,r2,?_,r4⟩;simp only[im,VR];simp only[DR]at h1;obtain⟨a,c,e,_⟩:=h1;exact⟨x,xs,rfl,⟨[],r1.get q3,a,_,c,e⟩,r3⟩
  ·obtain⟨E2,Am,s',r1,r2,r3,r4⟩:=Ue h R h2;exact⟨E2,_,s',r1,r2,by simp only[im];exact⟨x,xs,rfl,h1.mono r1,r3⟩,r4⟩
def pz.up {E E':Ev} (h:E.le E') {K:V->St->Prop} {y:aa} {w':ab}:pz k L E' K y w'->pz k L E K y w':=λ⟨E2,v,s',h1,h2⟩=>⟨E2,v,s',h.trans h1,h2⟩
def z2j {H:Br} (hH:Ia P H) (R:Rel k L E s w) {f:ap} {args:List V} {ys:List aa} {K:V->St->Prop} (h:yOh H f args s K) (hv:im E args ys):ob P (ag f ys.toArray) w (pz k L E K):=by
 unfold yOh at h;split at h
 ·rename_i n i rest;split at h<;>first|exact h.elim|skip
  rename_i t T m iF l hg;obtain⟨x,hx,h⟩:=h;simp only[im]at hv;obtain⟨y,ys,rfl,h1,h2⟩:=hv;have Bn:=h1;obtain⟨E1,hle,R1,G7,l0,ht⟩:=R.Iv hg hx h1;have ND:im E1 (.nm s.nx 0::rest) (y::ys):=by simp only[im];exact⟨_,_,rfl,G7,h2.mono hle⟩
  refine(hH f _ _ _ h k L E1 w _ R1 ND).mono ?_;rintro r w' ⟨E',v,s',jt,R',PL,hk⟩;unfold yZb at hk;split at hk<;>first|exact hk.elim|skip
  rename_i o ha;split at hk<;>first|exact hk.elim|skip
  rename_i t' T' m' abb l' j hn;obtain⟨x',rfl,rfl,hi,hk⟩:=hk;simp only[VR]at Bn;obtain⟨hd,abc,b,oo,e1,e2,e3⟩:=Bn;have e1':=(hle.trans jt).get e1;have R2:=R'.Iz ha hn hi (jt.get ht) (λv sub hs=>by rw[e1']at hs;cases hs;exact e2);exact⟨E',v,_,hle.trans jt,R2,PL,hk⟩
 ·exact hH f _ s K h k L E w _ R hv
def z0a {E:Ev} {ps:List (Nat×V)} {qs:List (Nat×aa)} {m:Nat} (h:Xf ps=au m) (hp:B9 E ps qs):∃y,qs=[(0,y)]/\VR E (.nm m 0) y:=by
 unfold Xf at h;split at h<;>first|(cases h;done)|skip
 cases h;simp only[B9]at hp;obtain⟨y,ys,rfl,h1,rfl⟩:=hp;exact⟨y,rfl,h1⟩
def zYh (R:Rel k L E s w) {t:aj} {i:SlI} (hi:pJ P t=au i) (oW:i.sz=1) {m:Nat} {T:Type} {mm:Nat} {iF:T->Nat->fw} {x:T} (hg:s.get m=au (.sv T mm iF x)) {qs:List (Nat×aa)}
 (hp:∃y,qs=[(0,y)]/\VR E (.nm m 0) y) {K:V->St->Prop} (hk:K (.own s.nx) ((s.del m).new (.kg i.e T mm iF [x] av))):
 ∃v w',(Instr.buildSlice t 1 qs.toArray).run P w= .ok v w'/\pz k L E K v w':=by
 obtain⟨y,rfl,hv⟩:=hp;simp only[VR]at hv;obtain⟨b,oo,l0,e1,rfl⟩:=hv;obtain⟨z,q1,q2,q3,q4⟩:=cL hi;obtain⟨inf,zv,p1,p2,p3,p4,p5,p6⟩:=jF q1;have LQ:Lq P t 1 #[(0,cn (au ⟨b,oo+0,av⟩))]=au (i.e,#[cn (au ⟨b,oo,av⟩)]):=by
  unfold Lq;simp only[p1,p2];rw[dx (by rw[p3,oW];omega)];have hz:(if 1*inf.size=0 then au #[]else inf.zero.map Value.cells)=au z:=by
   rw[dx (by rw[p3,oW];omega),p5,ym,p6]
  rw[hz];simp only;have AP:GR z (1*inf.size)=z:=by
   rw[p3,oW];have K8:z.size=1:=by rw[q2,oW]
   apply cq;have:=eR (z:=z.toList) 1;rw[Pn,show z.toList.length=1 by simp[K8]]at this;simpa using this
  rw[AP,p3,oW];have K8:z.toList.length=1:=by simp[q2,oW]
  obtain⟨z0,hz0⟩:∃z0,z= #[z0]:=by
   match C2:z.toList,K8 with
   |[a],_=>exact⟨a,by apply cq;simpa using C2⟩
  subst hz0;simp[Instr.fill,Value.cells]
 refine⟨_,_,m4 LQ w,?_⟩;have R1:=R.take hg;have H:=(R1.hp.new (.cells #[cn (au ⟨b,oo,av⟩)] i.e)).lit (l:=[cn (au ⟨b,oo,av⟩)]) (sz:=1) (n:=1) rfl;have H1:Hp k (w.alloc (.cells #[cn (au ⟨b,oo,av⟩)] i.e)) (iu E (m,.sv T mm iF x)::oA i.e 1 (au ⟨w.heap.size,0,av⟩) 1 1 [cn (au ⟨b,oo,av⟩)]::((s.del m).rows.map (iu E)++fz E.F::L)):=by
  refine H.perm ?_;refine(cg _ ?_).trans (.swap _ _ _);exact(ce _ (.swap _ _ _)).trans ni
 have H2:=(H1.imp λq hq=>zOa e1 hq).swap;have H3:Hp k (w.alloc (.cells #[cn (au ⟨b,oo,av⟩)] i.e)) (oA i.e 1 (au ⟨w.heap.size,0,av⟩) [x].length 1 [cn (au ⟨b,oo,av⟩)]::((ba [x].length).map (xZ E.F T mm iF [x] [cn (au ⟨b,oo,av⟩)] av)++((s.del m).rows.map (iu E)++fz E.F::L))):=by
  have H3:=H2.swap.imp (B:=xZ E.F T mm iF [x] [cn (au ⟨b,oo,av⟩)] av 0) λq hq=>by
   unfold xZ;rw[dx (by simp)];exact⟨x,_,l0,rfl,rfl,hq⟩
  exact H3.swap
 obtain⟨E2,t1,t2,t3⟩:=YL (l:=[x]) (by simpa[St.del]using R.nx) rfl (λp hp=>by rw[xj.1 hp];exact⟨_,_,rfl⟩) H3;exact⟨E2,_,_,t1,t2,t3,hk⟩
def zTr (R:Rel k L E s w) {t1 t2 rt:Nat} {x y:V} {xr yr:aa} (hx:VR E x xr) (hy:VR E y yr) {K:V->St->Prop} (h:Ya P t1 t2 s x y K):
 ∃v w',(Builtin.append_ #[t1,t2] rt #[xr,yr]).run P w= .ok v w'/\pz k L E K v w':=by
 unfold Ya at h;split at h<;>first|exact h.elim|skip
 rename_i n2;split at h<;>first|exact h.elim|skip
 rename_i t2' T2 m2 xe l2 AF;obtain⟨i,hi,h⟩:=zM h;obtain⟨hb,h⟩:=zL h;simp only[ld]at hb;have EF:0<i.oO:=by simpa[zg]using hb.1.2
 have oW:=ji hb.2;obtain⟨z,q1,q2,q3,q4⟩:=cL hi;rw[oW]at q1 q2;obtain⟨a2,c2,ug,g1,g2,g3,H⟩:=Up R AF;simp only[VR]at hy;obtain⟨ly,hy,_⟩:=hy;rw[g1]at hy;cases hy;have D9:Src 1 w (.slice a2 l2.length c2) l2.length ug:= .inl ⟨a2,c2,rfl,by obtain⟨q,hq,hs⟩:=H.sat;exact⟨q,nN hq,hs⟩⟩;have D':∀v∈ug,v.oz=bv:=λv hv=>by obtain⟨_,_,rfl⟩:=g3 v hv;rfl
 split at h<;>first|exact h.elim|skip
 ·obtain⟨hlen,hk⟩:=h;simp only[VR,DR]at hx;obtain⟨rfl,_⟩:=hx;obtain⟨a',c',w',jr,H1⟩:=(H.nil i.e 1).append (P:=P) (rt:=rt) q1 hb.1.1 D9 D' q2 EF (by simpa using hlen);simp only[oC,zi]at jr H1;have H2:=H1.swap.drop;obtain⟨E',r1,r2,r3⟩:=YL (rows:=vY n2 s.rows) R.nx g2 g3 H2;exact⟨_,w',jr,E',_,_,r1,r2,r3,hk⟩
 ·rename_i n Ju abd;split at h<;>first|exact h.elim|skip
  rename_i t1' T1 m1 RG l1 hg1;obtain⟨zr,he1,hlen,hk⟩:=h;rw[he1]at hg1;have R1:=R.take AF;obtain⟨a1,c1,Bw,f1,f2,f3,H1⟩:=Up R1 hg1;simp only[VR]at hx;obtain⟨lx,hx,_⟩:=hx;rw[f1]at hx;cases hx;obtain⟨a',c',w',jr,H2⟩:=H1.append (P:=P) (rt:=rt) q1 hb.1.1 D9 D' q2 EF hlen;have p1:(be (xZ E.F T2 m2 xe zr Bw av) (ba zr.length)++(be (iu E) (vY n (s.del n2).rows)++fz E.F::iu E (n2,fw.kg t2' T2 m2 xe l2 av)::L)).Perm
   (iu E (n2,fw.kg t2' T2 m2 xe l2 av)::(be (xZ E.F T2 m2 xe zr Bw av) (ba zr.length)++(be (iu E) (vY n (s.del n2).rows)++fz E.F::L))):=
   (ce _ ((ce _ (.swap _ _ _)).trans ni)).trans ni
  have H3:=(H2.cons p1).swap;have H4:Hp k w' (Rl (oA t2' 1 a2 l2.length c2 ug) (hS ((ba l2.length).map (xZ E.F T2 m2 xe l2 ug av)))::oA i.e 1 a' (zr.length+l2.length) c' (Bw++ug)::(be (xZ E.F T2 m2 xe zr Bw av) (ba zr.length)++(be (iu E) (vY n (s.del n2).rows)++fz E.F::L))):=
   H3.imp λq hq=>by
    rcases hq with⟨e,_⟩|⟨hd,h1,h2⟩
    ·cases e
    ·rw[g1]at h1;cases h1;obtain⟨a3,c3,e3,_,_,e4⟩:=rr.1 h2;cases e3;exact e4
  have H5:=rq.1 (vu.1 H4).drop;have H6:Hp k w' (oA i.e 1 a' (zr++l2).length c' (Bw++ug)::((ba (zr++l2).length).map (xZ E.F T2 m2 xe (zr++l2) (Bw++ug) av)++((vY n (s.del n2).rows).map (iu E)++fz E.F::L))):=by
   have H7:Hp k w' ((ba zr.length).map (xZ E.F T2 m2 xe zr Bw av)++((ba l2.length).map (xZ E.F T2 m2 xe l2 ug av)++(oA i.e 1 a' (zr.length+l2.length) c' (Bw++ug)::((vY n (s.del n2).rows).map (iu E)++fz E.F::L)))):=by
    refine H5.perm ?_;refine(ce _ (ni.symm)).trans ?_;rw[<- km,<- km];exact cf _ Bh
   have H8:=yPz f2 H7;rw[iQ]at H8 ⊢;exact H8.perm ni
  obtain⟨E',r1,r2,r3⟩:=YL (rows:=vY n (s.del n2).rows) (by simpa[St.del]using R1.nx) (by rw[iQ,iQ,f2,g2]) (λp hp=>by
   rcases qq.1 hp with h|h
   ·exact f3 p h
   ·exact g3 p h) H6
  rw[iQ]at r3;exact⟨_,w',jr,E',_,_,r1,r2,r3,hk⟩
def z5l {H:Br} {E:Ev} {s:St} {w:ab} (R:Rel k L E s w) {ρS:xE} {ρ:Env} (he:mf E ρS ρ) {o:ao} {K:V->St->Prop} {t:aj} {x:ar} {lo hi:Option ar} (ho:o.op= .slice t x lo hi av) (h:se P H o ρS s K):
 ∃y,EP P (ac (ev ρ) o) y/\pz k L E K y w:=by
 simp only[se,ho]at h;split at h<;>first|exact h.elim|skip
 rename_i n we;have hx:=he.ev x;rw[we]at hx;have ro:∀{E':Ev} {s':St} {sz:Nat} {fh:List (List D)} {l u:Option Int} {K':V->Prop},E.le E'->Rel k L E' s' w->DR E'.F (.ro sz fh) (ev ρ x)->fF P t=au sz->GL ρS lo=au l->GL ρS hi=au u->M9 sz fh l u K'->(∀v,K' v->K v s')->
  ∃y,EP P (ac (ev ρ) o) y/\pz k L E K y w:=by
  intro E' s' sz fh l u K' hle R' hdr hs h1 h2 yq hk;obtain⟨a,c,v,e1,HT,aaS⟩:=hdr.FY yq;have hp:bI P o ρ (λy=>VR E' v y):=by
   simp only[bI,ho,e1,hs,dU he h1,dU he h2,Ep];exact z2b (λp n c hh=>hh E' rfl) aaS
  obtain⟨y,hy,hf⟩:=fX hp;exact⟨y,hf,E',v,s',hle,R',hy,hk v HT⟩
 split at h<;>first|exact h.elim|skip
 ·rename_i T sz fh hg;obtain⟨oL,hs,h⟩:=zM h;obtain⟨hb,hh⟩:=zL h;clear h;have e:=ji hb;subst e;obtain⟨l,u,h1,h2,h⟩:=rH hh;clear hh;cases l with
  |none=>
   obtain⟨a,c,xs,sub,q1,q2,q3,H⟩:=R.tz hg;have Wx:=hx;simp only[VR]at hx;obtain⟨D6,hx,_⟩:=hx;rw[q1]at hx;have hev:ev ρ x= .slice a fh.length c:=((Prod.mk.inj (cm hx)).1).symm;have hnc:fh.length<=c:=H.len.2;cases u with
   |none=>
    have hp:bI P o ρ (λy=>VR E (.own n) y):=by
     simp only[bI,ho,hev,hs,dU he h1,dU he h2,Ep,uq];exact⟨hnc,by rw[hev]at Wx;exact Wx⟩
    obtain⟨y,hy,hf⟩:=fX hp;exact⟨y,hf,E,_,s,Ev.le.refl _,R,hy,h⟩
   |some u=>
    obtain⟨⟨h3,h4⟩,hk⟩:=h;have hux:(fh.take u.toNat).length=u.toNat:=by rw[oK];omega
    have H2:Hp k w (oA T sz a (fh.take u.toNat).length c (xs.take (u.toNat*sz))::((vY n s.rows).map (iu E)++fz E.F::L)):=by
     refine H.imp λz hz=> ?_
     rw[hux];rcases hz with⟨rfl,z1,rfl,rfl,rfl⟩|⟨b,r,rfl,rfl,z2,z3,z4⟩
     ·left;exact⟨rfl,by omega,rfl,by simp,rfl⟩
     ·right;have hle:u.toNat*sz<=fh.length*sz:=yh _ (by omega);refine⟨b,xs.drop (u.toNat*sz)++r,rfl,?_,?_,?_,by omega⟩
      ·rw[<- km,A3]
      ·rw[oK];omega
      ·rw[<- km,A3];exact z3
    obtain⟨E',r1,r2,r3⟩:=aM (fh:=fh.take u.toNat) R.nx (by rw[<- sG _ q3];exact q2.take _) (λel qf=>q3 el (Po qf)) H2;have hp:bI P o ρ (λy=>VR E' (.own s.nx) y):=by
     simp only[bI,ho,hev,hs,dU he h1,dU he h2,Ep,uq];rw[hux]at r3;exact⟨⟨h3,by omega⟩,r3⟩
    obtain⟨y,hy,hf⟩:=fX hp;exact⟨y,hf,E',_,_,r1,r2,hy,hk⟩
  |some l=>
   have Ha:=OA R (v:= .own n) (d:= .ro sz fh) (s':=s.set n (.kh sz fh)) (by simp only[KK,hg]) hx;obtain⟨E',r1,r2,r3,r4,r5⟩:=Ha;exact ro r1 r3 r5 hs h1 h2 h (λv hv=>hv)
 ·rename_i sz fh hg;obtain⟨oL,hs,h⟩:=zM h;obtain⟨hb,hh⟩:=zL h;clear h;have e:=ji hb;subst e;obtain⟨l,u,h1,h2,h⟩:=rH hh;clear hh;have Ha:=OA R (v:= .own n) (d:= .ro sz fh) (s':=s) (by simp only[KK,hg]) hx;obtain⟨E',r1,r2,r3,r4,r5⟩:=Ha;exact ro r1 r3 r5 hs h1 h2 h (λv hv=>hv)
def z4e {H:Br} (hH:Ia P H) (R:Rel k L E s w) {ρS:xE} {ρ:Env} (he:mf E ρS ρ) {o:ao} {K:V->St->Prop} (h:se P H o ρS s K):ob P (ac (ev ρ) o) w (pz k L E K):=by
 cases ho:o.op
 case alloc e=>
  simp only[se,ho]at h;obtain⟨z,hz,h⟩:=zM h;obtain⟨hb,hk⟩:=zL h;obtain⟨l,hl,hv⟩:=VR.cells (E:=E) hb (Oj E z);simp only[ac,ho];refine yH (v:= .pointer (au ⟨w.heap.size,0,av⟩)) (w':=w.alloc (.cells z.cells e)) ?_ ?_
  ·simp only[Instr.alloc,bind,pure,run_bind,mq (bV hz),cr,zTu]
  ·refine Ub (hd:=(.pointer (au ⟨w.heap.size,0,av⟩),[])) R ?_ (λhg=> ?_) hk
   ·simp only[gg];exact⟨_,l,rfl,im.mono (Ev.le.app _) hv,by rw[hl]⟩
   ·simp only[VR];exact⟨_,0,_,hg,rfl⟩
 case box e x=>
  simp only[se,ho]at h;obtain⟨hb,hk⟩:=zL h;obtain⟨l,hl,hv⟩:=VR.cells (E:=E) hb (he.ev x);obtain⟨E1,us,s1,yb,R1,hv,hk⟩:=Ue hk R hv;simp only[ac,ho];refine yH (v:= .pointer (au ⟨w.heap.size,0,av⟩)) (w':=w.alloc (.cells (ev ρ x).cells e)) rfl (pz.up yb ?_);refine Ub (hd:=(.pointer (au ⟨w.heap.size,0,av⟩),[])) R1 ?_ (λhg=> ?_) hk
  ·simp only[gg];exact⟨_,l,rfl,im.mono (Ev.le.app _) hv,by rw[hl]⟩
  ·simp only[VR];exact⟨_,0,_,hg,rfl⟩
 case buildSlice t len ps=>
  simp only[se,ho]at h;split at h
  ·rename_i m hm;split at h<;>first|exact h.elim|skip
   rename_i T mm iF x hg;obtain⟨i,hi,h⟩:=zM h;obtain⟨hb,hk⟩:=zL h;simp only[ld]at hb;have qu:=ji hb.1;have oG:=ji hb.2;subst oG;obtain⟨v,w',hr,yz⟩:=zYh R hi qu hg (hp:=z0a hm (UY he ps.toList)) hk;simp only[ac,ho];refine yH ?_ yz;have C4:(ps.map λ(x:Nat×ar)=>(x.1,ev ρ x.2))=(ps.toList.map λp=>(p.1,ev ρ p.2)).toArray:=by apply cq;simp
   rw[C4];exact hr
  obtain⟨i,hi,h⟩:=zM h;obtain⟨hb,h⟩:=zL h;split at h<;>first|exact h.elim|skip
  rename_i fh s' hf;obtain⟨z,q1,q2,q3,q4⟩:=cL hi;obtain⟨inf,zv,p1,p2,p3,p4,p5,p6⟩:=jF q1;have NP:iI E.F (bc len i.z).flatten (GR z (len*i.sz)).toList:=by
   rw[<- q2,show z.size=z.toList.length by simp];have:=eR (z:=z.toList) len;rw[Pn]at this;rw[this];exact z1j (q4 E.F) len
  obtain⟨E',Cp,r1,r2,r3,r4,r5,r6,r7,r8⟩:=z4n R hf (UY he ps.toList) (Ow q3) NP;have LQ:Lq P t len (ps.map λ(i,x)=>(i,ev ρ x))=au (i.e,Cp.toArray):=by
   unfold Lq;simp only[p1,p2];rw[dx (by rw[p3];have:=B1 hb;omega)];have hz:(if len*inf.size=0 then au #[]else inf.zero.map Value.cells)=au (if len*inf.size=0 then #[]else z):=by
    split
    ·rfl
    ·rw[p5,ym,p6]
   have AP:GR (if len*inf.size=0 then #[]else z) (len*inf.size)=GR z (len*i.sz):=by
    rw[p3];by_cases h0:len*i.sz=0
    ·rw[fk h0,h0];rfl
    ·rw[dx h0]
   rw[hz];simp only;rw[AP];simp only[p3];rw[Pn]at r8;have C4:(ps.map λ(x:Nat×ar)=>(x.1,ev ρ x.2)).toList=ps.toList.map λp=>(p.1,ev ρ p.2):=by simp
   rw[C4,r8];rfl
  simp only[ac,ho];refine yH (m4 LQ w) ?_;have hlen:fh.length=len:=by rw[r6,CW]
  have Cm:Cp.length=fh.length*i.sz:=by rw[r7.length,j9 r5]
  have H:=(r3.hp.new (.cells Cp.toArray i.e)).lit Cm;obtain⟨E2,t1,t2,t3⟩:=aM r3.nx r7 r5 H;rw[hlen]at t3;exact⟨E2,_,_,r1.trans t1,t2,t3,h⟩
 case makeMap t r=>
  cases r with
  |some r=>simp only[se,ho]at h
  |none=>
   simp only[se,ho]at h;simp only[ac,ho];refine yH (v:= .map (au w.heap.size)) (w':=w.alloc (.map #[] 0)) rfl ?_;refine Ub (hd:=(.map (au w.heap.size),[])) R ?_ (λhg=> ?_) h
   ·simp only[gg];exact⟨_,[],0,rfl,by simp only[MR],yPl,rfl⟩
   ·simp only[VR];exact⟨_,_,hg,rfl⟩
 case makeSlice t l c=>
  simp only[se,ho]at h;split at h<;>first|exact h.elim|skip
  rename_i kl l' kc c' hl hc;obtain⟨i,hi,B6,hk⟩:=zM h;obtain⟨z,q1,q2,q3,q4⟩:=cL hi;have el:=he.ev l;have ec:=he.ev c;rw[hl]at el;rw[hc]at ec;simp only[ac,ho,el.D8,ec.D8];refine yH (zPy q1 B6 w) ?_;have AP:(madeCells z (c'.toNat*i.sz)).toList=(bc c'.toNat z.toList).flatten:=by
   have:=eR (z:=z.toList) c'.toNat;rw[Pn,show z.toList.length=i.sz by simp[q2]]at this;rw[<- this,<- Xz];rfl
  have pk:bc c'.toNat z.toList=bc l'.toNat z.toList++bc (c'.toNat-l'.toNat) z.toList:=by
   rw[List.replicate_append_replicate];congr 1;omega
  have hx:iI E.F (bc l'.toNat i.z).flatten (bc l'.toNat z.toList).flatten:=z1j (q4 E.F) _;have C2:z.toList.length=i.sz:=by simp[q2]
  have H:=R.hp.new (.cells (madeCells z (c'.toNat*i.sz)) i.e);have FB:madeCells z (c'.toNat*i.sz)=((bc l'.toNat z.toList).flatten++(bc (c'.toNat-l'.toNat) z.toList).flatten).toArray:=by
   apply cq;rw[AP,pk,Nn]
  rw[FB]at H ⊢;have H2:=H.AM (n:=l'.toNat) (c:=c'.toNat) (sz:=i.sz) (by rw[j9 (Ow C2),CW]) (by
   rw[iQ,j9 (Ow C2),j9 (Ow C2),CW,CW,<- Aj];congr 1;omega) (by omega)
  obtain⟨E2,t1,t2,t3⟩:=aM (fh:=bc l'.toNat i.z) R.nx hx (Ow q3) (by rw[CW];exact H2);rw[CW]at t3;exact⟨E2,_,_,t1,t2,t3,hk⟩
 case store t x v=>
  simp only[se,ho]at h;have hx:=he.ev x;split at h<;>first|exact h.elim|skip
  ·rename_i n off we;rw[we]at hx;simp only[VR]at hx;obtain⟨b,oo,sub,e1,e2⟩:=hx;obtain⟨WJ,h⟩:=zL h;obtain⟨lv,JB,PK⟩:=VR.cells WJ (he.ev v);obtain⟨E1,us,s1,yb,R1,PK,h⟩:=Ue h R PK;have e1:=yb.get e1;split at h<;>first|exact h.elim|skip
   rename_i vs T hg;obtain⟨m,hm,h⟩:=zM h;obtain⟨hb,hk⟩:=zL h;simp only[ld]at hb;obtain⟨⟨qu,oG⟩,C5⟩:=hb;have qu:=ji qu;have oG:=B1 oG;obtain⟨b',l,D6,q1,q2,q3⟩:=R1.cells hg;rw[e1]at q1;cases q1;have h1:=q2.length;have h2:=PK.length;have jy:=gW (P:=P) (o:=0+off) hm JB (by rw[h2,qu]) (by omega) (z3p C5 PK) q3;simp only[ac,ho,e2];refine wX jy ⟨E1,_,_,yb,R1.setCells hg e1 (Am:=vs.take off++(us++vs.drop (off+m))) ?_,?_,hk⟩
   ·unfold lj;rw[km,oC,h2,qu];exact(q2.take off).append (PK.append (q2.drop _))
   ·simp only[VR];exact⟨[],rfl,im.nil⟩
  ·rename_i n sz i f we;split at h
   ·rename_i xh hxh;rw[we]at hx;simp only[VR]at hx;obtain⟨b,oo,mm,c,sub,e1,e2⟩:=hx;obtain⟨w',jy,ln⟩:=z4m R hxh h (he.ev v) e1;simp only[ac,ho,e2];exact wX jy ln
   split at h<;>first|exact h.elim|skip
   rename_i ds s' hd;split at h<;>first|exact h.elim|skip
   rename_i T oL fh hg;obtain⟨m,hm,h⟩:=zM h;obtain⟨hb,hi,hk⟩:=zL h;simp only[ld]at hb;obtain⟨⟨qu,oG⟩,C5⟩:=hb;have e:=ji qu;subst e;have oG:=ji oG;have C5:=B1 C5;obtain⟨E',ys,q1,q2,q3,q4,q5,q6⟩:=MK R hd (he.ev v);rw[we]at hx;simp only[VR]at hx;obtain⟨b,oo,mm,c,sub,e1,e2⟩:=hx;obtain⟨l,r1,r2,r3⟩:=q3.L4 (ds:=ds) (f:=f) hg hi (by omega) (q1.get e1) q6;have jy:=gW (P:=P) (o:=oo+i*sz+f) hm q5 (by rw[q6.length,oG]) (by rw[q6.length,oG]at r2;exact r2) q6.one r1;simp only[ac,ho,e2];exact wX jy ⟨E',_,_,q1,r3,by simp only[VR];exact⟨[],rfl,im.nil⟩,hk⟩;rename_i T fh hg;obtain⟨m,hm,h⟩:=zM h;obtain⟨hb,hi,hk⟩:=zL h;simp only[ld]at hb;obtain⟨⟨⟨qu,oG⟩,C5⟩,WS⟩:=hb;have qu:=ji qu;have oG:=ji oG;have C5:=ji C5;have WS:=ji WS;subst qu C5 WS;obtain⟨E',ys,q1,q2,q3,q4,q5,q6⟩:=MK R hd (he.ev v);rw[we]at hx;simp only[VR]at hx;obtain⟨b,oo,mm,c,sub,e1,e2⟩:=hx;have C3:=q6.length;obtain⟨y,rfl⟩:∃y,ys=[y]:=List.length_eq_one_iff.1 (by omega);obtain⟨l,r1,r2,r3,r4⟩:=q3.L5 (ds:=ds) hg hi oG (q1.get e1) q6;have jy:=zUw (P:=P) (o:=oo+i) hm q5 (by rw[r4];simpa using r2) (q6.one y jg) r1;simp only[ac,ho,e2];have ea:oo+i*1+0=oo+i:=by omega
   rw[ea];exact wX jy ⟨E',_,_,q1,r3,by simp only[VR];exact⟨[],rfl,im.nil⟩,hk⟩
  ·rename_i n off i we;rw[we]at hx;simp only[VR]at hx;obtain⟨b,oo,sub,e1,e2⟩:=hx;have Wz:=he.ev v;split at h<;>first|exact h.elim|skip
   rename_i u hu;rw[hu]at Wz;have G7:=Wz;simp only[VR,DR]at G7;obtain⟨G7,K9⟩:=G7;split at h<;>first|exact h.elim|skip
   rename_i vs T hg;obtain⟨m,hm,h⟩:=zM h;obtain⟨hb,hi,hk⟩:=zL h;have hb:=ji hb;subst hb;rw[qc]at hi;obtain⟨b',l,D6,q1,q2,q3⟩:=R.cells hg;rw[e1]at q1;cases q1;have h1:=q2.length;have JB:(ev ρ v).cells=[u].toArray:=by
    rw[G7];cases u<;>first|rfl|cases K9
   have jy:=gW (P:=P) (o:=0+(off+i)) hm JB rfl (by omega) (by intro z hz;rw[xj.1 hz];exact K9) q3;simp only[ac,ho,e2];refine wX jy ⟨E,_,_,Ev.le.refl _,R.setCells hg e1 (Am:=vs.take off++(vs.drop off).set i (.d (.v u))) ?_,?_,hk⟩
   ·have e:vs.take off++(vs.drop off).set i (.d (.v u))=vs.take (off+i)++([.d (.v u)]++vs.drop (off+i+1)):=by
     rw[Ns,fk (by rw[qc];omega),CU,List.take_add,km];rfl
    rw[e];unfold lj;rw[km,oC];exact(q2.take _).append ((im.one (by simp only[VR,DR];exact⟨trivial,K9⟩)).append (q2.drop _))
   ·simp only[VR];exact⟨[],rfl,im.nil⟩
   rename_i vs T hg;obtain⟨m,hm,h⟩:=zM h;obtain⟨hb,hi,hk⟩:=zL h;have hb:=ji hb;subst hb;rw[qc]at hi;obtain⟨b',l,D6,q1,q2,q3⟩:=R.vec hg;rw[e1]at q1;cases q1;have h1:=q2.length;have JB:(ev ρ v).cells=[u].toArray:=by
    rw[G7];cases u<;>first|rfl|cases K9
   have jy:=gW (P:=P) (o:=0+(off+i)) hm JB rfl (by omega) (by intro z hz;rw[xj.1 hz];exact K9) q3;simp only[ac,ho,e2];refine wX jy ⟨E,_,_,Ev.le.refl _,R.L3 hg e1 (Db:=vs.take off++(vs.drop off).set i (.v u)) ?_,?_,hk⟩
   ·have e:vs.take off++(vs.drop off).set i (.v u)=vs.take (off+i)++([.v u]++vs.drop (off+i+1)):=by
     rw[Ns,fk (by rw[qc];omega),CU,List.take_add,km];rfl
    rw[e];unfold lj;rw[km,oC];exact(q2.take _).append ((show iI E.F [.v u] [u]from(by simp only[iI,DR];exact⟨_,_,rfl,⟨rfl,K9⟩,rfl⟩)).append (q2.drop _))
   ·simp only[VR];exact⟨[],rfl,im.nil⟩
 case convert st d x=>
  simp only[se,ho]at h;split at h<;>first|exact h.elim|skip
  ·rename_i b hx;obtain⟨hb,h⟩:=zL h;obtain⟨e,tc,hk⟩:=zM h;obtain⟨u1,u2⟩:=zWt tc;have hv:=he.ev x;rw[hx]at hv;simp only[VR,DR]at hv;simp only[ac,ho,hv.1];have jr:=Lib.run_convert_string_bytes (P:=P) w st d e b (pY hb) u1 u2;refine yH jr ?_;exact z8i R b e hk
  ·rename_i n hx;split at h<;>first|exact h.elim|skip
   rename_i T sz fh hg;obtain⟨hb,h⟩:=zL h;simp only[ld]at hb;have jy:=ji hb.1;have oW:=ji hb.2;obtain⟨e,tc,h2⟩:=zM h;obtain⟨hTb,Ad,hk⟩:=zL h2;have hT:=ji hTb;subst jy oW hT;obtain⟨u1,u2⟩:=zWt tc;have hv:=he.ev x;rw[hx]at hv;simp only[VR]at hv;obtain⟨l0,e1,a0,m0,c0,e2⟩:=hv;obtain⟨a,c,xs,sub,q1,q2,q3,H⟩:=R.tz hg;rw[q1]at e1;rcases H.oP with⟨_,h0,_⟩|⟨b,r,rfl,r1,r2,r3,H1⟩
   ·omega
   have jr:=yIw (P:=P) (w:=w) (b:=b) (l:=xs++r) (T:=T) (t:=st) H1.get u1 u2 fh.length c;have H2:=H1.oc (.cells (xs++r).toArray T ((xs++r).length,(xs++r).length+1));have H3:Hp k (World.ja w b (.cells (xs++r).toArray T ((xs++r).length,(xs++r).length+1))) (pt b (.cells (xs++r).toArray T ((xs++r).length,(xs++r).length+1))::fz E.F::((vY n s.rows).map (iu E)++L)):=H2.cons ni;obtain⟨y,hy,hd,jb,H4⟩:=Xx H3;have hle:E.le ⟨un y E.F,E.gu⟩:=⟨yAp hd,Jg _⟩
   have H5:=vD (λr x=>iu.mono hle r) (H4.perm (ni (l₁:=(vY n s.rows).map (iu E)) (l₂:=L) (a:=fz (un y E.F))).symm);have H6:Hp k (World.ja w b (.cells (xs++r).toArray T ((xs++r).length,(xs++r).length+1))) (iu ⟨un y E.F,E.gu⟩ (n,.kh 1 fh)::((vY n s.rows).map (iu ⟨un y E.F,E.gu⟩)++fz (un y E.F)::L)):=by
    have:=(@gV k _ True _).2 ⟨trivial,H5⟩;refine this.imp λz hz=> .inr ⟨_,q1,?_⟩
    simp only[gg];refine⟨hz.2,?_⟩;simp only[DR];refine⟨_,c,rfl,r3,q3,.inr ⟨b,0,xs++r,T,((xs++r).length,(xs++r).length+1),rfl,?_,o8.2 ⟨xs,r,rfl,q2.mono hle.1⟩⟩⟩;rw[show y=one b _ from hy];simp[un,one]
   have R2:Rel k L ⟨un y E.F,E.gu⟩ (s.set n (.kh 1 fh)) (World.ja w b (.cells (xs++r).toArray T ((xs++r).length,(xs++r).length+1))):=by
    refine⟨by simpa[St.set]using R.nx,H6.perm ?_⟩;have:=(((uG hg).2 (.kh 1 fh)).map (iu ⟨un y E.F,E.gu⟩)).append_right (fz (un y E.F)::L);simpa[St.set]using this.symm
   have e3:ev ρ x= .slice (au ⟨b,0,av⟩) fh.length c:=(congrArg Prod.fst (cm e1)).symm;simp only[ac,ho];rw[e3];exact yH jr ⟨_,_,_,hle,R2,by simp only[VR];exact⟨_,q1,_,_,_,rfl⟩,hk⟩
 case slice t x lo hi mx=>
  cases mx with
  |some m=>simp only[se,ho]at h
  |none=>
   obtain⟨y,hf,yz⟩:=z5l R he ho h;exact wO (hf w) yz
 case mapUpdate t x i v=>
  simp only[se,ho]at h;split at h<;>first|exact h.elim|skip
  rename_i n hx;obtain⟨ke,B4,h⟩:=zM h;obtain⟨kv,HT,h⟩:=zM h;obtain⟨hb,h⟩:=zL h;simp only[ld]at hb;split at h<;>first|exact h.elim|skip
  rename_i ds s1 hd;split at h<;>first|exact h.elim|skip
  rename_i es hg;obtain⟨Bm,hk⟩:=h;obtain⟨E1,ys,q1,q2,q3,q4,q5,q6⟩:=MK R hd (he.ev v);have Fh:=he.ev x;rw[hx]at Fh;simp only[VR]at Fh;obtain⟨bm,sub,e1,e2⟩:=Fh;have e1:=q1.get e1;rw[e2]at e1;obtain⟨gn,ck,r1,r2,rb,r3⟩:=q3.FX (Da:=jI kv ds es) hg e1;have hi:ev ρ i=kv:=tZ HT (he.ev i);obtain⟨kd,hu,zw⟩:=Ve hb.1;have AO:=z2c hb.2 (he.ev v) q5;have run:∃iU ui,MR E1.F (jI kv ds es) iU/\uL iU ui/\(Instr.mapUpdate t (.map (au bm)) kv (ev ρ v)).run P w= .ok () (World.ja w bm (.map iU.toArray ui)):=by
   rcases MY zw 0 r1 Bm with⟨t1,t2,t3,t4,_⟩|⟨q,m,Db,DL,t1,t2,t3,t4,t5,t6,t7,t8,_⟩
   ·refine⟨gn++[{key:=kv,val:=ev ρ v,born:=ck}],ck+1,by rw[t3];exact z1a q6 (e:={key:=kv,val:=ev ρ v,born:=ck}) rfl AO r1,zVk rb rfl,?_⟩;simp only[Instr.mapUpdate,bind,run_bind,Cv.run_underlying (gU B4),qR r2 trivial,pure,cr,wH hu zw,vL hu t1];rw[gA r2 trivial];simp
   ·refine⟨gn.set q {m with key:=kv,val:=ev ρ v},ck,t7 _ _ _ q6 rfl AO,XE rb t2 rfl,?_⟩;have hq:(gn.toArray[0+q]?).map (·.key)=au kv:=by simp[t2,t3]
    simp only[Instr.mapUpdate,bind,run_bind,Cv.run_underlying (gU B4),qR r2 trivial,pure,cr,wH hu zw,vL hu t1,hq,zj,Instr.keyThatStays,zId zw,if_true];rw[gA r2 trivial];congr 4;rw[List.modify_toArray];congr 1;rw[oC,List.modify_eq_set,t2];rfl
  obtain⟨iU,ui,u1,ub,u2⟩:=run;simp only[ac,ho,e2,hi];exact wX u2 ⟨E1,.jm [],_,q1,r3 iU ui u1 ub,by simp only[VR];exact⟨[],rfl,im.nil⟩,hk⟩
 case mapEntry t x i=>
  simp only[se,ho]at h;split at h<;>first|exact h.elim|skip
  rename_i n hx;obtain⟨ke,B4,h⟩:=zM h;obtain⟨kv,HT,h⟩:=zM h;obtain⟨P7,h⟩:=zL h;obtain⟨z,hz,h⟩:=zM h;split at h<;>first|exact h.elim|skip
  rename_i es hg;obtain⟨Bm,b,h⟩:=h;obtain⟨ds,h⟩:=mC h;obtain⟨P4,h⟩:=h;obtain⟨v,hm,hk⟩:=zM h;have Fh:=he.ev x;rw[hx]at Fh;simp only[VR]at Fh;obtain⟨bm,sub,e1,e2⟩:=Fh;rw[e2]at e1;obtain⟨gn,ck,r1,r2,rb,r3⟩:=R.Ix (Da:=jI kv ds es) (kv:=kv) hg e1;have hi:ev ρ i=kv:=tZ HT (he.ev i);obtain⟨kd,hu,zw⟩:=Ve P7;have run:∃iU ui y born,MR E.F (jI kv ds es) iU/\uL iU ui/\TK iU kv born/\VR E v y/\(Instr.mapEntry t (.map (au bm)) kv).run P w= .ok (.tuple #[y,.int .i64 born]) (World.ja w bm (.map iU.toArray ui)):=by
   rcases MY zw 0 r1 Bm with⟨t1,t2,t3,t4,t5⟩|⟨q,m,Db,DL,t1,t2,t3,t4,t5,t6,t7,t8,t9⟩
   ·rcases P4 with⟨l1,l2⟩|⟨l1,l2,l3⟩
    ·rw[t2]at l1;cases l1
    ·subst l2 l3;obtain⟨zv,ys,z1,z2,z3⟩:=yIo (F:=E.F) hz hm;refine⟨gn++[{key:=kv,val:=zv,born:=ck}],ck+1,zv,ck,by rw[t3];exact z1a z2 (e:={key:=kv,val:=zv,born:=ck}) rfl z3 r1,zVk rb rfl,⟨kd,zw,gn.length,_,by have:=t5 {key:=kv,val:=zv,born:=ck} rfl;rwa [oC]at this,by simp,rfl⟩,by rw[z3];exact Xr hm z2,?_⟩;simp only[Instr.mapEntry,bind,run_bind,Cv.run_underlying (gU B4),qR r2 trivial,pure,cr,wH hu zw,vL hu t1,mq (bV z1)];rw[gA r2 trivial];simp[goInt]
   ·rcases P4 with⟨l1,l2⟩|⟨l1,l2,l3⟩
    ·rw[t4]at l1;cases l1;refine⟨gn.set q {m with key:=kv},ck,m.val,m.born,t7 _ _ _ t5 rfl t6,XE rb t2 rfl,⟨kd,zw,q,{m with key:=kv},by have:=t9 {m with key:=kv} rfl;rwa [oC]at this,by
      rw[List.getElem?_set_self (ju.1 t2).1],rfl⟩,by rw[t6];exact Xr hm t5,?_⟩
     have hq:(gn.toArray[0+q]?).map (·.key)=au kv:=by simp[t2,t3]
     have PY:((gn.toArray[0+q]?).map λx=>((x.born:Nat):Int))=au (m.born:Int):=by simp[t2]
     simp only[Instr.mapEntry,bind,run_bind,Cv.run_underlying (gU B4),qR r2 trivial,pure,cr,wH hu zw,vL hu t1,hq,PY,zj,Instr.keyThatStays,zId zw,if_true];rw[gA r2 trivial];simp only[goInt,PY,zj];congr 3;rw[List.modify_toArray];congr 1;rw[oC,List.modify_eq_set,t2];rfl
    ·rw[t4]at l1;cases l1
  obtain⟨iU,ui,y,born,u1,ub,us,uy,u2⟩:=run;simp only[ac,ho,e2,hi];exact yH u2 ⟨E,.jm [v,.d (.v (.int .i64 born))],_,Ev.le.refl _,r3 iU ui born u1 ub us,by simp only[VR,im,DR];exact⟨_,rfl,_,_,rfl,uy,_,_,rfl,⟨rfl,rfl⟩,rfl⟩,hk born⟩
 case entryStore t x st v=>
  simp only[se,ho]at h;split at h<;>first|exact h.elim|skip
  rename_i n hx;split at h<;>first|exact h.elim|skip
  rename_i ik b jy;obtain⟨ke,B4,h⟩:=zM h;obtain⟨hb,h⟩:=zL h;split at h<;>first|exact h.elim|skip
  rename_i ds s1 hd;split at h<;>first|exact h.elim|skip
  rename_i es kv b' hg;obtain⟨rfl,Bm,hk⟩:=h;obtain⟨E1,ys,q1,q2,q3,q4,q5,q6⟩:=MK R hd (he.ev v);have Fh:=he.ev x;rw[hx]at Fh;simp only[VR]at Fh;obtain⟨bm,sub,e1,e2⟩:=Fh;have e1:=q1.get e1;rw[e2]at e1;have hsv:=he.ev st;rw[jy]at hsv;simp only[VR,DR]at hsv;obtain⟨gn,ck,r1,r2,rb,⟨kd,zw,q,m,u1,u2,u3⟩,r3⟩:=q3.Iw (Da:=jI kv ds es) hg e1;have AO:=z2c hb (he.ev v) q5;rcases MY zw 0 r1 Bm with⟨t1,t2,t3,t4,t5⟩|⟨q',m',Db,DL,t1,t2,t3,t4,t5,t6,t7,t8,t9⟩
  ·rw[t1]at u1;cases u1
  ·rw[t1]at u1;simp only[ci,Prod.mk.injEq,oC]at u1;obtain⟨rfl,_⟩:=u1;rw[t2]at u2;cases u2;have hfi:=yHl rb.1 t2;have run:(Instr.entryStore t (.map (au bm)) (ev ρ st) (ev ρ v)).run P w= .ok () (World.ja w bm (.map (gn.set q' {m with val:=ev ρ v}).toArray ck)):=by
    rw[hsv.1,<- u3];have hfa:gn.toArray.findIdx? (λe=>((e.born:Nat):Int)==((m.born:Nat):Int))=au q':=by simpa using hfi
    simp only[Instr.entryStore,bind,run_bind,qR r2 trivial,pure,cr,asInt,asIntOf,hfa];rw[gA r2 trivial];congr 2;rw[List.modify_toArray];congr 1;rw[List.modify_eq_set,t2];rfl
   simp only[ac,ho,e2];exact wX run ⟨E1,.jm [],_,q1,r3 _ ck (t7 _ _ _ q6 t3 AO) (XE rb t2 rfl),by simp only[VR];exact⟨[],rfl,im.nil⟩,hk⟩
 case range t x=>
  simp only[se,ho]at h;split at h<;>first|exact h.elim|skip
  rename_i b hx;obtain⟨hs,hk⟩:=zL h;have hv:=he.ev x;rw[hx]at hv;simp only[VR,DR]at hv;simp only[ac,ho,hv.1];refine yH (v:= .pointer (au ⟨w.heap.size,0,av⟩)) (w':=w.alloc (.stringIter b 0)) ?_ ?_
  ·simp only[Instr.range,bind,pure,run_bind,cu,Cv.run_underlying (pY hs)];rfl
  ·refine Ub (hd:=(.pointer (au ⟨w.heap.size,0,av⟩),[])) R ?_ (λhg=> ?_) hk
   ·simp only[gg];exact⟨_,rfl,rfl⟩
   ·simp only[VR];exact⟨_,0,_,hg,rfl⟩
 case next x isS=>
  cases isS with
  |false=>simp only[se,ho]at h
  |true=>
   simp only[se,ho]at h;split at h<;>first|exact h.elim|skip
   rename_i n hx;split at h<;>first|exact h.elim|skip
   rename_i b pos hg;have hv:=he.ev x;rw[hx]at hv;simp only[VR]at hv;obtain⟨bb,oo,sub,e1,e2⟩:=hv;obtain⟨hd,hh,e3,e4,_⟩:=R.row hg (by simp);rw[e1]at e3;cases e3;simp only[gg]at e4;obtain⟨b2,e4,_⟩:=e4;cases e4;have hS:=λpos'=>R.setIter (pos':=pos') hg e1
   have kj:=(hS 0).1;simp only[ac,ho,e2];rcases yBj h with⟨hb,hk⟩|⟨hb,hk⟩
   ·have iq:pos<b.size:=by simpa[zg]using hb
    refine yH (v:= .tuple #[.bool bv,.int .i64 (pos:Nat),.int .i32 (Utf8.decode b pos).1]) (w':=World.ja w bb (.stringIter b (pos+(Utf8.decode b pos).2))) ?_
     ⟨E,_,_,Ev.le.refl _,(hS _).2,?_,hk⟩
    ·simp only[Instr.next,bind,pure,run_bind,cu,cr,qR kj trivial,fk iq,gA kj trivial];rfl
    ·simp only[VR,im,DR];exact⟨_,rfl,_,_,rfl,⟨rfl,rfl⟩,_,_,rfl,⟨rfl,rfl⟩,_,_,rfl,⟨rfl,rfl⟩,rfl⟩
   ·have iq:¬pos<b.size:=by
     intro h';have:ax pos b.size=bv:=by rw[zg];exact h'
     rw[this]at hb;cases hb
    refine yH (v:= .tuple #[.bool cd]) (w':=w) ?_ ⟨E,_,_,Ev.le.refl _,R,?_,hk⟩
    ·simp only[Instr.next,bind,pure,run_bind,cu,cr,qR kj trivial,dx iq]
    ·simp only[VR,im,DR];exact⟨_,rfl,_,_,rfl,⟨rfl,rfl⟩,rfl⟩
 case call c=>
  simp only[se,ho]at h;split at h<;>first|exact h.elim|skip
  ·rename_i x hc;split at h<;>first|exact h.elim|skip
   rename_i f a b hx;have hv:=he.ev x;rw[hx]at hv;simp only[VR]at hv;obtain⟨as,bs,e1,e2,e3⟩:=hv;obtain⟨ys,e4,e5⟩:=mA he c.args;have jr:(ac (ev ρ) o)=ag f (as++(ys++bs)).toArray:=by
    have uk:ac (ev ρ) o=(resolve (ev ρ) c o.type).bind λd=>invoke d.target d.args:=by
     simp only[ac,ho];rfl
    rw[uk];unfold resolve;rw[hc];simp only[e1,Deferred.ofValue,pure,cu,invoke,e4];congr 1;apply cq;simp
   rw[jr];exact z2j hH R h (e2.append (e5.append e3))
  ·rename_i hc;split at h<;>first|exact h.elim|skip
   rename_i t1 t2 hts;split at h<;>first|exact h.elim|skip
   rename_i x y ot;obtain⟨ys,e1,e2⟩:=mA he c.args;rw[ot]at e2;simp only[im]at e2;obtain⟨xr,_,rfl,hx,yr,_,rfl,hy,rfl⟩:=e2;have ht:c.argTypes= #[t1,t2]:=by apply cq;simpa using hts
   rw[wG ho hc,e1,ht];cases Jy:yJz s y with
   |false=>
    rw[Jy]at h;obtain⟨v,w',hr,yz⟩:=zVc (rt:=o.type) R hx hy h;exact yH hr yz
   |true=>
    rw[Jy]at h;obtain⟨v,w',hr,yz⟩:=zTr (rt:=o.type) R hx hy h;exact yH hr yz
  ·rename_i hc;split at h<;>first|exact h.elim|skip
   rename_i n y ot;obtain⟨t,ht,h⟩:=zM h;obtain⟨ke,B4,h⟩:=zM h;obtain⟨kv,HT,h⟩:=zM h;obtain⟨P7,h⟩:=zL h;split at h<;>first|exact h.elim|skip
   rename_i es hg;obtain⟨Bm,hk⟩:=h;obtain⟨ys,e1,e2⟩:=mA he c.args;rw[ot]at e2;simp only[im,VR]at e2;obtain⟨mv,_,rfl,⟨bm,sub,e3,rfl⟩,yv,_,rfl,hy,rfl⟩:=e2;obtain rfl:=tZ HT hy;obtain⟨gn,ck,r1,r2,rb,r3⟩:=R.FX (Da:=rC yv es) hg e3;obtain⟨kd,hu,zw⟩:=Ve P7;have run:∃iU ui,MR E.F (rC yv es) iU/\uL iU ui/\(Builtin.delete_ c.argTypes o.type #[.map (au bm),yv]).run P w= .ok (.tuple #[]) (World.ja w bm (.map iU.toArray ui)):=by
    rcases MY zw 0 r1 Bm with⟨t1,t2,t3,t4,_⟩|⟨q,m,Db,DL,t1,t2,t3,t4,t5,t6,t7,t8,_⟩
    ·refine⟨gn,ck,by rw[t4];exact r1,rb,?_⟩;simp only[Builtin.delete_,ht,A4,CX,A5,bind,run_bind,Cv.run_underlying (gU B4),qR r2 trivial,pure,cr,wH hu zw,vL hu t1];rw[gA r2 trivial]
    ·refine⟨gn.eraseIdx q,ck,t8,yAg rb,?_⟩;simp only[Builtin.delete_,ht,A4,CX,A5,bind,run_bind,Cv.run_underlying (gU B4),qR r2 trivial,pure,cr,wH hu zw,vL hu t1];rw[gA r2 trivial];simp
   obtain⟨iU,ui,u1,ub,u2⟩:=run;rw[wG ho hc,e1];exact yH u2 ⟨E,.jm [],_,Ev.le.refl _,r3 iU ui u1 ub,by simp only[VR];exact⟨[],rfl,im.nil⟩,hk⟩
 all_goals(simp only[se,ho]at h)
def zJn {n c:Nat} {x:fw} (h:aw n c=cd):∀{l:List (Nat×fw)},lV n (tM c x l)=lV n l
 |[]=>rfl
 |(m,o)::l=>by
  simp only[tM];cases hb:aw m c
  ·simp only[cond_false,lV];cases hm:aw m n
   ·simp only[cond_false];exact zJn h
   ·rfl
  ·have:=ji hb;subst this;have h':aw m n=cd:=by
    cases hm:aw m n
    ·rfl
    ·have:=ji hm;subst this;rw[Nat.beq_refl]at h;cases h
   simp only[cond_true,lV,h',cond_false]
def a8 {n:Nat} {x:fw}:∀{l:List (Nat×fw)},lV n l≠av->lV n (tM n x l)=au x
 |[],h=>absurd rfl h
 |(m,o)::l,h=>by
  simp only[lV,tM]at h ⊢;cases hb:aw m n
  ·rw[hb]at h;simp only[lV,hb,cond_false]at h ⊢;exact a8 h
  ·simp only[lV,hb,cond_true]
def zVv {n:Nat} {x y:fw}:∀{l:List (Nat×fw)},tM n y (tM n x l)=tM n y l
 |[]=>rfl
 |(m,o)::l=>by
  simp only[tM];cases hb:aw m n
  ·simp only[cond_false,tM,hb];rw[zVv]
  ·simp only[cond_true,tM,hb]
def ySq {l:List aa} {o:Nat} {y:aa} (h:o<l.length):lj l o [y]=l.set o y:=by
 unfold lj;rw[Ns,fk h];simp
def Rel.GC {k:Ko} {L:List HP} {w:ab} {E:Ev} {s:St} (R:Rel k L E s w) {q:Bool} {n c T sz i f t2 wv:Nat} {fh lv:List (List D)} (hg:s.get n=au (.vh q T sz fh i f bv (au c))) (hc:s.get c=au (.own t2 wv lv)) (jf:aw n c=cd) (hi:i<fh.length) (hf:f<sz) {y:aa} (hv:VR E (.own n) y):
 ∃E',E.le E'/\E'.gu=E.gu/\Rel k L E' ((s.set c (.kh wv lv)).set n (.kh sz (zX fh i f [.ro wv lv]))) w/\DR E'.F (.ro sz (zX fh i f [.ro wv lv])) y:=by
 obtain⟨E1,q1,q2,R1⟩:=R.freeze hc;have g1:(s.set c (.kh wv lv)).get n=au (.vh q T sz fh i f bv (au c)):=by
  simp only[St.get,St.set]at hg ⊢;rw[zJn jf,hg]
 have g2:(s.set c (.kh wv lv)).get c=au (.kh wv lv):=by
  simp only[St.get,St.set]at hc ⊢;exact a8 (by rw[hc];simp)
 obtain⟨hdc,xc,c1,c2,_⟩:=R1.row g2 (by simp);simp only[gg]at c2;have R2:Rel k L E1 ((s.set c (.kh wv lv)).set n (.own T sz (zX fh i f [.ro wv lv]))) w:=by
  refine R1.ov g1 ((R1.focus g1).imp λx hx=> ?_);rcases hx with⟨e,_⟩|⟨hd,h1,h2⟩
  ·cases e
  refine .inr ⟨hd,h1,?_⟩;simp only[gg]at h2 ⊢;obtain⟨a,kk,ys,xs,e1,e2,e3,⟨z,l,e4,e5,e6⟩,e7⟩:=h2;rw[c1]at e4;cases e4;obtain⟨f1,f2⟩:=pE i f [.ro wv lv] e3 hi (by simp only[iY,Al];omega);have hlen:(zX fh i f [.ro wv lv]).length=fh.length:=by simp[zX]
  have C3:ys.length=fh.length*sz:=by rw[e2.length,j9 e3]
  have qt:i*sz+sz<=fh.length*sz:=by
   have:=yh sz (show i+1<=fh.length by omega);rwa [Ak]at this
  refine⟨a,kk,xs,by rw[hlen];exact e1,?_,f2,by rw[hlen];exact e7⟩;rw[f1,e6,cond_true,<- ySq (by omega)];exact OH e2 (by simp only[iI];exact⟨_,_,rfl,c2.2,rfl⟩) _
 have g3:((s.set c (.kh wv lv)).set n (.own T sz (zX fh i f [.ro wv lv]))).get n=au (.own T sz (zX fh i f [.ro wv lv])):=by
  simp only[St.get,St.set]at g1 ⊢;exact a8 (by rw[g1];simp)
 obtain⟨E2,r1,r2,R3⟩:=R2.freeze g3;have e:((s.set c (.kh wv lv)).set n (.own T sz (zX fh i f [.ro wv lv]))).set n (.kh sz (zX fh i f [.ro wv lv]))=(s.set c (.kh wv lv)).set n (.kh sz (zX fh i f [.ro wv lv])):=by
  simp only[St.set,zVv]
 rw[e]at R3;have g4:((s.set c (.kh wv lv)).set n (.kh sz (zX fh i f [.ro wv lv]))).get n=au (.kh sz (zX fh i f [.ro wv lv])):=by
  simp only[St.get,St.set]at g1 ⊢;exact a8 (by rw[g1];simp)
 obtain⟨hdn,xn,n1,n2,_⟩:=R3.row g4 (by simp);simp only[gg]at n2;simp only[VR]at hv;obtain⟨l,v1,_⟩:=hv;rw[r2,q2,v1]at n1;cases n1;exact⟨E2,q1.trans r1,r2.trans q2,R3,n2.2⟩
@[reducible] def NM:=List (Nat×Nat)
def yB (p:Nat):NM->Option Nat
 |[]=>av
 |(q,n)::l=>bif aw q p then au n else yB p l
def Wp:aa->aa->Prop
 | .int k a,.int k' b=>bif xw k k' then a=b else False
 | .bool a,.bool b=>a=b
 | .string a,.string b=>a=b
 | .pointer av,.pointer av=>True
 | .slice av 0 0,.slice av 0 0=>True
 | .map av,.map av=>True
 | .nilFunc,.nilFunc=>True
 | .nilIface,.nilIface=>True
 |_,_=>False
def yNy {x y:aa} (h:Wp x y):x=y:=by
 unfold Wp at h;split at h<;>first|exact h.elim|rfl|(subst h;rfl)|skip
 obtain⟨hk,rfl⟩:=zL h;rw[zXw hk]
def dEq:D->D->Prop
 | .v x,.v y=>Wp x y
 | .ro sz fh,.ro oL mh=>bif aw sz oL then fh=mh else False
 | .ro _ fh,.v (.slice av 0 0)=>fh=[]
 |_,_=>False
def yZu {F:PH} {p q:D} {y:aa} (h:dEq p q) (hq:DR F q y):DR F p y:=by
 unfold dEq at h;split at h<;>first|exact h.elim|skip
 ·rw[yNy h];exact hq
 ·obtain⟨hb,rfl⟩:=zL h;rw[ji hb];exact hq
 ·subst h;simp only[DR]at hq ⊢;exact⟨av,0,hq.1,mg _,by simp,.inl trivial⟩
def Ks (p n:Nat) (π:NM) (K:NM->Prop):Prop:=
 match yB p π with
 |some m=>bif aw m n then K π else False
 |none=>K ((p,n)::π)
mutual
def B2:V->V->NM->St->(NM->St->Prop)->Prop
 | .top,_,π,s,K=>K π s
 | .d p,a,π,s,K=>match a with
   | .d q=>dEq p q/\K π s
   | .own n=>match p with
     | .ro sz fh=>match s.get n with
       |some (.own _ oL mh)=>bif aw sz oL then fh=mh/\K π (s.set n (.kh oL mh))else False
       |some (.kh oL mh)=>bif aw sz oL then fh=mh/\K π s else False
       |some (.vh bv T oL mh i f b (au c))=>match s.get c with
        |some (.own _ wv lv)=>bif aw sz oL && !(aw n c)then(b=bv/\i<mh.length/\f<sz/\fh=zX mh i f [.ro wv lv])/\K π ((s.set c (.kh wv lv)).set n (.kh oL fh))else False
        |_=>False
       |_=>False
     |_=>False
   |_=>False
 | .nm p o,a,π,s,K=>match a with
   | .nm n o'=>bif aw o o' then Ks p n π λπ=>K π s else False
   |_=>False
 | .el p sz i f,a,π,s,K=>match a with
   | .el n oL i' f'=>bif aw sz oL && aw f f' then i=i'/\Ks p n π λπ=>K π s else False
   |_=>False
 | .own p,a,π,s,K=>match a with
   | .own n=>Ks p n π λπ=>K π s
   | .d (.v (.slice av 0 0))=>match yB p π with
     |none=>K ((p,s.nx)::π) (s.new .AN)
     |some _=>False
   |_=>False
 | .mp p,a,π,s,K=>match a with
   | .mp n=>Ks p n π λπ=>K π s
   |_=>False
 | .agg l,a,π,s,K=>match a with
   | .agg l'=>DS l l' π s K
   |_=>False
 | .jm l,a,π,s,K=>match a with
   | .jm l'=>DS l l' π s K
   |_=>False
 | .fn f x y,a,π,s,K=>match a with
   | .fn f' x' y'=>bif aw f f' then DS x x' π s λπ s=>DS y y' π s K else False
   |_=>False
 | .An t x,a,π,s,K=>match a with
   | .An t' x'=>bif aw t t' then B2 x x' π s K else False
   |_=>False
 |_,_,_,_,_=>False
def DS:List V->List V->NM->St->(NM->St->Prop)->Prop
 |[],l,π,s,K=>match l with
  |[]=>K π s
  |_=>False
 |v::vs,l,π,s,K=>match l with
  |u::us=>B2 v u π s λπ s=>DS vs us π s K
  |[]=>False
end
def Loc (π:NM) (gu tl:List Hd):Prop:=∀p n,yB p π=au n->∃hd,gu[n]?=au hd/\tl[p]?=au hd
def Ext (π π':NM):Prop:=∀p n,yB p π=au n->yB p π'=au n
def AI (π:NM) (gu:List Hd):Prop:=∀p n,yB p π=au n->∃hd,gu[n]?=au hd
def Ext.refl (π:NM):Ext π π:=λ_ _ h=>h
def Ext.trans {a b c:NM} (h:Ext a b) (h':Ext b c):Ext a c:=λp n e=>h' p n (h p n e)
def AI.mono {π:NM} {E E':Ev} (h:AI π E.gu) (hle:E.le E'):AI π E'.gu:=λp n e=>let⟨hd,q⟩:=h p n e;⟨hd,hle.get q⟩
def PV (E:Ev) (π:NM) (v:V) (y:aa):Prop:=∀E2 π2,E.le E2->Ext π π2->∀tl,Loc π2 E2.gu tl->VR ⟨E2.F,tl⟩ v y
def W6 (E:Ev) (π:NM) (v:List V) (y:List aa):Prop:=∀E2 π2,E.le E2->Ext π π2->∀tl,Loc π2 E2.gu tl->im ⟨E2.F,tl⟩ v y
def PV.mono {E E':Ev} {π π':NM} {v:V} {y:aa} (h:PV E π v y) (hle:E.le E') (hx:Ext π π'):PV E' π' v y:=λE2 π2 a b tl c=>h E2 π2 (hle.trans a) (hx.trans b) tl c
def W6.mono {E E':Ev} {π π':NM} {v:List V} {y:List aa} (h:W6 E π v y) (hle:E.le E') (hx:Ext π π'):W6 E' π' v y:=λE2 π2 a b tl c=>h E2 π2 (hle.trans a) (hx.trans b) tl c
def sQ {p n:Nat} {π:NM} {gu:List Hd} {K:NM->Prop} (h:Ks p n π K) (hw:AI π gu) {hd:Hd} (hn:gu[n]? =au hd):∃π',Ext π π'/\AI π' gu/\yB p π'=au n/\K π':=by
 unfold Ks at h;split at h
 ·rename_i m hm;obtain⟨hb,hk⟩:=zL h;have:=ji hb;subst this;exact⟨π,Ext.refl _,hw,hm,hk⟩
 ·rename_i hm;refine⟨_,λq m e=> ?_,λq m e=> ?_,by simp[yB],h⟩
  ·simp only[yB];cases hb:aw p q
   ·exact e
   ·have:=ji hb;subst this;rw[hm]at e;cases e
  ·simp only[yB]at e;cases hb:aw p q
   ·rw[hb]at e;exact hw q m e
   ·rw[hb]at e;cases e;exact⟨hd,hn⟩
variable {k:Ko} {L:List HP} {w:ab}
structure ye (k:Ko) (L:List HP) (w:ab) (E:Ev) (π:NM) (E':Ev) (π':NM) (s':St):Prop where
 le:E.le E'
 ext:Ext π π'
 wf:AI π' E'.gu
 rel:Rel k L E' s' w
def ye.trans {E E1 E2:Ev} {π π1 π2:NM} {s1 s2:St} {L1 L2:List HP} (a:ye k L1 w E π E1 π1 s1) (b:ye k L2 w E1 π1 E2 π2 s2):ye k L2 w E π E2 π2 s2:=⟨a.le.trans b.le,a.ext.trans b.ext,b.wf,b.rel⟩
def Rel.F3 {E:Ev} {s:St} (R:Rel k L E s w):∃E',E.le E'/\Rel k L E' (s.new .AN) w/\E'.gu[s.nx]? =au (.slice av 0 0,[]):=by
 have hle:E.le ⟨E.F,E.gu++[(.slice av 0 0,[])]⟩:=Ev.le.app _;have kj:(E.gu++[((.slice av 0 0,[]):Hd)])[s.nx]? =au (.slice av 0 0,[]):=by rw[<- R.nx];simp
 refine⟨_,hle,⟨by simp[St.new,R.nx],?_⟩,kj⟩;have H2:=vD (λr x=>iu.mono hle r) R.hp;have:=(@gV k w True _).2 ⟨trivial,H2⟩;exact this.imp λx hx=> .inr ⟨_,kj,by simp only[gg];exact⟨hx.2,trivial,trivial⟩⟩
mutual
theorem z9l:∀{v a:V} {π:NM} {s:St} {K:NM->St->Prop} {E:Ev} {y:aa},B2 v a π s K->Rel k L E s w->AI π E.gu->VR E a y->∃E' π' s',ye k L w E π E' π' s'/\PV E' π' v y/\K π' s'
 | .top,a,π,s,K,E,y,h,R,hw,hv=>by
   simp only[B2]at h;exact⟨E,π,s,⟨Ev.le.refl _,Ext.refl _,hw,R⟩,λ_ _ _ _ _ _=>by simp only[VR],h⟩
 | .d p,a,π,s,K,E,y,h,R,hw,hv=>by
   simp only[B2]at h;split at h<;>first|exact h.elim|skip
   ·rename_i q;obtain⟨h1,h⟩:=h;simp only[VR]at hv;exact⟨E,π,s,⟨Ev.le.refl _,Ext.refl _,hw,R⟩,λE2 _ a _ _ _=>by simp only[VR];exact(yZu h1 hv).mono a.1,h⟩
   ·rename_i n;split at h<;>first|exact h.elim|skip
    rename_i sz fh;split at h<;>first|exact h.elim|skip
    ·rename_i t oL mh hg;obtain⟨hb,rfl,hk⟩:=zL h;have e:=ji hb;subst e;obtain⟨E',q1,q2,q3,q4,q5⟩:=OA R (v:= .own n) (d:= .ro sz fh) (s':=s.set n (.kh sz fh)) (by simp only[KK,hg]) hv;exact⟨E',π,_,⟨q1,Ext.refl _,by rw[q2];exact hw,q3⟩,λE2 _ a _ _ _=>by simp only[VR];exact q5.mono a.1,hk⟩
    ·rename_i oL mh hg;obtain⟨hb,rfl,hk⟩:=zL h;have e:=ji hb;subst e;obtain⟨E',q1,q2,q3,q4,q5⟩:=OA R (v:= .own n) (d:= .ro sz fh) (s':=s) (by simp only[KK,hg]) hv;exact⟨E',π,_,⟨q1,Ext.refl _,by rw[q2];exact hw,q3⟩,λE2 _ a _ _ _=>by simp only[VR];exact q5.mono a.1,hk⟩
    ·rename_i T oL mh i f b c hg;split at h<;>first|exact h.elim|skip
     rename_i t2 wv lv AF;obtain⟨hb,⟨rfl,hi,hf,rfl⟩,hk⟩:=zL h;simp only[ld,HA]at hb;have e:=ji hb.1;subst e;obtain⟨E',q1,q2,q3,q4⟩:=R.GC hg AF hb.2 hi hf hv;exact⟨E',π,_,⟨q1,Ext.refl _,by rw[q2];exact hw,q3⟩,λE2 _ a _ _ _=>by simp only[VR];exact q4.mono a.1,hk⟩
 | .nm p o,a,π,s,K,E,y,h,R,hw,hv=>by
   simp only[B2]at h;split at h<;>first|exact h.elim|skip
   rename_i n o';obtain⟨hb,hk⟩:=zL h;have e:=ji hb;subst e;simp only[VR]at hv;obtain⟨b,oo,l,h1,rfl⟩:=hv;obtain⟨π',q1,q2,q3,q4⟩:=sQ hk hw h1;refine⟨E,π',s,⟨Ev.le.refl _,q1,q2,R⟩,λE2 π2 a b' tl hl=> ?_,q4⟩;simp only[VR];obtain⟨hd,e1,e2⟩:=hl p n (b' p n q3);rw[a.get h1]at e1;cases e1;exact⟨b,oo,l,e2,rfl⟩
 | .el p sz i f,a,π,s,K,E,y,h,R,hw,hv=>by
   simp only[B2]at h;split at h<;>first|exact h.elim|skip
   rename_i n oL i' f';obtain⟨hb,rfl,hk⟩:=zL h;simp only[ld]at hb;have e:=ji hb.1;subst e;have e:=ji hb.2;subst e;simp only[VR]at hv;obtain⟨b,oo,m,c,l,h1,rfl⟩:=hv;obtain⟨π',q1,q2,q3,q4⟩:=sQ hk hw h1;refine⟨E,π',s,⟨Ev.le.refl _,q1,q2,R⟩,λE2 π2 a b' tl hl=> ?_,q4⟩;simp only[VR];obtain⟨hd,e1,e2⟩:=hl p n (b' p n q3);rw[a.get h1]at e1;cases e1;exact⟨b,oo,m,c,l,e2,rfl⟩
 | .own p,a,π,s,K,E,y,h,R,hw,hv=>by
   simp only[B2]at h;split at h<;>first|exact h.elim|skip
   ·rename_i n;simp only[VR]at hv;obtain⟨l,h1,h2⟩:=hv;obtain⟨π',q1,q2,q3,q4⟩:=sQ h hw h1;refine⟨E,π',s,⟨Ev.le.refl _,q1,q2,R⟩,λE2 π2 a b' tl hl=> ?_,q4⟩;simp only[VR];obtain⟨hd,e1,e2⟩:=hl p n (b' p n q3);rw[a.get h1]at e1;cases e1;exact⟨l,e2,h2⟩
   ·split at h<;>first|exact h.elim|skip
    rename_i hm;obtain⟨E',q1,q2,q3⟩:=R.F3;simp only[VR,DR]at hv;obtain⟨rfl,_⟩:=hv;have zu:yB p ((p,s.nx)::π)=au s.nx:=by simp[yB]
    refine⟨E',_,_,⟨q1,λq m e=> ?_,λq m e=> ?_,q2⟩,λE2 π2 a b' tl hl=> ?_,h⟩
    ·simp only[yB];cases hb:aw p q
     ·exact e
     ·have:=ji hb;subst this;rw[hm]at e;cases e
    ·simp only[yB]at e;cases hb:aw p q
     ·rw[hb]at e;obtain⟨hd,h'⟩:=hw q m e;exact⟨hd,q1.get h'⟩
     ·rw[hb]at e;cases e;exact⟨_,q3⟩
    ·simp only[VR];obtain⟨hd,e1,e2⟩:=hl p _ (b' p _ zu);rw[a.get q3]at e1;cases e1;exact⟨[],e2,_,_,_,rfl⟩
 | .mp p,a,π,s,K,E,y,h,R,hw,hv=>by
   simp only[B2]at h;split at h<;>first|exact h.elim|skip
   rename_i n;simp only[VR]at hv;obtain⟨b,l,h1,h2⟩:=hv;obtain⟨π',q1,q2,q3,q4⟩:=sQ h hw h1;refine⟨E,π',s,⟨Ev.le.refl _,q1,q2,R⟩,λE2 π2 a b' tl hl=> ?_,q4⟩;simp only[VR];obtain⟨hd,e1,e2⟩:=hl p n (b' p n q3);rw[a.get h1]at e1;cases e1;exact⟨b,l,e2,h2⟩
 | .agg l,a,π,s,K,E,y,h,R,hw,hv=>by
   simp only[B2]at h;split at h<;>first|exact h.elim|skip
   simp only[VR]at hv;obtain⟨ys,rfl,hv⟩:=hv;obtain⟨E',π',s',q1,q2,q3⟩:=IX h R hw hv;exact⟨E',π',s',q1,λE2 π2 a b tl c=>by simp only[VR];exact⟨ys,rfl,q2 E2 π2 a b tl c⟩,q3⟩
 | .jm l,a,π,s,K,E,y,h,R,hw,hv=>by
   simp only[B2]at h;split at h<;>first|exact h.elim|skip
   simp only[VR]at hv;obtain⟨ys,rfl,hv⟩:=hv;obtain⟨E',π',s',q1,q2,q3⟩:=IX h R hw hv;exact⟨E',π',s',q1,λE2 π2 a b tl c=>by simp only[VR];exact⟨ys,rfl,q2 E2 π2 a b tl c⟩,q3⟩
 | .fn f x z,a,π,s,K,E,y,h,R,hw,hv=>by
   simp only[B2]at h;split at h<;>first|exact h.elim|skip
   rename_i f' x' z';obtain⟨hb,hk⟩:=zL h;have e:=ji hb;subst e;simp only[VR]at hv;obtain⟨as,bs,rfl,h1,h2⟩:=hv;obtain⟨E',π',s',q1,q2,q3⟩:=IX hk R hw h1;obtain⟨E2,π2,s2,r1,r2,r3⟩:=IX q3 q1.rel q1.wf (h2.mono q1.le);exact⟨E2,π2,s2,q1.trans r1,λE3 π3 a b tl c=>by simp only[VR];exact⟨as,bs,rfl,q2.mono r1.le r1.ext E3 π3 a b tl c,r2 E3 π3 a b tl c⟩,r3⟩
 | .An t x,a,π,s,K,E,y,h,R,hw,hv=>by
   simp only[B2]at h;split at h<;>first|exact h.elim|skip
   rename_i t' x';obtain⟨hb,hk⟩:=zL h;have e:=ji hb;subst e;simp only[VR]at hv;obtain⟨z,rfl,h1⟩:=hv;obtain⟨E',π',s',q1,q2,q3⟩:=z9l hk R hw h1;exact⟨E',π',s',q1,λE3 π3 a b tl c=>by simp only[VR];exact⟨z,rfl,q2 E3 π3 a b tl c⟩,q3⟩
 | .re sz fh i f,a,π,s,K,E,y,h,R,hw,hv=>by simp only[B2]at h
 | .sub n i,a,π,s,K,E,y,h,R,hw,hv=>by simp only[B2]at h
theorem IX:∀{v a:List V} {π:NM} {s:St} {K:NM->St->Prop} {E:Ev} {y:List aa},DS v a π s K->Rel k L E s w->AI π E.gu->im E a y->∃E' π' s',ye k L w E π E' π' s'/\W6 E' π' v y/\K π' s'
 |[],a,π,s,K,E,y,h,R,hw,hv=>by
  simp only[DS]at h;split at h<;>first|exact h.elim|skip
  simp only[im]at hv;exact⟨E,π,s,⟨Ev.le.refl _,Ext.refl _,hw,R⟩,λ_ _ _ _ _ _=>by simpa only[im]using hv,h⟩
 |v::vs,a,π,s,K,E,y,h,R,hw,hv=>by
  simp only[DS]at h;split at h<;>first|exact h.elim|skip
  simp only[im]at hv;obtain⟨x,xs,rfl,h1,h2⟩:=hv;obtain⟨E',π',s',q1,q2,q3⟩:=z9l h R hw h1;obtain⟨E2,π2,s2,r1,r2,r3⟩:=IX q3 q1.rel q1.wf (h2.mono q1.le);exact⟨E2,π2,s2,q1.trans r1,λE3 π3 a b tl c=>by simp only[im];exact⟨_,_,rfl,q2.mono r1.le r1.ext E3 π3 a b tl c,r2 E3 π3 a b tl c⟩,r3⟩
end
mutual
def lT (π:NM):V->V
 | .top=> .top
 | .d d=> .d d
 | .nm n o=>match yB n π with
   |some m=> .nm m o
   |none=> .top
 | .el n sz i f=>match yB n π with
   |some m=> .el m sz i f
   |none=> .top
 | .re sz fh i f=> .re sz fh i f
 | .na _ _ _=> .top
 | .own n=>match yB n π with
   |some m=> .own m
   |none=> .top
 | .mp n=>match yB n π with
   |some m=> .mp m
   |none=> .top
 | .sub n i=>match yB n π with
   |some m=> .sub m i
   |none=> .top
 | .agg l=> .agg (Hu π l)
 | .jm l=> .jm (Hu π l)
 | .fn f a b=> .fn f (Hu π a) (Hu π b)
 | .An t x=> .An t (lT π x)
def Hu (π:NM):List V->List V
 |[]=>[]
 |v::l=>lT π v::Hu π l
end
def oN (π:NM):Option Nat->Option Nat
 |some m=>yB m π
 |none=>av
def Em (π:NM):fw->fw
 | .cells vs t=> .cells (Hu π vs) t
 | .vh q t sz fh i f b m=> .vh q t sz fh i f b (oN π m)
 |o=>o
def OD (iF:Nat->fw) (π:NM) (nx:Nat):List Nat->List (Nat×fw)
 |[]=>[]
 |j::js=>(nx+j,Em π (iF (j+1)))::OD iF π nx js
def nU (n nx m:Nat):NM:=(0,n)::(ba (m-1)).map λj=>(j+1,nx+j)
def Ku (s:St) (n m:Nat) (iF:Nat->fw):fw×St:=
 (Em (nU n s.nx m) (iF 0),⟨OD iF (nU n s.nx m) s.nx (ba (m-1))++s.rows,s.nx+(m-1)⟩)
def St.CD (s:St) (n:Nat):Option fw:=
 match s.get n with
 |some .gone=>av
 |o=>o
def UP {s:St} {n:Nat} {o:fw} (h:s.CD n=au o):s.get n=au o/\o≠.gone:=by
 unfold St.CD at h;split at h
 ·cases h
 ·rename_i jf;exact⟨h,λe=>jf (e▸h)⟩
def eY (m:Nat):NM->Bool
 |[]=>bv
 |(p,_)::l=>bif ax p m then eY m l else cd
def mV {m:Nat}:∀{π:NM},eY m π=bv->∀p n,yB p π=au n->p<m
 |[],h,p,n,e=>by cases e
 |(q,r)::l,h,p,n,e=>by
  simp only[eY]at h;cases hb:ax q m
  ·rw[hb]at h;cases h
  ·rw[hb]at h;simp only[yB]at e;cases hq:aw q p
   ·rw[hq]at e;exact mV h p n e
   ·have:=ji hq;subst this;simpa[zg]using hb
def Pa (f:Nat->NM->St->(NM->St->Prop)->Prop):List Nat->NM->St->(NM->St->Prop)->Prop
 |[],π,s,K=>K π s
 |j::js,π,s,K=>f j π s λπ s=>Pa f js π s K
def Bj:fw->Nat->fw->NM->St->(NM->St->Prop)->Prop
 | .gone,_,_,π,s,K=>K π s
 | .vh _ t sz fh i f b m,n,o,π,s,K=>match o with
   | .vh _ t' oL mh i' f' b' m'=>bif aw t t' && aw sz oL then(fh=mh/\i=i'/\f=f'/\b=b')/\(match m,m' with
     |some p,au c=>Ks p c π λπ=>K π s
     |_,_=>False)else False
   | .own t' oL mh=>bif aw t t' && aw sz oL then(fh=mh/\b=cd)/\(match m with
     |some p=>(match yB p π with
      |none=>K ((p,s.nx)::π) (s.new .AN)
      |some _=>False)
     |none=>False)else False
   |_=>False
 | .cells vs t,n,o,π,s,K=>match o with
   | .cells Am t'=>bif aw t t' then DS vs Am π s K else False
   | .sv T m iF x=>bif ay 1 m then(match Ku s n m (iF x)with
     |(.cells Am t',s')=>bif aw t t' then DS vs Am π s' K else False
     |_=>False)else False
   |_=>False
 | .own t sz fh,n,o,π,s,K=>match o with
   | .own t' oL mh=>bif aw t t' && aw sz oL then fh=mh/\K π s else False
   | .AN=>fh=[]/\K π s
   |_=>False
 | .vec ds t,n,o,π,s,K=>match o with
   | .cells vs t'=>bif aw t t' then ds.map V.d=vs/\K π s else False
   |o=>fw.vec ds t=o/\K π s
 | .map es,n,o,π,s,K=>match o with
   | .map Da=>es=Da/\K π s
   |_=>False
 | .iter b p,n,o,π,s,K=>match o with
   | .iter b' p'=>b=b'/\p=p'/\K π s
   |_=>False
 | .sv T m iF x,n,o,π,s,K=>match o with
   | .cells vs t=>bif ay 1 m then Pa (λj π s K=>match yB j π with
      |some n'=>match(match j with|0=>au (fw.cells vs t)|_=>s.CD n')with
       |some o'=>Bj (iF x j) n' o' π (match j with|0=>s|_=>s.Iu n' o') K
       |none=>False
      |none=>False) (ba m) [(0,n)] s (λπ' s=>bif eY m π' then K π s else False)else False
   |o=>fw.sv T m iF x=o/\K π s
 | .kh sz fh,n,o,π,s,K=>match o with
   | .own t oL mh=>bif aw sz oL then fh=mh/\K π s else False
   |o=>fw.kh sz fh=o/\K π s
 | .kg t T m iF l hole,n,o,π,s,K=>match o with
   | .AN=>l=[]/\hole=av/\K π s
   |o=>fw.kg t T m iF l hole=o/\K π s
 |o',n,o,π,s,K=>o'=o/\K π s
def HH:Nat->List fw->NM->St->(NM->St->Prop)->Prop
 |_,[],π,s,K=>K π s
 |p,.gone::os,π,s,K=>HH (p+1) os π s K
 |p,o::os,π,s,K=>match yB p π with
  |some n=>match s.CD n with
   |some o'=>Bj o n o' π (s.Iu n o') λπ s=>HH (p+1) os π s K
   |none=>False
  |none=>False
variable {k:Ko} {L:List HP} {w:ab}
def BG (E:Ev) (π:NM) (n:Nat) (o:fw):HP:=λh=>∀E2 π2,E.le E2->Ext π π2->∀tl,Loc π2 E2.gu tl->∃hd,E2.gu[n]? =au hd/\gg E2.F o tl hd h
def BG.mono {E E':Ev} {π π':NM} (hle:E.le E') (hx:Ext π π') {n:Nat} {o:fw} {h:PH} (e:BG E π n o h):BG E' π' n o h:=λE2 π2 a b tl c=>e E2 π2 (hle.trans a) (hx.trans b) tl c
def yFh:fw->Bool
 | .cells _ _=>bv
 | .vh _ _ _ _ _ _ _ _=>bv
 |_=>cd
def gg.gu {F:PH} {o:fw} (ho:yFh o=cd) {gu oS:List Hd} {hd:Hd} {h:PH} (e:gg F o gu hd h):gg F o oS hd h:=by
 cases o<;>first|(cases ho;done)|(simp only[gg]at e ⊢;exact e)
def fT {E:Ev} {π:NM} {n:Nat} {o:fw} (ho:yFh o=cd) (hg:o≠.gone) {h:PH} (e:iu E (n,o) h):BG E π n o h:=by
 rcases e with⟨e,_⟩|⟨hd,h1,h2⟩
 ·exact absurd e hg
 ·intro E2 π2 a b tl c;exact⟨hd,a.get h1,(h2.mono a.1 _ a.2).gu ho⟩
mutual
theorem VR.vz {π:NM} {F:PH} {tl gu:List Hd} (hr:∀p n hd,yB p π=au n->tl[p]? =au hd->gu[n]? =au hd):∀{v:V} {y:aa},VR ⟨F,tl⟩ v y->VR ⟨F,gu⟩ (lT π v) y
 | .top,y,h=>by simp only[lT,VR]
 | .d d,y,h=>by simpa only[lT,VR]using h
 | .nm n o,y,h=>by
   simp only[lT];split
   ·rename_i m hm;simp only[VR]at h ⊢;obtain⟨b,oo,l,h1,h2⟩:=h;exact⟨b,oo,l,hr _ _ _ hm h1,h2⟩
   ·simp only[VR]
 | .el n sz i f,y,h=>by
   simp only[lT];split
   ·rename_i m hm;simp only[VR]at h ⊢;obtain⟨b,oo,mm,c,l,h1,h2⟩:=h;exact⟨b,oo,mm,c,l,hr _ _ _ hm h1,h2⟩
   ·simp only[VR]
 | .re sz fh i f,y,h=>by simpa only[lT,VR]using h
 | .na n o i,y,h=>by simp only[lT,VR]
 | .own n,y,h=>by
   simp only[lT];split
   ·rename_i m hm;simp only[VR]at h ⊢;obtain⟨l,h1,h2⟩:=h;exact⟨l,hr _ _ _ hm h1,h2⟩
   ·simp only[VR]
 | .mp n,y,h=>by
   simp only[lT];split
   ·rename_i m hm;simp only[VR]at h ⊢;obtain⟨b,l,h1,h2⟩:=h;exact⟨b,l,hr _ _ _ hm h1,h2⟩
   ·simp only[VR]
 | .sub n i,y,h=>by
   simp only[lT];split
   ·rename_i m hm;simp only[VR]at h ⊢;obtain⟨hd,l,b,oo,h1,h2⟩:=h;exact⟨hd,l,b,oo,hr _ _ _ hm h1,h2⟩
   ·simp only[VR]
 | .agg l,y,h=>by
   simp only[lT,VR]at h ⊢;obtain⟨ys,h1,h2⟩:=h;exact⟨ys,h1,im.vz hr h2⟩
 | .jm l,y,h=>by
   simp only[lT,VR]at h ⊢;obtain⟨ys,h1,h2⟩:=h;exact⟨ys,h1,im.vz hr h2⟩
 | .fn f a b,y,h=>by
   simp only[lT,VR]at h ⊢;obtain⟨as,bs,h1,h2,h3⟩:=h;exact⟨as,bs,h1,im.vz hr h2,im.vz hr h3⟩
 | .An t x,y,h=>by
   simp only[lT,VR]at h ⊢;obtain⟨z,h1,h2⟩:=h;exact⟨z,h1,VR.vz hr h2⟩
theorem im.vz {π:NM} {F:PH} {tl gu:List Hd} (hr:∀p n hd,yB p π=au n->tl[p]? =au hd->gu[n]? =au hd):∀{vs:List V} {l:List aa},im ⟨F,tl⟩ vs l->im ⟨F,gu⟩ (Hu π vs) l
 |[],l,h=>by simpa only[Hu,im]using h
 |v::vs,l,h=>by
  simp only[Hu,im]at h ⊢;obtain⟨x,xs,h1,h2,h3⟩:=h;exact⟨x,xs,h1,VR.vz hr h2,im.vz hr h3⟩
end
def gg.vz {π:NM} {F:PH} {tl gu:List Hd} (hr:∀p n hd,yB p π=au n->tl[p]? =au hd->gu[n]? =au hd) {o:fw} {hd:Hd} {h:PH} (e:gg F o tl hd h):gg F (Em π o) gu hd h:=by
 cases o<;>simp only[Em]<;>first|exact e.gu rfl|skip
 ·simp only[gg]at e ⊢;obtain⟨b,l,h1,h2,h3⟩:=e;exact⟨b,l,h1,h2.vz hr,h3⟩
 ·rename_i q t sz fh i f b m;simp only[gg]at e ⊢;obtain⟨a,k,ys,xs,h1,h2,h3,h4,h5⟩:=e;refine⟨a,k,ys,xs,h1,h2,h3,?_,h5⟩;cases m with
  |none=>exact h4
  |some m=>
   obtain⟨y,l,e1,e2,e3⟩:=h4;simp only[oN];cases hm:yB m π with
   |none=>exact⟨y,e2,e3⟩
   |some m'=>exact⟨y,l,hr _ _ _ hm e1,e2,e3⟩
def yHa {n nx m j:Nat} (hj:j+1<m):yB (j+1) (nU n nx m)=au (nx+j):=by
 unfold nU;simp only[yB,aw,cond_false];have:∀(a c:Nat),a<=j->j<a+c->yB (j+1) ((List.range' a c).map λj=>(j+1,nx+j))=au (nx+j):=by
  intro a c
  induction c generalizing a with
  |zero=>intro h1 h2;omega
  |succ c ih=>
   intro h1 h2;simp only[List.range'_succ,iT,yB];cases hb:aw (a+1) (j+1)
   ·have jf:a≠j:=λe=>by subst e;simp at hb
    exact ih (a+1) (by omega) (by omega)
   ·have:=ji hb;have e:a=j:=by omega
    subst e;rfl
 rw[List.range_eq_range'];exact this 0 (m-1) (by omega) (by omega)
def zVd {n nx m p q:Nat} (h:yB p (nU n nx m)=au q):(p=0/\q=n)\/∃j,p=j+1/\q=nx+j/\j+1<m:=by
 unfold nU at h;simp only[yB]at h;cases hb:aw 0 p
 ·rw[hb]at h;right;simp only[cond_false]at h;rw[List.range_eq_range']at h;have:∀(a c:Nat),yB p ((List.range' a c).map λj=>(j+1,nx+j))=au q->∃j,p=j+1/\q=nx+j/\j<a+c:=by
   intro a c
   induction c generalizing a with
   |zero=>intro h;simp[yB]at h
   |succ c ih=>
    intro h;simp only[List.range'_succ,iT,yB]at h;cases hb:aw (a+1) p
    ·rw[hb]at h;obtain⟨j,h1,h2,h3⟩:=ih (a+1) h;exact⟨j,h1,h2,by omega⟩
    ·rw[hb]at h;simp only[cond_true,ci]at h;exact⟨a,(ji hb).symm,h.symm,by omega⟩
  obtain⟨j,h1,h2,h3⟩:=this 0 (m-1) h;exact⟨j,h1,h2,by omega⟩
 ·rw[hb]at h;left;simp only[cond_true,ci]at h;exact⟨(ji hb).symm,h.symm⟩
def Rel.unfold {E:Ev} {s:St} {n m:Nat} {T:Type} {iF:T->Nat->fw} {x:T} (R:Rel k (iu E (n,.sv T m iF x)::L) E s w) (hm:1<=m):
 ∃E',E.le E'/\Rel k (iu E' (n,(Ku s n m (iF x)).1)::L) E' (Ku s n m (iF x)).2 w:=by
 have H:=R.out;obtain⟨hd,j',h1,h2,h3,H⟩:∃hd j',E.gu[n]? =au hd/\j'[0]? =au hd/\j'.length=m/\
  Hp k w (hS ((ba m).map λj=>λh=>∃oY,j'[j]? =au oY/\gg E.F (iF x j) j' oY h)::(s.rows.map (iu E)++fz E.F::L)):=by
  obtain⟨hk,hs,hh⟩:=H;cases hh with
  |cons ha jb Hb hr=>
   rcases ha with⟨e,_⟩|⟨hd,q1,q2⟩
   ·cases e
   ·simp only[gg]at q2;obtain⟨j',q3,q4,q5⟩:=q2;exact⟨hd,j',q1,q3,q4,hk,_,.cons q5 jb Hb hr⟩
 let E':Ev:=⟨E.F,E.gu++j'.drop 1⟩
 have hle:E.le E':=⟨yj.refl _,Jk _ _⟩
 have AQ:∀p q oY,yB p (nU n s.nx m)=au q->j'[p]? =au oY->E'.gu[q]? =au oY:=by
  intro p q oY hp ht;rcases zVd hp with⟨rfl,rfl⟩|⟨j,rfl,rfl,hj⟩
  ·rw[h2]at ht;cases ht;exact hle.get h1
  ·show(E.gu++j'.drop 1)[s.nx+j]? =au oY;rw[<- R.nx,CY (by omega),Bg];rw[show E.gu.length+j-E.gu.length=j by omega,Hw];exact ht
 have H2:=(rq.1 H)
 have AW:ba m=0::(ba (m-1)).map (·+1):=by
  have:m=(m-1)+1:=by omega
  rw[this,List.range_succ_eq_map];simp
 rw[AW]at H2;simp only[iT,xi,tu]at H2;refine⟨E',hle,Rel.Jt (by show(E.gu++j'.drop 1).length=s.nx+(m-1);rw[iQ,qc,R.nx,h3]) ?_⟩;have SU:∀l:List Nat,(∀j∈l,j+1<m)->(OD (iF x) (nU n s.nx m) s.nx l)=l.map λj=>(s.nx+j,Em (nU n s.nx m) (iF x (j+1))):=by
  intro l
  induction l with
  |nil=>intro _;rfl
  |cons j l ih=>intro h;simp only[OD,iT];rw[ih λj hj=>h j (jx _ hj)]
 have wx:=SU (ba (m-1)) (λj hj=>by have:=zh.1 hj;omega);show Hp k w (iu E' (n,Em (nU n s.nx m) (iF x 0))::((OD (iF x) (nU n s.nx m) s.nx (ba (m-1))++s.rows).map (iu E')++fz E.F::L));rw[wx,jz,xi,km];have H3:Hp k w ((ba (m-1)).map ((λj=>λh=>∃oY,j'[j]? =au oY/\gg E.F (iF x j) j' oY h)∘(·+1))++((λh=>∃oY,j'[0]? =au oY/\gg E.F (iF x 0) j' oY h)::(s.rows.map (iu E)++fz E.F::L))):=H2.perm ni.symm
 have H4:=vD (g:=(iu E')∘λj=>(s.nx+j,Em (nU n s.nx m) (iF x (j+1)))) (λj y hy=>by
  obtain⟨oY,e1,e2⟩:=hy;right;have hj:j+1<m:=by
   have:=(ju.1 e1).1;simp only at this;omega
  exact⟨oY,AQ _ _ _ (yHa hj) e1,e2.vz AQ⟩) H3
 have H5:=H4.perm ni;have H6:=H5.imp (B:=iu E' (n,Em (nU n s.nx m) (iF x 0))) (λy hy=>by
  obtain⟨oY,e1,e2⟩:=hy;right;rw[h2]at e1;cases e1;exact⟨hd,hle.get h1,e2.vz AQ⟩)
 have H7:Hp k w (s.rows.map (iu E)++(iu E' (n,Em (nU n s.nx m) (iF x 0))::((ba (m-1)).map ((iu E')∘λj=>(s.nx+j,Em (nU n s.nx m) (iF x (j+1))))++fz E.F::L))):=by
  refine H6.perm ?_;refine List.Perm.trans ?_ ni.symm;refine .cons _ ?_;rw[<- km,<- km];exact Bh.append_right _
 have H8:=vD (λr y=>iu.mono hle r) H7;refine H8.perm ?_;refine ni.trans (.cons _ ?_);rw[<- km,<- km];exact Bh.append_right _
def yHd {n p q:Nat} (h:yB p [(0,n)]=au q):p=0/\q=n:=by
 simp only[yB]at h;cases hb:aw 0 p
 ·rw[hb]at h;cases h
 ·rw[hb]at h;simp only[cond_true,ci]at h;exact⟨(ji hb).symm,h.symm⟩
def yXv (o':fw):Prop:=∀{k:Ko} {L:List HP} {w:ab} {n:Nat} {o:fw} {π:NM} {s:St} {K:NM->St->Prop} {E:Ev},Bj o' n o π s K->Rel k (iu E (n,o)::L) E s w->AI π E.gu->o≠.gone->
 ∃E' π' s',ye k (BG E' π' n o'::L) w E π E' π' s'/\K π' s'
def PJ (g:Nat->fw) (E:Ev) (π:NM) (j:Nat):HP:=λh=>∃n,yB j π=au n/\BG E π n (g j) h
def PJ.mono {g:Nat->fw} {E E':Ev} {π π':NM} (hle:E.le E') (hx:Ext π π') {j:Nat} {h:PH} (e:PJ g E π j h):PJ g E' π' j h:=by
 obtain⟨n,h1,h2⟩:=e;exact⟨n,hx _ _ h1,h2.mono hle hx⟩
def Rel.aal {α:Type} {f g:α->HP} (h:∀a x,f a x->g a x) {l:List α} {E:Ev} {s:St} (R:Rel k (l.map f++L) E s w):Rel k (l.map g++L) E s w:=by
 refine⟨R.nx,?_⟩;have H:Hp k w (l.map f++(s.rows.map (iu E)++fz E.F::L)):=by
  refine R.hp.perm ?_;rw[show s.rows.map (iu E)++fz E.F::(l.map f++L)=(s.rows.map (iu E)++[fz E.F])++(l.map f++L)by simp,<- km,show l.map f++(s.rows.map (iu E)++fz E.F::L)=(l.map f++(s.rows.map (iu E)++[fz E.F]))++L by simp];exact Bh.append_right _
 have H2:=vD h H;refine H2.perm ?_;rw[show s.rows.map (iu E)++fz E.F::(l.map g++L)=((s.rows.map (iu E)++[fz E.F])++l.map g)++L by simp,show l.map g++(s.rows.map (iu E)++fz E.F::L)=(l.map g++(s.rows.map (iu E)++[fz E.F]))++L by simp];exact Bh.append_right _
def Rel.AX {E:Ev} {s:St} {A:List HP} (R:Rel k (A++L) E s w):Hp k w (A++(s.rows.map (iu E)++fz E.F::L)):=by
 refine R.hp.perm ?_;rw[show s.rows.map (iu E)++fz E.F::(A++L)=(s.rows.map (iu E)++[fz E.F])++(A++L)by simp,<- km,show A++(s.rows.map (iu E)++fz E.F::L)=(A++(s.rows.map (iu E)++[fz E.F]))++L by simp];exact Bh.append_right _
def z1y {g:Nat->fw} (hg:∀j,yXv (g j)) {c:Option fw}:∀{js:List Nat} {done:List Nat} {π:NM} {s:St} {K:NM->St->Prop} {E:Ev},(0∉js)->
 Pa (λj π s K=>match yB j π with
  |some n'=>match(match j with|0=>c|_=>s.CD n')with
   |some o'=>Bj (g j) n' o' π (match j with|0=>s|_=>s.Iu n' o') K
   |none=>False
  |none=>False) js π s K->Rel k (done.map (PJ g E π)++L) E s w->AI π E.gu->
 ∃E' π' s',ye k ((js.reverse++done).map (PJ g E' π')++L) w E π E' π' s'/\K π' s'
 |[],done,π,s,K,E,h0,h,R,hw=>⟨E,π,s,⟨Ev.le.refl _,Ext.refl _,hw,by simpa using R⟩,h⟩
 |j::js,done,π,s,K,E,h0,h,R,hw=>by
  simp only[Pa]at h;split at h<;>first|exact h.elim|skip
  rename_i n' WK;cases j with
  |zero=>exact absurd jg h0
  |succ j=>
   simp only at h;split at h<;>first|exact h.elim|skip
   rename_i o' ln;obtain⟨ln,S5⟩:=UP ln
   ·have R1:=R.gz ln;obtain⟨E1,π1,s1,q1,q2⟩:=hg (j+1) h R1 hw S5;have R2:Rel k (((j+1)::done).map (PJ g E1 π1)++L) E1 s1 w:=by
     have R3:=q1.rel.qz (B:=PJ g E1 π1 (j+1)) λx hx=>⟨n',q1.ext _ _ WK,hx⟩
     have R4:Rel k (done.map (PJ g E π)++(PJ g E1 π1 (j+1)::L)) E1 s1 w:=⟨R3.nx,R3.hp.perm (by
      refine ce _ (.cons _ ?_);exact ni.symm)⟩
     have R5:=R4.aal (g:=PJ g E1 π1) λa x hx=>hx.mono q1.le q1.ext
     exact⟨R5.nx,R5.hp.perm (by
      refine ce _ (.cons _ ?_);exact ni)⟩
    obtain⟨E2,π2,s2,r1,r2⟩:=z1y hg (λhm=>h0 (jx _ hm)) q2 R2 q1.wf;refine⟨E2,π2,s2,⟨q1.le.trans r1.le,q1.ext.trans r1.ext,r1.wf,?_⟩,r2⟩;have:=r1.rel;simpa using this
def yMc {E:Ev}:∀{ds:List D} {l:List aa},im E (ds.map V.d) l->iI E.F ds l
 |[],l,h=>by simpa only[CS,im,iI]using h
 |d::ds,l,h=>by
  simp only[iT,im,VR]at h;obtain⟨x,xs,h1,h2,h3⟩:=h;simp only[iI];exact⟨x,xs,h1,h2,yMc h3⟩
def y0m:∀o',yXv o':=by
 intro o'
 induction o' with
 |gone=>
  intro k L w n o π s K E h R hw hg;simp only[Bj]at h;have H:=R.out;refine⟨E,π,s,⟨Ev.le.refl _,Ext.refl _,hw,?_⟩,h⟩;obtain⟨hd,x,q1,_,_⟩:∃hd x,E.gu[n]? =au hd/\gg E.F o E.gu hd x/\Sub x w:=by
   obtain⟨x,hx,hs⟩:=H.sat;rcases hx with⟨e,_⟩|⟨hd,h1,h2⟩
   ·exact absurd e hg
   ·exact⟨hd,x,h1,h2,hs⟩
  refine Rel.Jt R.nx (((@gV k w True _).2 ⟨trivial,H.drop⟩).imp λx hx=> ?_);intro E2 π2 a b tl c;exact⟨hd,a.get q1,by simp only[gg];exact hx.2⟩
 |vh q t sz fh i f b m=>
  intro k L w n o π s K E h R hw hg;simp only[Bj]at h;split at h<;>first|exact h.elim|skip
  ·rename_i q' t' oL mh i' f' b' m';have hh:=zL h;clear h;obtain⟨hb,⟨rfl,rfl,rfl,rfl⟩,h⟩:=hh;simp only[ld]at hb;have e1:=ji hb.1;have e2:=ji hb.2;subst e1 e2;split at h<;>first|exact h.elim|skip
   rename_i p c;obtain⟨hdc,hc⟩:∃hd,E.gu[c]? =au hd:=by
    obtain⟨x,hx,_⟩:=R.out.sat;rcases hx with⟨e,_⟩|⟨hd,h1,h2⟩
    ·cases e
    simp only[gg]at h2;obtain⟨A,k',ys,xs,e1,e2,e3,⟨y,l,e4,_⟩,_⟩:=h2;exact⟨_,e4⟩
   obtain⟨π',q1,q2,q3,q4⟩:=sQ h hw hc;refine⟨E,π',s,⟨Ev.le.refl _,q1,q2,R.qz λx hx=> ?_⟩,q4⟩;rcases hx with⟨e,_⟩|⟨hd,h1,h2⟩
   ·cases e
   intro E2 π2 a b' tl hl;refine⟨hd,a.get h1,?_⟩;simp only[gg]at h2 ⊢;obtain⟨A,k',ys,xs,e1,e2,e3,⟨y,l,e4,e5⟩,e6⟩:=h2;obtain⟨oY,r1,r2⟩:=hl p c (b' p c q3);rw[a.get e4]at r1;cases r1;exact⟨A,k',ys,xs,e1,e2.mono a.1,e3,⟨y,l,r2,e5⟩,e6⟩
  ·rename_i t' oL mh;have hh:=zL h;clear h;obtain⟨hb,⟨rfl,rfl⟩,h⟩:=hh;simp only[ld]at hb;have e1:=ji hb.1;have e2:=ji hb.2;subst e1 e2;split at h<;>first|exact h.elim|skip
   rename_i p;split at h<;>first|exact h.elim|skip
   rename_i hm;obtain⟨E',r1,r2,r3⟩:=R.F3;have zu:yB p ((p,s.nx)::π)=au s.nx:=by simp[yB]
   refine⟨E',_,_,⟨r1,λq m e=> ?_,λq m e=> ?_,r2.qz λx hx=> ?_⟩,h⟩
   ·simp only[yB];cases hb:aw p q
    ·exact e
    ·have:=ji hb;subst this;rw[hm]at e;cases e
   ·simp only[yB]at e;cases hb:aw p q
    ·rw[hb]at e;obtain⟨hd,h'⟩:=hw q m e;exact⟨hd,r1.get h'⟩
    ·rw[hb]at e;cases e;exact⟨_,r3⟩
   rcases hx with⟨e,_⟩|⟨hd,h1,h2⟩
   ·cases e
   intro E2 π2 a b' tl hl;refine⟨hd,a.get (r1.get h1),?_⟩;simp only[gg]at h2 ⊢;obtain⟨A,k',xs,e1,e2,e3,e4⟩:=h2;obtain⟨oY,z1,z2⟩:=hl p _ (b' p _ zu);rw[a.get r3]at z1;cases z1;exact⟨A,k',xs,xs,e1,(e2.mono r1.1).mono a.1,e3,⟨_,_,z2,⟨av,0,0,rfl⟩,rfl⟩,e4⟩
 |AN=>
  intro k L w n o π s K E h R hw hg;simp only[Bj]at h;obtain⟨rfl,h⟩:=h;exact⟨E,π,s,⟨Ev.le.refl _,Ext.refl _,hw,R.qz λx hx=>fT rfl (by simp) hx⟩,h⟩
 |kh sz fh=>
  intro k L w n o π s K E h R hw hg;simp only[Bj]at h;split at h
  ·rename_i t oL mh;obtain⟨hb,e9,hK⟩:=zL h;subst e9;have e:=ji hb;subst e;have H:Hp k w (iu E (n,.own t sz fh)::fz E.F::(s.rows.map (iu E)++L)):=R.out.cons ni;obtain⟨x,hx,hd,jb,H⟩:=Xx H;rcases hx with⟨e,_⟩|⟨hv,h1,h2⟩
   ·cases e
   simp only[gg]at h2;obtain⟨a,c,xs,h3,h4,h5,h6⟩:=h2;have hle:E.le ⟨un x E.F,E.gu⟩:=⟨yAp hd,Jg _⟩
   have hdr:DR (un x E.F) (.ro sz fh) hv.1:=by
    simp only[DR];refine⟨a,c,h3,(TV h6).2,h5,?_⟩;rcases h6 with⟨rfl,q2,rfl,rfl,rfl⟩|⟨b,r,rfl,rfl,q3,q4,q5⟩
    ·exact .inl (zm q2)
    ·refine .inr ⟨b,0,xs++r,t,(0,0),rfl,?_,o8.2 ⟨xs,r,rfl,h4.mono hle.1⟩⟩;simp[un,one]
   have H1:Hp k w (s.rows.map (iu E)++fz (un x E.F)::L):=H.perm ni.symm;have H2:=vD (λr x=>iu.mono hle r) H1;have H3:=yPy H2;refine⟨⟨un x E.F,E.gu⟩,π,s,⟨hle,Ext.refl _,hw,Rel.Jt R.nx (H3.imp λy hy=> ?_)⟩,hK⟩;intro E2 π2 a1 b1 tl c1;refine⟨hv,a1.get h1,?_⟩;simp only[gg];exact⟨hy,hdr.mono a1.1⟩
  ·obtain⟨rfl,h⟩:=h;exact⟨E,π,s,⟨Ev.le.refl _,Ext.refl _,hw,R.qz λx hx=>fT rfl (by simp) hx⟩,h⟩
 |kg t T m iF l hole ih=>
  intro k L w n o π s K E h R hw hg;simp only[Bj]at h;split at h
  ·obtain⟨rfl,rfl,h⟩:=h;refine⟨E,π,s,⟨Ev.le.refl _,Ext.refl _,hw,R.qz λx hx=>fT (o:= .kg t T m iF [] av) rfl (by simp) ?_⟩,h⟩;rcases hx with⟨e,_⟩|⟨hd,h1,h2⟩
   ·cases e
   ·simp only[gg]at h2;obtain⟨rfl,e1,e2⟩:=h2;refine .inr ⟨hd,h1,rr.2 ⟨av,0,e1,by rw[e2];rfl,λp hp=>(by rw[e2]at hp;exact(nomatch hp)),pe,pe,by rw[e2];exact yDw t 1,rfl,?_,?_⟩⟩
    ·intro b;exact .inl rfl
    ·funext b;rfl
  ·obtain⟨rfl,h⟩:=h;exact⟨E,π,s,⟨Ev.le.refl _,Ext.refl _,hw,R.qz λx hx=>fT rfl (by simp) hx⟩,h⟩
 |vec ds t=>
  intro k L w n o π s K E h R hw hg;simp only[Bj]at h;split at h
  ·obtain⟨hb,e9,hK⟩:=zL h;subst e9;have e:=ji hb;subst e;refine⟨E,π,s,⟨Ev.le.refl _,Ext.refl _,hw,R.qz λx hx=>fT (o:= .vec ds t) rfl (by simp) ?_⟩,hK⟩;rcases hx with⟨e,_⟩|⟨hd,h1,h2⟩
   ·cases e
   ·simp only[gg]at h2;obtain⟨b,l,e1,e2,e3⟩:=h2;refine .inr ⟨hd,h1,?_⟩;simp only[gg];exact⟨b,l,e1,yMc e2,e3⟩
  ·obtain⟨rfl,h⟩:=h;exact⟨E,π,s,⟨Ev.le.refl _,Ext.refl _,hw,R.qz λx hx=>fT rfl (by simp) hx⟩,h⟩
 |map es=>
  intro k L w n o π s K E h R hw hg;simp only[Bj]at h;split at h<;>first|exact h.elim|skip
  obtain⟨rfl,h⟩:=h;exact⟨E,π,s,⟨Ev.le.refl _,Ext.refl _,hw,R.qz λx hx=>fT rfl (by simp) hx⟩,h⟩
 |Ct es kv x=>
  intro k L w n o π s K E h R hw hg;simp only[Bj]at h;obtain⟨rfl,h⟩:=h;exact⟨E,π,s,⟨Ev.le.refl _,Ext.refl _,hw,R.qz λx hx=>fT rfl (by simp) hx⟩,h⟩
 |G2 t fh=>
  intro k L w n o π s K E h R hw hg;simp only[Bj]at h;obtain⟨rfl,h⟩:=h;exact⟨E,π,s,⟨Ev.le.refl _,Ext.refl _,hw,R.qz λx hx=>fT rfl (by simp) hx⟩,h⟩
 |iter b p=>
  intro k L w n o π s K E h R hw hg;simp only[Bj]at h;split at h<;>first|exact h.elim|skip
  obtain⟨rfl,rfl,h⟩:=h;exact⟨E,π,s,⟨Ev.le.refl _,Ext.refl _,hw,R.qz λx hx=>fT rfl (by simp) hx⟩,h⟩
 |own t sz fh=>
  intro k L w n o π s K E h R hw hg;simp only[Bj]at h;split at h<;>first|exact h.elim|skip
  ·obtain⟨hb,rfl,hk⟩:=zL h;simp only[ld]at hb;have e1:=ji hb.1;have e2:=ji hb.2;subst e1 e2;exact⟨E,π,s,⟨Ev.le.refl _,Ext.refl _,hw,R.qz λx hx=>fT rfl (by simp) hx⟩,hk⟩
  ·obtain⟨rfl,h⟩:=h;refine⟨E,π,s,⟨Ev.le.refl _,Ext.refl _,hw,R.qz λx hx=> ?_⟩,h⟩;rcases hx with⟨e,_⟩|⟨hd,h1,h2⟩
   ·cases e
   ·intro E2 π2 a b tl c;simp only[gg]at h2;refine⟨hd,a.get h1,?_⟩;simp only[gg];exact⟨av,0,[],h2.2.1,by simp[iI],by simp,.inl ⟨rfl,rfl,rfl,rfl,h2.1⟩⟩
 |cells vs t=>
  intro k L w n o π s K E h R hw hg;have key:∀{E:Ev} {s:St} {Am:List V} {π:NM},Rel k (iu E (n,.cells Am t)::L) E s w->AI π E.gu->DS vs Am π s K->∃E' π' s',ye k (BG E' π' n (.cells vs t)::L) w E π E' π' s'/\K π' s':=by
   intro E s Am π R hw h;have H:=R.out;obtain⟨b,l,sub,h1,h2,H⟩:∃b l sub,E.gu[n]? =au (.pointer (au ⟨b,0,av⟩),sub)/\im E Am l/\Hp k w (pt b (.cells l.toArray t)::(s.rows.map (iu E)++fz E.F::L)):=by
    obtain⟨hk,hs,hh⟩:=H;cases hh with
    |cons ha jb Hb hr=>
     rcases ha with⟨e,_⟩|⟨⟨hv,sub⟩,q1,q2⟩
     ·cases e
     ·simp only[gg]at q2;obtain⟨b,l,rfl,q3,rfl⟩:=q2;exact⟨b,l,sub,q1,q3,hk,_,.cons rfl jb Hb hr⟩
   have R1:Rel k (pt b (.cells l.toArray t)::L) E s w:=Rel.Jt R.nx H;obtain⟨E',π',s',q1,q2,q3⟩:=IX h R1 hw h2;refine⟨E',π',s',⟨q1.le,q1.ext,q1.wf,q1.rel.qz λx hx=> ?_⟩,q3⟩;intro E2 π2 a b' tl c;refine⟨_,a.get (q1.le.get h1),?_⟩;simp only[gg];exact⟨b,l,rfl,q2 E2 π2 a b' tl c,hx⟩
  simp only[Bj]at h;split at h<;>first|exact h.elim|skip
  ·obtain⟨hb,hk⟩:=zL h;have e:=ji hb;subst e;exact key R hw hk
  ·rename_i T m iF x;obtain⟨hb,h⟩:=zL h;obtain⟨E1,q1,q2⟩:=R.unfold (B1 hb);revert q2 h;generalize Ku s n m (iF x)=u;obtain⟨u1,u2⟩:=u;intro h q2;simp only at h q2;split at h<;>first|exact h.elim|skip
   rename_i Am t' s' heq;cases heq;obtain⟨hb,hk⟩:=zL h;have e:=ji hb;subst e;obtain⟨E',π',s2,r1,r2⟩:=key q2 (hw.mono q1) hk;exact⟨E',π',s2,⟨q1.trans r1.le,r1.ext,r1.wf,r1.rel⟩,r2⟩
 |sv T m iF x ih=>
  intro k L w n o π s K E h R hw hg;unfold Bj at h;split at h
  ·rename_i vs t;obtain⟨hb,h⟩:=zL h;have hm:=B1 hb;have AW:ba m=0::(ba (m-1)).map (·+1):=by
    have:m=(m-1)+1:=by omega
    rw[this,List.range_succ_eq_map];simp
   obtain⟨hd,hd1⟩:∃hd,E.gu[n]? =au hd:=by
    obtain⟨x,hx,_⟩:=R.out.sat;rcases hx with⟨e,_⟩|⟨hd,h1,_⟩
    ·cases e
    ·exact⟨hd,h1⟩
   have PI:AI [(0,n)] E.gu:=λp q e=>by
    obtain⟨_,rfl⟩:=yHd e;exact⟨hd,hd1⟩
   rw[AW]at h;simp only[Pa]at h;have zu:yB 0 [(0,n)]=au n:=rfl;rw[zu]at h;simp only at h;obtain⟨E1,π1,s1,q1,q2⟩:=ih x 0 h R PI (by simp);have R2:Rel k ([0].map (PJ (iF x) E1 π1)++L) E1 s1 w:=q1.rel.qz λy hy=>⟨n,q1.ext _ _ zu,hy⟩
   obtain⟨E2,π2,s2,r1,r2⟩:=z1y (λj=>ih x j) (c:=au (fw.cells vs t)) (by simp) q2 R2 q1.wf;have hle:=q1.le.trans r1.le;obtain⟨iq,r2⟩:=zL r2;refine⟨E2,π,s2,⟨hle,Ext.refl _,hw.mono hle,?_⟩,r2⟩;have H:=r1.rel.AX;have H2:Hp k w ((ba m).map (PJ (iF x) E2 π2)++(s2.rows.map (iu E2)++fz E2.F::L)):=by
    refine H.perm (cf _ (List.Perm.map _ ?_));rw[AW];refine(List.reverse_perm _).append_right _|>.trans ?_
    exact Bh
   refine Rel.Jt r1.rel.nx ((rq.2 H2).imp λy hy=> ?_);intro E3 π3 a b tl c;have tj:∀j,j<m->∃n,yB j π2=au n:=by
    intro j hj;have hs:∀{l:List HP} {y:PH},hS l y->∀A∈l,∃z,A z:=by
     intro l
     induction l with
     |nil=>intro y _ A hA;cases hA
     |cons B l ih=>
      intro y hy A hA;cases l with
      |nil=>rcases xj.1 hA with rfl;exact⟨y,hy⟩
      |cons C l=>
       obtain⟨g,g',h1,h2,_,_⟩:=hy;rcases ku.1 hA with rfl|hA
       ·exact⟨g,h1⟩
       ·exact ih h2 A hA
    obtain⟨z,n,hz,_⟩:=hs hy (PJ (iF x) E2 π2 j) (oe.2 ⟨j,zh.2 hj,rfl⟩);exact⟨n,hz⟩
   let j':List Hd:=(ba m).map λj=>(E3.gu[(yB j π2).getD 0]?).getD (af,[])
   have Sb:∀j n,j<m->yB j π2=au n->∃hd,E3.gu[n]? =au hd/\j'[j]? =au hd:=by
    intro j n hj hn;obtain⟨hd,h'⟩:=r1.wf j n hn;refine⟨hd,a.get h',?_⟩;show((ba m).map _)[j]? =_;rw[uz,KZ hj];simp only[ym,hn,zj,a.get h']
   have uh:Loc π2 E3.gu j':=λp q e=>Sb p q (mV iq p q e) e
   refine⟨hd,a.get (hle.get hd1),?_⟩;simp only[gg];refine⟨j',?_,by simp[j'],?_⟩
   ·have h0:yB 0 π2=au n:=r1.ext _ _ (q1.ext _ _ zu);obtain⟨oY,e1,e2⟩:=Sb 0 n (by omega) h0;rw[a.get (hle.get hd1)]at e1;cases e1;exact e2
   ·refine KA ?_ hy;rintro j z ⟨nj,hj,hz⟩;obtain⟨oY,e1,e2⟩:=hz E3 π2 a (Ext.refl _) j' uh;obtain⟨AG,e3,e4⟩:=uh j nj hj;rw[e1]at e3;cases e3;exact⟨oY,e4,e2⟩
  ·obtain⟨rfl,h⟩:=h;exact⟨E,π,s,⟨Ev.le.refl _,Ext.refl _,hw,R.qz λx hx=>fT rfl (by simp) hx⟩,h⟩
variable {k:Ko} {L:List HP} {w:ab}
def fD:Nat->List fw->List (Nat×fw)
 |_,[]=>[]
 |p,o::os=>(p,o)::fD (p+1) os
def PQ (E:Ev) (π:NM) (r:Nat×fw):HP:=λh=>(r.2= .gone/\h=pe)\/∃n,yB r.1 π=au n/\BG E π n r.2 h
def PQ.mono {E E':Ev} {π π':NM} (hle:E.le E') (hx:Ext π π') (r:Nat×fw) {h:PH} (e:PQ E π r h):PQ E' π' r h:=by
 rcases e with e|⟨n,h1,h2⟩
 ·exact .inl e
 ·exact .inr ⟨n,hx _ _ h1,h2.mono hle hx⟩
def Vr:∀{os:List fw} {p:Nat} {π:NM} {s:St} {K:NM->St->Prop} {E:Ev} {L:List HP},HH p os π s K->Rel k L E s w->AI π E.gu->
 ∃E' π' s',ye k ((fD p os).map (PQ E' π')++L) w E π E' π' s'/\K π' s'
 |[],p,π,s,K,E,L,h,R,hw=>⟨E,π,s,⟨Ev.le.refl _,Ext.refl _,hw,R⟩,h⟩
 |o::os,p,π,s,K,E,L,h,R,hw=>by
  have fin:∀{E1:Ev} {π1:NM} {s1:St},ye k (PQ E1 π1 (p,o)::L) w E π E1 π1 s1->HH (p+1) os π1 s1 K->∃E' π' s',ye k ((fD p (o::os)).map (PQ E' π')++L) w E π E' π' s'/\K π' s':=by
   intro E1 π1 s1 q1 q2;obtain⟨E2,π2,s2,r1,r2⟩:=Vr q2 q1.rel q1.wf;refine⟨E2,π2,s2,⟨q1.le.trans r1.le,q1.ext.trans r1.ext,r1.wf,?_⟩,r2⟩;have R3:=r1.rel;have R4:Rel k (PQ E1 π1 (p,o)::((fD (p+1) os).map (PQ E2 π2)++L)) E2 s2 w:=⟨R3.nx,R3.hp.perm (by
    refine ce _ (.cons _ ?_);exact ni)⟩
   exact R4.qz λx hx=>hx.mono r1.le r1.ext
  cases o with
  |gone=>
   simp only[HH]at h;refine fin ⟨Ev.le.refl _,Ext.refl _,hw,?_⟩ h;exact Rel.Jt R.nx (((@gV k w True _).2 ⟨trivial,R.hp⟩).imp λx hx=> .inl ⟨rfl,hx.2⟩)
  |_=>
   simp only[HH]at h;split at h<;>first|exact h.elim|skip
   rename_i n hn;split at h<;>first|exact h.elim|skip
   rename_i o' ln;obtain⟨ln,hg⟩:=UP ln;obtain⟨E1,π1,s1,q1,q2⟩:=y0m _ h (R.gz ln) hw hg;exact fin ⟨q1.le,q1.ext,q1.wf,q1.rel.qz λx hx=> .inr ⟨n,q1.ext _ _ hn,hx⟩⟩ q2
structure Alt where
 o:Type
 res:o->V
 post:o->List fw
 rel:o->Prop
structure gx where
 ι:Type
 pat:ι->List V
 pre:ι->List fw
 du:ι->Prop
 alts:ι->List Alt
def Hq (m nx:Nat):Nat->NM->NM
 |0,π=>π
 |q+1,π=>Hq m nx q ((m+q,nx+q)::π)
def kV (π:NM):Nat->List fw->List (Nat×fw)
 |_,[]=>[]
 |p,.gone::os=>kV π (p+1) os
 |p,o::os=>match yB p π with
  |some n=>(n,Em π o)::kV π (p+1) os
  |none=>kV π (p+1) os
def y5i (m:Nat) (π:NM) (s:St) (os:List fw):St:=⟨kV (Hq m s.nx (os.length-m) π) 0 os++s.rows,s.nx+(os.length-m)⟩
def y2n (m:Nat) (π:NM) (s:St) (K:V->St->Prop) (a:Alt):Prop:=
 ∀o,a.rel o->bif ay m (a.post o).length then K (lT (Hq m s.nx ((a.post o).length-m) π) (a.res o)) (y5i m π s (a.post o))else False
def yJq (m:Nat) (π:NM) (s:St) (K:V->St->Prop):List Alt->Prop
 |[]=>True
 |[a]=>y2n m π s K a
 |a::l=>y2n m π s K a/\yJq m π s K l
def zWi {m:Nat} {π:NM} {s:St} {K:V->St->Prop}:∀{l:List Alt},yJq m π s K l->∀a∈l,y2n m π s K a
 |[],_,a,ha=>by cases ha
 |[b],h,a,ha=>by rcases xj.1 ha with rfl;exact h
 |b::c::l,h,a,ha=>by
  rcases ku.1 ha with rfl|ha
  ·exact h.1
  ·exact zWi h.2 a ha
def gx.call (C:gx) (args:List V) (s:St) (K:V->St->Prop):Prop:=
 ∃i:C.ι,DS (C.pat i) args [] s λπ s=>HH 0 (C.pre i) π s λπ s=>bif eY (C.pre i).length π then C.du i/\yJq (C.pre i).length π s K (C.alts i)else False
def gx.ok (P:ae) (f:ap) (C:gx):Prop:=∀i,C.du i->∀(k:Ko) (L:List HP) (E:Ev) (w:ab) (ys:List aa),Rel k L E ⟨fD 0 (C.pre i),(C.pre i).length⟩ w->im E (C.pat i) ys->
 ob P (ag f ys.toArray) w λy w'=>∃a∈C.alts i,∃o,a.rel o/\∃E',E.le E'/\VR E' (a.res o) y/\Rel k L E' ⟨fD 0 (a.post o),(a.post o).length⟩ w'
def zVw {m nx:Nat} {p n:Nat}:∀{q:Nat} {π:NM},yB p (Hq m nx q π)=au n->yB p π=au n\/(m<=p/\n=nx+(p-m))
 |0,π,h=> .inl h
 |q+1,π,h=>by
  simp only[Hq]at h;rcases zVw (q:=q) h with h|h
  ·simp only[yB]at h;cases hb:aw (m+q) p
   ·rw[hb]at h;exact .inl h
   ·rw[hb]at h;have:=ji hb;simp only[cond_true,ci]at h;exact .inr ⟨by omega,by omega⟩
  ·exact .inr h
def pO {π:NM} {E E2:Ev} (hF:E.F=E2.F) (hr:∀p n hd,yB p π=au n->E.gu[p]? =au hd->E2.gu[n]? =au hd) {M:List HP}:∀{os:List fw} {p:Nat},Hp k w ((fD p os).map (iu E)++M)->Hp k w ((kV π p os).map (iu E2)++M)
 |[],p,H=>H
 |o::os,p,H=>by
  simp only[fD,iT,tu]at H;have drop:Hp k w ((kV π (p+1) os).map (iu E2)++M):=pO hF hr H.drop;have main:∀n,yB p π=au n->Hp k w (iu E2 (n,Em π o)::((kV π (p+1) os).map (iu E2)++M)):=by
   intro n hn;have H1:Hp k w ((fD (p+1) os).map (iu E)++(iu E (p,o)::M)):=H.perm ni.symm;have H2:=pO hF hr H1;refine(H2.perm ni).imp λx hx=> ?_
   rcases hx with⟨e,e2⟩|⟨hd,h1,h2⟩
   ·left;simp only at e;subst e;exact⟨rfl,e2⟩
   ·right;exact⟨hd,hr _ _ _ hn h1,hF▸h2.vz hr⟩
  cases o with
  |gone=>simpa only[kV]using drop
  |_=>
   simp only[kV];split
   ·rename_i n hn;exact main n hn
   ·exact drop
def gx.zf {P:ae} {f:ap} {C:gx} (hC:C.ok P f) {args:List V} {s:St} {K:V->St->Prop} {E:Ev} {ys:List aa} (h:C.call args s K) (R:Rel k L E s w) (hv:im E args ys):
 ob P (ag f ys.toArray) w (pz k L E K):=by
 obtain⟨i,h⟩:=h;have PI:AI [] E.gu:=λp n e=>by cases e
 obtain⟨E1,π1,s1,q1,q2,q3⟩:=IX h R PI hv;obtain⟨E2,π2,s2,r1,r2⟩:=Vr q3 q1.rel q1.wf;obtain⟨iq,hc,ha⟩:=zL r2;have iq:=mV iq
 let m:=(C.pre i).length
 let tl:List Hd:=(ba m).map λp=>(E2.gu[(yB p π2).getD 0]?).getD (af,[])
 have uh:Loc π2 E2.gu tl:=by
  intro p n hp;obtain⟨hd,h'⟩:=r1.wf p n hp;refine⟨hd,h',?_⟩;show((ba m).map _)[p]? =_;rw[uz,KZ (iq p n hp)];simp only[ym,hp,zj,h']
 have HJ:tl.length=m:=by simp[tl]
 have H:=r1.rel.AX;have H1:=vD (g:=iu ⟨E2.F,tl⟩) (λr x hx=>by
  rcases hx with⟨e1,e2⟩|⟨n,h1,h2⟩
  ·exact .inl ⟨e1,e2⟩
  ·right;obtain⟨hd,h3,h4⟩:=h2 E2 π2 (Ev.le.refl _) (Ext.refl _) tl uh;obtain⟨oY,h5,h6⟩:=uh _ _ h1;rw[h3]at h5;cases h5;exact⟨hd,h6,h4⟩) H
 have R0:Rel k (s2.rows.map (iu E2)++L) ⟨E2.F,tl⟩ ⟨fD 0 (C.pre i),(C.pre i).length⟩ w:=⟨HJ,H1.perm (ce _ ni)⟩
 have Wz:im ⟨E2.F,tl⟩ (C.pat i) ys:=q2 E2 π2 r1.le r1.ext tl uh;refine(hC i hc k _ _ w ys R0 Wz).mono ?_;rintro y w' ⟨a,ha',o,LG,E3,hle,PL,R3⟩;obtain⟨hm,hk⟩:=zL (zWi ha a ha' o LG);have hm:=B1 hm
 let q:=(a.post o).length
 have hlen:E3.gu.length=q:=R3.nx
 let E4:Ev:=⟨E3.F,E2.gu++E3.gu.drop m⟩
 have sy:E2.le E4:=⟨hle.1,Jk _ _⟩
 have AQ:∀p n hd,yB p (Hq m s2.nx (q-m) π2)=au n->E3.gu[p]? =au hd->E4.gu[n]? =au hd:=by
  intro p n hd hp ht;rcases zVw hp with hp|⟨h1,rfl⟩
  ·obtain⟨oY,h5,h6⟩:=uh _ _ hp;have:=TZ hle.2 h6;rw[ht]at this;cases this;exact sy.get h5
  ·show(E2.gu++E3.gu.drop m)[s2.nx+(p-m)]? =au hd;rw[<- r1.rel.nx,CY (by omega),Bg];rw[show m+(E2.gu.length+(p-m)-E2.gu.length)=p by omega];exact ht
 refine⟨E4,_,_,(q1.le.trans r1.le).trans sy,?_,PL.vz (F:=E3.F) AQ,hk⟩;refine⟨by show(E2.gu++E3.gu.drop m).length=s2.nx+(q-m);rw[iQ,qc,r1.rel.nx,hlen],?_⟩;have H2:=pO (E:=E3) (E2:=E4) rfl AQ R3.hp;have H3:Hp k w' (s2.rows.map (iu E2)++((kV (Hq m s2.nx (q-m) π2) 0 (a.post o)).map (iu E4)++fz E3.F::L)):=by
  refine H2.perm ?_;rw[<- km];refine List.Perm.trans ?_ (Bh.append_right _);rw[km];exact ce _ ni.symm
 have H4:=vD (g:=iu E4) (λr x=>iu.mono sy r) H3;refine H4.perm ?_;show(s2.rows.map (iu E4)++((kV (Hq m s2.nx (q-m) π2) 0 (a.post o)).map (iu E4)++fz E3.F::L)).Perm ((kV (Hq m s2.nx (q-m) π2) 0 (a.post o)++s2.rows).map (iu E4)++fz E4.F::L);rw[<- km,jz];exact Bh.append_right _
variable {P:ae} {k:Ko} {L:List HP}
def kS (P:ae) (ρ:xE) (op:Op):Nat:=
 match op with
 | .convert s d _=>bif Pg P s && Kz P d then 1 else bif Kz P s && Ho P d then 2 else bif Pg P s && Ho P d then 2 else 0
 | .indexAddr _ x _=>match mn ρ x with
   | .own _=>1
   |_=>0
 | .slice _ x _ _ _=>match mn ρ x with
   | .own _=>2
   |_=>0
 | .binOp _ _ x _ _=>match mn ρ x with
   | .own _=>1
   |_=>0
 | .call c=>match c.callee with
   | .builtin .len=>match C' ρ c.args.toList with
     |[.own _]=>1
     |[.mp _]=>1
     |_=>0
   | .builtin .cap=>0
   | .builtin .min=>0
   | .builtin .max=>0
   |_=>2
 |op=>Tn P op
def opS (P:ae) (H:Br) (o:ao) (ρ:xE) (s:St) (K:V->St->Prop):Prop:=
 match kS P ρ o.op with
 |0=>sq P o ρ λv=>K v s
 |1=>sr P o ρ s λv=>K v s
 |_=>se P H o ρ s K
def yHh {H:Br} (hH:Ia P H) {E:Ev} {s:St} {w:ab} (R:Rel k L E s w) {ρS:xE} {ρ:Env} (he:mf E ρS ρ) {o:ao} {K:V->St->Prop} (h:opS P H o ρS s K):ob P (ac (ev ρ) o) w (pz k L E K):=by
 unfold opS at h;split at h
 ·obtain⟨v,y,hk,hv,hf⟩:=z5m he h;exact wO (hf w) ⟨E,v,s,Ev.le.refl _,R,hv,hk⟩
 ·obtain⟨v,y,hk,hv,hf⟩:=Yk R he h;exact wO hf ⟨E,v,s,Ev.le.refl _,R,hv,hk⟩
 ·exact z4e hH R he h
def Oh (ops:List ao) (g:Option (Nat×Bool)) (ρ:xE) (Y N:xE->Prop):Prop:=
 match g with
 |none=>Y ρ
 |some (j,want)=>
  match Wa ops j with
  |none=>N ρ
  |some d=>
   match ρ d with
   | .d (.v (.bool c))=>gd c want (Y (Bf ρ (au d) (.d (.v (.bool want))))) (N (Bf ρ (au d) (.d (.v (.bool !want)))))
   | .jm []=>N ρ
   |_=>False
def yIn {ρ:xE} {d:Nat} {v:V} (h:ρ d=v):Bf ρ (au d) v=ρ:=by
 funext i;simp only[Bf];cases hb:aw i d
 ·rfl
 ·have:=ji hb;subst this;exact h.symm
def lM {ops:List ao} {o:ao} {a:Act} {E:Ev} {ρS:xE} (he:mf E ρS (yP a)) {Y N:xE->Prop} (h:Oh ops o.guard ρS Y N):
 if cw o (yielded ops.toArray a.tmps)then Y ρS else N ρS:=by
 unfold Oh at h;unfold cw;split at h
 ·rename_i hg;rw[hg];exact h
 ·rename_i j want hg;rw[hg];have hy:=zIv ops a.tmps j;split at h
  ·rename_i hd;rw[hd]at hy;simp only[hy];simpa using h
  ·rename_i d hd;rw[hd]at hy;simp only[hy];have hv:yP a d=(a.tmps[d]?).getD af:=by simp[yP,Ck]
   have Fs:=he d;rw[hv]at Fs;split at h<;>first|exact h.elim|skip
   ·rename_i c hc;rw[hc]at Fs;simp only[VR,DR]at Fs;cases ht:a.tmps[d]? with
    |none=>rw[ht]at Fs;exact absurd Fs.1 (by simp[af])
    |some v=>
     rw[ht]at Fs;simp only[zj]at Fs;rw[Fs.1];simp only[];have hs:∀b,c=b->Bf ρS (au d) (.d (.v (.bool b)))=ρS:=λb hb=>yIn (by rw[hc,hb])
     cases c<;>cases want<;>simp only[gd,Bool.not_true,Je]at h<;>rw[hs _ rfl]at h<;>simpa using h
   ·rename_i hc;rw[hc]at Fs;simp only[VR,im]at Fs;obtain⟨ys,e1,rfl⟩:=Fs;cases ht:a.tmps[d]? with
    |none=>simpa using h
    |some v=>
     rw[ht]at e1;simp only[zj]at e1;subst e1;simpa using h
def O0 (P:ae) (H:Br) (ops:List ao):List ao->xE->St->(xE->St->Prop)->Prop
 |[],ρ,s,K=>K ρ s
 |o::rest,ρ,s,K=>Oh ops o.guard ρ (λρ=>opS P H o ρ s λv s'=>O0 P H ops rest (Bf ρ o.dst v) s' K) (λρ=>O0 P H ops rest (Bf ρ o.dst (.jm [])) s K)
def zGa (E:Ev):VR E (.jm []) af:=by
 simp only[VR];exact⟨[],rfl,im.nil⟩
def zNq {H:Br} (hH:Ia P H) {ops:List ao} {n:Nat} {A:Nat->Bool} {e0:Env} {Q:Exit->Act->ab->Prop} {E0:Ev} {K:xE->St->Prop}
 (hQ:∀a w E ρS s,Good n A e0 a->E0.le E->Rel k L E s w->mf E ρS (yP a)->K ρS s->Q .normal a w):
 ∀(l:List ao) (a:Act) (w:ab) (E:Ev) (ρS:xE) (s:St),IU n A l->Good n A e0 a->E0.le E->Rel k L E s w->mf E ρS (yP a)->O0 P H ops l ρS s K->wpList P ops.toArray Q l a w
 |[],a,w,E,ρS,s,_,hg,hle,R,he,h=>hQ a w E ρS s hg hle R he h
 |o::l,a,w,E,ρS,s,hf,rl,hle,R,he,h=>by
  have za:=hf o jg;have hf':IU n A l:=λo' ln=>hf o' (jx _ ln)
  have hg:=lM he h;have nx:∀{v:aa} {w:ab} {E':Ev} {v':V} {s':St},E.le E'->Rel k L E' s' w->VR E' v' v->O0 P H ops l (Bf ρS o.dst v') s' K->wpList P ops.toArray Q l (a.put o.dst v) w:=λ{v w E' v' s'} jt R' hv hh=>
   zNq hH hQ l _ _ E' _ s' hf' (rl.put za v) (hle.trans jt) R' (by rw[rl.mz za];exact(he.mono jt).put _ hv) hh
  unfold wpList;split
  ·rename_i hw;rw[fk hw]at hg;left;refine zFm ?_;have:=yHh hH R he hg;rw[wV]at this;refine this.mono ?_;rintro v w' ⟨E',v',s',h1,h2,h3,h4⟩;exact nx h1 h2 h3 h4
  ·rename_i hw;rw[dx hw]at hg;exact nx (Ev.le.refl _) R (zGa E) hg
def zNg {P:ae} {E:Ev} {t sz i f:Nat} {fh:List (List D)} {b o:Nat} {l:List aa} {T:aj} {fr:Nat×Nat} {ds:List D} {v:V} (hu:∀el∈fh,el.length=sz) (h5:Bu E.F fh (l.drop o))
 (hp:zF fh i f ds.length=au ds) (hm:HI P t ds=au v):∃y,VR E v y/\∀w:ab,w.heap[b]? =au (.cells l.toArray T fr)->pZ P t ⟨b,o+i*sz+f,av⟩ w y:=by
 obtain⟨xs,r,e,hx⟩:=o8.1 h5;unfold zF at hp;split at hp<;>first|(cases hp;done)|skip
 rename_i el qf;obtain⟨hb,hp⟩:=y3 hp;have hb:=B1 hb;have rf:=mc qf;have hi:i<fh.length:=(ju.1 qf).1;rw[hu el rf]at hb;have nv:=(hx.drop (i*sz+f)).take ds.length;have hfp:=Zg hu qf hb;rw[hfp,cm hp]at nv;have hlen:xs.length=fh.length*sz:=by rw[hx.length,j9 hu]
 have qt:i*sz+sz<=fh.length*sz:=by
  have:=yh sz (show i+1<=fh.length by omega);rwa [Ak]at this
 have ox:(l.drop (o+i*sz+f)).take ds.length=(xs.drop (i*sz+f)).take ds.length:=by
  rw[DM,<- CU,e,GZ (by omega),zq (by rw[qc];omega)]
 unfold HI at hm;split at hm
 ·rename_i n hn;obtain⟨hq,hm⟩:=y3 hm;have:=ji hq;cases hm;refine⟨.agg ((xs.drop (i*sz+f)).take ds.length).toArray,by simp only[VR];exact⟨_,rfl,nv.Nt⟩,λw e2=> ?_⟩;refine Va hn e2 (by rw[<- this];exact ox) ?_;rw[nv.length,this]
 ·obtain⟨hq,hm⟩:=y3 hm;split at hm<;>first|(cases hm;done)|skip
  rename_i d;cases hm;simp only[iY,Al,iI]at nv ox;obtain⟨y,ys,e4,h4,h5⟩:=nv;subst h5;refine⟨y,by simpa only[VR]using h4,λw e2=>vT hq e2 ?_⟩;have:((l.drop (o+i*sz+f)).take 1)[0]? =au y:=by rw[ox,e4];rfl
  rw[Jm,fk (by omega),Bg]at this;simpa using this
def TS (ρ:xE) (s:St):Op->Bool
 | .load _ x=>match mn ρ x with
   | .re _ _ _ _=>bv
   | .el n _ _ _=>match s.get n with
     |some (.kh _ _)=>bv
     |_=>cd
   |_=>cd
 |_=>cd
def yHc {E:Ev} {s:St} {w:ab} (R:Rel k L E s w) {ρS:xE} {ρ:Env} (he:mf E ρS ρ) {o:ao} {K:V->Prop} (jy:TS ρS s o.op=bv) (h:sr P o ρS s K):
 ∃v y,K v/\VR E v y/\∀(E':Ev) (s':St) (w':ab),E.le E'->Rel k L E' s' w'->(ac (ev ρ) o).run P w'= .ok (.value y) w':=by
 cases ho:o.op<;>rw[ho]at jy<;>first|(cases jy;done)|skip
 case load t x=>
  simp only[sr,ho]at h;simp only[TS]at jy;have hv:=he.ev x;split at jy<;>first|(cases jy;done)|skip
  ·rename_i sz fh i f hx;rw[hx]at hv h;simp only[VR]at hv;simp only at h;obtain⟨e0,e1,b,oo,l,T,fr,e2,e3,e4⟩:=hv;obtain⟨ds,hp,h⟩:=mC h;obtain⟨v,hm,hk⟩:=zM h;obtain⟨y,hy,hh⟩:=zNg (b:=b) (T:=T) (fr:=fr) e1 e4 hp hm;refine⟨v,y,hk,hy,λE' s' w' hle R'=> ?_⟩;simp only[ac,ho,e2];exact yI (hh w' (R'.frozen _ _ (hle.1 _ _ e3)))
  ·rename_i n sz i f hx;rw[hx]at hv h;simp only[VR]at hv;simp only at h;split at jy<;>first|(cases jy;done)|skip
   rename_i sz0 abk hg;obtain⟨b,oo,m,c,l,e1,e2⟩:=hv;simp only[KB,nY,hg]at h;obtain⟨⟨oL,fh⟩,hd,h⟩:=zM h;simp only[tF,hg,ci,Prod.mk.injEq]at hd;obtain⟨rfl,rfl⟩:=hd;obtain⟨hb,h⟩:=zL h;have:=ji hb;simp only at this;subst this;obtain⟨ds,hp,h⟩:=mC h;obtain⟨v,hm,hk⟩:=zM h;obtain⟨hd,x',q1,q2,q3⟩:=R.row hg (by simp);rw[e1]at q1;cases q1;simp only[gg,DR]at q2;obtain⟨_,a,c',q4,q5,q6,q7⟩:=q2;cases q4;rcases q7 with rfl|⟨b',o',l',T,fr,q8,q9,q10⟩
   ·simp[zF]at hp
   cases q8;obtain⟨y,hy,hh⟩:=zNg (b:=b) (T:=T) (fr:=fr) q6 q10 hp hm;refine⟨v,y,hk,hy,λE' s' w' hle R'=> ?_⟩;simp only[ac,ho,e2];exact yI (hh w' (R'.frozen _ _ (hle.1 _ _ q9)))
def y1v:V->V->Prop
 | .d (.v x),.d (.v y)=>Wp x y
 | .nm n o,.nm n' o'=>bif aw n n' && aw o o' then True else False
 | .own n,.own n'=>bif aw n n' then True else False
 | .mp n,.mp n'=>bif aw n n' then True else False
 | .el n sz i f,.el n' oL i' f'=>bif aw n n' && aw sz oL && aw f f' then i=i' else False
 |_,_=>False
def fK {E E':Ev} (hle:E.le E') {v v':V} {y y':aa} (h:y1v v' v) (hy:VR E v y) (qe:VR E' v' y'):y'=y:=by
 unfold y1v at h;split at h<;>first|exact h.elim|skip
 ·simp only[VR,DR]at hy qe;rw[hy.1,qe.1,yNy h]
 ·obtain⟨hb,_⟩:=zL h;simp only[ld]at hb;have e1:=ji hb.1;have e2:=ji hb.2;subst e1 e2;simp only[VR]at hy qe;obtain⟨b,oo,l,h1,rfl⟩:=hy;obtain⟨b',oo',l',Bn,rfl⟩:=qe;rw[hle.get h1]at Bn;cases Bn;rfl
 ·obtain⟨hb,_⟩:=zL h;have e1:=ji hb;subst e1;simp only[VR]at hy qe;obtain⟨l,h1,_⟩:=hy;obtain⟨l',Bn,_⟩:=qe;rw[hle.get h1]at Bn;cases Bn;rfl
 ·obtain⟨hb,_⟩:=zL h;have e1:=ji hb;subst e1;simp only[VR]at hy qe;obtain⟨b,l,h1,_⟩:=hy;obtain⟨b',l',Bn,_⟩:=qe;rw[hle.get h1]at Bn;cases Bn;rfl
 ·obtain⟨hb,rfl⟩:=zL h;simp only[ld]at hb;have e1:=ji hb.1.1;have e2:=ji hb.1.2;have e3:=ji hb.2;subst e1 e2 e3;simp only[VR]at hy qe;obtain⟨b,oo,m,c,l,h1,rfl⟩:=hy;obtain⟨b',oo',m',c',l',Bn,rfl⟩:=qe;rw[hle.get h1]at Bn;cases Bn;rfl
mutual
def Cl:V->V->Prop
 | .agg l,v=>match v with
   | .agg l'=>M3 l l'
   |_=>False
 | .jm l,v=>match v with
   | .jm l'=>M3 l l'
   |_=>False
 |u,v=>y1v u v
def M3:List V->List V->Prop
 |[],l=>match l with
  |[]=>True
  |_=>False
 |u::us,l=>match l with
  |v::vs=>Cl u v/\M3 us vs
  |[]=>False
end
mutual
theorem yDc {E E':Ev} (hle:E.le E'):∀{v' v:V} {y y':aa},Cl v' v->VR E v y->VR E' v' y'->y'=y
 | .agg l,v,y,y',h,hy,qe=>by
   simp only[Cl]at h;split at h<;>first|exact h.elim|skip
   simp only[VR]at hy qe;obtain⟨ys,rfl,h1⟩:=hy;obtain⟨DL,rfl,h2⟩:=qe;rw[Yi hle h h1 h2]
 | .jm l,v,y,y',h,hy,qe=>by
   simp only[Cl]at h;split at h<;>first|exact h.elim|skip
   simp only[VR]at hy qe;obtain⟨ys,rfl,h1⟩:=hy;obtain⟨DL,rfl,h2⟩:=qe;rw[Yi hle h h1 h2]
 | .top,v,y,y',h,hy,qe=>fK hle (by simpa only[Cl]using h) hy qe
 | .d _,v,y,y',h,hy,qe=>fK hle (by simpa only[Cl]using h) hy qe
 | .nm _ _,v,y,y',h,hy,qe=>fK hle (by simpa only[Cl]using h) hy qe
 | .el _ _ _ _,v,y,y',h,hy,qe=>fK hle (by simpa only[Cl]using h) hy qe
 | .re _ _ _ _,v,y,y',h,hy,qe=>fK hle (by simpa only[Cl]using h) hy qe
 | .own _,v,y,y',h,hy,qe=>fK hle (by simpa only[Cl]using h) hy qe
 | .mp _,v,y,y',h,hy,qe=>fK hle (by simpa only[Cl]using h) hy qe
 | .sub _ _,v,y,y',h,hy,qe=>fK hle (by simpa only[Cl]using h) hy qe
 | .fn _ _ _,v,y,y',h,hy,qe=>fK hle (by simpa only[Cl]using h) hy qe
 | .An _ _,v,y,y',h,hy,qe=>fK hle (by simpa only[Cl]using h) hy qe
theorem Yi {E E':Ev} (hle:E.le E'):∀{v' v:List V} {y y':List aa},M3 v' v->im E v y->im E' v' y'->y'=y
 |[],v,y,y',h,hy,qe=>by
  simp only[M3]at h;split at h<;>first|exact h.elim|skip
  simp only[im]at hy qe;rw[hy,qe]
 |u::us,v,y,y',h,hy,qe=>by
  simp only[M3]at h;split at h<;>first|exact h.elim|skip
  simp only[im]at hy qe;obtain⟨x,xs,rfl,h1,h2⟩:=hy;obtain⟨x',xs',rfl,Bn,h2'⟩:=qe;rw[yDc hle h.1 h1 Bn,Yi hle h.2 h2 h2']
end
@[reducible] def EV:=Nat×(St->Prop)
def IN (bf:List Nat) (i:Nat):List EV->List EV
 |[]=>[]
 |m::l=>bif Bc bf i m.1 then IN bf i l else m::IN bf i l
def y0j:List EV->St->Prop->Prop
 |[],_,X=>X
 |m::ms,s,X=>m.2 s/\y0j ms s X
def yZo (P:ae) (ops:List ao) (ρ:xE) (i:Nat):Bool:=
 match ops[i]? with
 |some o=>match kS P ρ o.op with
  |2=>cd
  |_=>bv
 |none=>bv
def Tu:Op->Bool
 | .slice _ _ _ _ av=>bv
 |_=>cd
def z7y {o:Op} (h:Tu o=bv):∃t x lo hi,o= .slice t x lo hi av:=by
 unfold Tu at h;split at h
 ·exact⟨_,_,_,_,rfl⟩
 ·cases h
def EZ (P:ae) (H:Br) (ops:List ao) (bf:List Nat):Nat->Array Bool->List EV->xE->St->(xE->St->Prop)->Prop
 |0,fu,_,ρ,s,K=>
  match cx .any ops.toArray fu with
  |[]=>K ρ s
  |_=>False
 |fuel+1,fu,M,ρ,s,K=>
  match cx .any ops.toArray fu with
  |[]=>K ρ s
  |r::rs=>
   match(r::rs).find? (yZo P ops ρ)with
   |some i=>
    match ops[i]? with
    |none=>False
    |some o=>Oh ops o.guard ρ
      (λρ'=>match kS P ρ' o.op with
        |0=>sq P o ρ' λv=>EZ P H ops bf fuel (fu.setIfInBounds i bv) M (Bf ρ' o.dst v) s K
        |1=>sr P o ρ' s λv=>EZ P H ops bf fuel (fu.setIfInBounds i bv) ((i,λs'=>bif TS ρ' s o.op then True else sr P o ρ' s' λv'=>Cl v' v)::M) (Bf ρ' o.dst v) s K
        |_=>False)
      (λρ'=>EZ P H ops bf fuel (fu.setIfInBounds i bv) M (Bf ρ' o.dst (.jm [])) s K)
   |none=>Vv (r::rs) λi=>
    match ops[i]? with
    |none=>False
    |some o=>Oh ops o.guard ρ
      (λρ'=>se P H o ρ' s λv s'=>bif Tu o.op then EZ P H ops bf fuel (fu.setIfInBounds i bv) (IN bf i M) (Bf ρ' o.dst v) s' K else y0j (IN bf i M) s' (EZ P H ops bf fuel (fu.setIfInBounds i bv) (IN bf i M) (Bf ρ' o.dst v) s' K))
      (λρ'=>EZ P H ops bf fuel (fu.setIfInBounds i bv) (IN bf i M) (Bf ρ' o.dst (.jm [])) s K)
inductive oJ (k:Ko) (L:List HP) (E:Ev):List EV->List Mon->Prop
 |nil:oJ k L E [] []
 |cons {i:Nat} {f:St->Prop} {g:ab->Prop} {M:List EV} {N:List Mon}:(∀E' s' w',E.le E'->Rel k L E' s' w'->f s'->g w')->oJ k L E M N->oJ k L E ((i,f)::M) ((i,g)::N)
def oJ.mono {E E':Ev} (hle:E.le E') {M:List EV} {N:List Mon} (h:oJ k L E M N):oJ k L E' M N:=by
 induction h with
 |nil=>exact .nil
 |cons h _ ih=>exact .cons (λE2 s w a=>h E2 s w (hle.trans a)) ih
def oJ.o6 {E:Ev} {bf:List Nat} {i:Nat} {M:List EV} {N:List Mon} (h:oJ k L E M N):oJ k L E (IN bf i M) (jX bf i N):=by
 induction h with
 |nil=>exact .nil
 | @cons j f g M N h _ ih=>
   simp only[IN,jX,List.filter_cons]at ih ⊢;cases hb:Bc bf i j
   ·simpa using .cons h ih
   ·simpa using ih
def oJ.all {E E':Ev} (hle:E.le E') {M:List EV} {N:List Mon} (h:oJ k L E M N) {s:St} {w:ab} (R:Rel k L E' s w) {X:Prop} (hm:y0j M s X):ES N w/\X:=by
 induction h with
 |nil=>exact⟨λm hm=>(by cases hm),hm⟩
 |cons h _ ih=>
  obtain⟨h1,h2⟩:=hm;obtain⟨h3,h4⟩:=ih h2;refine⟨λm hm=> ?_,h4⟩;rcases ku.1 hm with rfl|hm
  ·exact h _ _ _ hle R h1
  ·exact h3 m hm
def z4v {H:Br} (hH:Ia P H) {ops:List ao} {n:Nat} {A:Nat->Bool} {e0:Env} {Q:Act->ab->Prop} {E0:Ev} {K:xE->St->Prop} (pg:tV ops (gZ ops [])=bv) (hf:IU n A ops)
 (hQ:∀a w E ρS s,Good n A e0 a->E0.le E->Rel k L E s w->mf E ρS (yP a)->K ρS s->Q a w):
 ∀(fuel:Nat) (fu:Array Bool) (M:List EV) (N:List Mon) (a:Act) (w:ab) (E:Ev) (ρS:xE) (s:St),tH ops (qQ fu)->ES N w->oJ k L E M N->Good n A e0 a->E0.le E->Rel k L E s w->mf E ρS (yP a)->
  EZ P H ops (gZ ops []) fuel fu M ρS s K->CR P ops.toArray (gZ ops []) Q fuel N fu a w:=by
 intro fuel
 induction fuel with
 |zero=>
  intro fu M N a w E ρS s hc hM Ft rl hle R he h;unfold EZ at h;split at h
  ·rename_i hr;exact⟨hr,hQ a w E ρS s rl hle R he h⟩
  ·exact h.elim
 |succ fuel ih=>
  intro fu M N a w E ρS s hc hM Ft rl hle R he h;unfold EZ at h;split at h
  ·rename_i hr;exact⟨λ_=>hQ a w E ρS s rl hle R he h,λi hi=>by rw[hr]at hi;cases hi⟩
  ·rename_i r rs hr;have jf:cx .any ops.toArray fu≠[]:=by rw[hr];simp
   split at h
   ·rename_i i FN;have hi:i∈cx .any ops.toArray fu:=by rw[hr];exact List.mem_of_find?_eq_some FN
    split at h<;>first|exact h.elim|skip
    rename_i o ho;have Ac:∀v,yP (a.put o.dst v)=Cv.put (yP a) o.dst v:=λv=>rl.mz (nV hf ho) v
    have hg:=lM he h;have nx:∀{M:List EV} {N:List Mon} {v:V} {y:aa},ES N w->oJ k L E M N->VR E v y->EZ P H ops (gZ ops []) fuel (fu.setIfInBounds i bv) M (Bf ρS o.dst v) s K->
     CR P ops.toArray (gZ ops []) Q fuel N (fu.setIfInBounds i bv) (a.put o.dst y) w:=λ{M N v y} hM Ft hv hh=>
     ih _ _ _ _ _ _ _ _ (u7 hc hi) hM Ft (rl.put (nV hf ho) _) hle R (by rw[Ac];exact he.put _ hv) hh
    by_cases hw:cw o (yielded ops.toArray a.tmps)=bv
    ·rw[fk hw]at hg;split at hg<;>first|exact hg.elim|skip
     ·obtain⟨v,y,hk,hv,vo⟩:=z5m he hg;rw[wV]at vo;have hs:∀w,lB P ops.toArray o y a w:=λw=> .inl ⟨hw,vo w⟩
      exact f8 pg ho fuel N fu a w hc hi (hs w) hM (nS hs fuel _ _ _ (nx hM Ft hv hk))
     ·cases jy:TS ρS s o.op
      ·obtain⟨v,y,hk,hv,jr⟩:=Yk R he hg;rw[wV]at jr;simp only[jy,cond_false]at hk;have hs:lB P ops.toArray o y a w:= .inl ⟨hw,jr⟩;refine f8 pg ho fuel N fu a w hc hi hs hM (nx ?_ (.cons ?_ Ft) hv hk)
       ·intro m hm;rcases ku.1 hm with rfl|hm
        ·exact hs
        ·exact hM m hm
       ·intro E' s' w' jt R' jy;obtain⟨v',y',tb,Fi,Ka⟩:=Yk R' (he.mono jt) jy;rw[wV]at Ka;have:=yDc jt tb hv Fi;subst this;exact .inl ⟨hw,Ka⟩
      ·obtain⟨v,y,hk,hv,jr⟩:=yHc R he jy hg;rw[wV]at jr;simp only[jy,cond_true]at hk;have hs:lB P ops.toArray o y a w:= .inl ⟨hw,jr E s w (Ev.le.refl _) R⟩;refine f8 pg ho fuel N fu a w hc hi hs hM (nx ?_ (.cons ?_ Ft) hv hk)
       ·intro m hm;rcases ku.1 hm with rfl|hm
        ·exact hs
        ·exact hM m hm
       ·intro E' s' w' jt R' _;exact .inl ⟨hw,jr E' s' w' jt R'⟩
    ·rw[dx hw]at hg;have hs:∀w,lB P ops.toArray o af a w:=λw=> .inr ⟨by simpa using hw,rfl⟩
     exact f8 pg ho fuel N fu a w hc hi (hs w) hM (nS hs fuel _ _ _ (nx hM Ft (zGa E) hg))
   ·refine⟨λh0=>absurd h0 jf,λi hi=> ?_⟩;have h1:=Yj h i (by rw[<- hr];exact hi);split at h1<;>first|exact h1.elim|skip
    rename_i o ho;have Ac:∀v,yP (a.put o.dst v)=Cv.put (yP a) o.dst v:=λv=>rl.mz (nV hf ho) v
    have hg:=lM he h1;unfold Eo;simp only[A4,ho];by_cases hw:cw o (yielded ops.toArray a.tmps)=bv
    ·rw[fk hw]at hg ⊢;cases yq:Tu o.op with
     |true=>
      obtain⟨t,x,lo,NO,ln⟩:=z7y yq;obtain⟨y,Ha,E',v,s',jt,R',hv,hh⟩:=z5l R he ln hg;rw[wV]at Ha;rw[yq]at hh;have C6:ES (jX (gZ ops []) i N) w:=λm hm=>hM m (by simp only[jX,qk]at hm;exact hm.1)
      exact wO (Ha w) ⟨C6,ih _ _ _ _ _ _ _ _ (u7 hc hi) C6 (Ft.o6.mono jt) (rl.put (nV hf ho) _) (hle.trans jt) R' (by rw[Ac];exact(he.mono jt).put _ hv) hh⟩
     |false=>
     have BM:=z4e hH R he hg;rw[wV]at BM;refine BM.mono ?_;rintro y w' ⟨E',v,s',jt,R',hv,hh⟩;rw[yq]at hh;obtain⟨C6,hh⟩:=(Ft.o6 (bf:=gZ ops []) (i:=i)).all jt R' hh;exact⟨C6,ih _ _ _ _ _ _ _ _ (u7 hc hi) C6 (Ft.o6.mono jt) (rl.put (nV hf ho) _) (hle.trans jt) R' (by rw[Ac];exact(he.mono jt).put _ hv) hh⟩
    ·rw[dx hw]at hg ⊢;have C6:ES (jX (gZ ops []) i N) w:=λm hm=>hM m (by simp only[jX,qk]at hm;exact hm.1)
     exact⟨C6,ih _ _ _ _ _ _ _ _ (u7 hc hi) C6 Ft.o6 (rl.put (nV hf ho) _) hle R (by rw[Ac];exact he.put _ (zGa E)) hg⟩
variable {P:ae} {k:Ko} {L:List HP}
structure ib where
 ι:Type
 dv:ι->List (Nat×V)
 rows:ι->List fw
 o6:Nat->Bool:=λ_=>bv
 un:Nat:=0
 qo:ι->List (Nat×V):=λ_=>[]
 nf:ι->List fw:=λ_=>[]
 lits:List (Nat×aa):=[]
 C1:List Nat:=[]
 fr:Nat->Bool:=λ_=>cd
def ib.qh (x:ib):ib:={x with dv:=x.qo,rows:=x.nf}
def Nz:Code->Nat
 | .region i _ _=>i
 | .seq a _=>Nz a
 | .block _ a=>Nz a
 | .loop a=>Nz a
 | .cond _ a _=>Nz a
 |_=>0
def xBq:Code->Nat
 | .region i _ _=>4*i
 | .cond c a b=>4*Nz (.cond c a b)+1
 | .seq a b=>4*Nz a+2
 | .block id _=>4*id+3
 |_=>0
def yZc (n:Nat):List (Nat×ib)->Option ib
 |[]=>av
 |(m,x)::l=>bif aw m n then au x else yZc n l
def V3 (t:Nat):List (Nat×V)->Option V
 |[]=>av
 |(u,v)::l=>bif aw u t then au v else V3 t l
def Ob (ρ:xE):List (Nat×V)->List V
 |[]=>[]
 |(t,_)::l=>ρ t::Ob ρ l
def OW:List (Nat×V)->List V
 |[]=>[]
 |(_,v)::l=>v::OW l
def V2:fw->Bool
 | .own _ _ _=>bv
 | .AN=>bv
 | .kh _ _=>bv
 | .kg _ _ _ _ _ _=>bv
 |_=>cd
def wW (fr:Nat->Bool) (π:NM):Nat->List fw->NM
 |_,[]=>[]
 |p,o::os=>bif V2 o then wW fr π (p+1) os else bif fr p then wW fr π (p+1) os else match yB p π with
  |some n=>(p,n)::wW fr π (p+1) os
  |none=>wW fr π (p+1) os
def lR (fr:Nat->Bool) (N:Nat) (π:NM):Nat->List fw->NM
 |_,[]=>[]
 |p,o::os=>bif V2 o then(p,N+p)::lR fr N π (p+1) os else bif fr p then(p,N+p)::lR fr N π (p+1) os else match yB p π with
  |some n=>(p,n)::lR fr N π (p+1) os
  |none=>lR fr N π (p+1) os
def Hm (N:Nat) (st:NM):Nat->NM
 |0=>[]
 |p+1=>(p,(yB p st).getD (N+p))::Hm N st p
def XO {N:Nat} {st:NM} {p q:Nat}:∀{m:Nat},yB p (Hm N st m)=au q->q=N+p\/yB p st=au q
 |0,h=>by cases h
 |m+1,h=>by
  simp only[Hm,yB]at h;cases hb:aw m p
  ·rw[hb]at h;exact XO h
  ·rw[hb]at h;have:=ji hb;subst this;simp only[cond_true,ci]at h;cases hs:yB m st with
   |none=>rw[hs]at h;exact .inl h.symm
   |some n=>rw[hs]at h;exact .inr (by rw[<- h];rfl)
def rN {fr:Nat->Bool} {π:NM} {p q:Nat}:∀{os:List fw} {p0:Nat},yB p (wW fr π p0 os)=au q->yB p π=au q
 |[],p0,h=>by cases h
 |o::os,p0,h=>by
  simp only[wW]at h;cases ho:V2 o<;>rw[ho]at h
  ·cases hf:fr p0<;>rw[hf]at h
   ·simp only[cond_false]at h;split at h
    ·rename_i n hn;simp only[yB]at h;cases hb:aw p0 p
     ·rw[hb]at h;exact rN h
     ·rw[hb]at h;cases h;rw[<- ji hb];exact hn
    ·exact rN h
   ·exact rN h
  ·exact rN h
def MT {fr:Nat->Bool} {N:Nat} {π:NM} {p q:Nat}:∀{os:List fw} {p0:Nat},yB p (lR fr N π p0 os)=au q->q=N+p\/yB p (wW fr π p0 os)=au q
 |[],p0,h=>by cases h
 |o::os,p0,h=>by
  simp only[lR,wW]at h ⊢;cases ho:V2 o<;>rw[ho]at h
  ·cases hf:fr p0<;>rw[hf]at h
   ·simp only[cond_false]at h ⊢;split at h
    ·rename_i n hn;simp only[yB]at h ⊢;cases hb:aw p0 p
     ·rw[hb]at h;exact MT h
     ·rw[hb]at h;exact .inr h
    ·exact MT h
   ·simp only[cond_true,cond_false,yB]at h ⊢;cases hb:aw p0 p
    ·rw[hb]at h;exact MT h
    ·rw[hb]at h;cases h;left;rw[ji hb]
  ·simp only[cond_true,yB]at h ⊢;cases hb:aw p0 p
   ·rw[hb]at h;exact MT h
   ·rw[hb]at h;cases h;left;rw[ji hb]
def MZ (vz:NM) (dv:List (Nat×V)) (as:List Nat) (ρ:xE):xE:=λt=>
 match V3 t dv with
 |some v=>lT vz v
 |none=>bif rB t as then .top else ρ t
mutual
def DI (N:Nat):V->Bool
 | .nm n _=>ax n N
 | .el n _ _ _=>ax n N
 | .own n=>ax n N
 | .na n _ _=>ax n N
 | .mp n=>ax n N
 | .sub n _=>ax n N
 | .agg l=>Jb N l
 | .jm l=>Jb N l
 | .fn _ a b=>Jb N a && Jb N b
 | .An _ x=>DI N x
 |_=>bv
def Jb (N:Nat):List V->Bool
 |[]=>bv
 |v::l=>DI N v && Jb N l
end
def y1d (N:Nat):fw->Bool
 | .cells vs _=>Jb N vs
 | .vh _ _ _ _ _ _ _ (au m)=>ax m N
 |_=>bv
def Ot (N:Nat):List (Nat×fw)->Bool
 |[]=>bv
 |(n,o)::l=>ax n N && y1d N o && Ot N l
def kT (o6:Nat->Bool):List (Nat×fw)->List (Nat×fw)
 |[]=>[]
 |(n,o)::l=>bif o6 n then(n,o)::kT o6 l else kT o6 l
def Kv:List (Nat×fw)->St->Prop
 |[],_=>True
 |[(n,o)],s=>match s.CD n with
  |some o'=>o'=o
  |none=>False
 |(n,o)::l,s=>match s.CD n with
  |some o'=>o'=o/\Kv l (s.del n)
  |none=>False
def Oc (N:Nat) (vz:NM) (rows:List fw) (kept:List (Nat×fw)):St:=⟨kV vz 0 rows++kept,N+rows.length⟩
def ME (next:xE->St->Prop) (Q:Exit->xE->St->Prop):Exit->xE->St->Prop
 | .normal,ρ,s=>next ρ s
 |e,ρ,s=>Q e ρ s
def yQb (id:Nat) (Q:Exit->xE->St->Prop):Exit->xE->St->Prop
 | .exit Fg,ρ,s=>bif aw Fg id then Q .normal ρ s else Q (.exit Fg) ρ s
 |e,ρ,s=>Q e ρ s
def MH (x:ib) (i:x.ι) (π0:NM) (ρ:xE) (s:St) (K:NM->St->Prop):Prop:=
 DS (OW (x.dv i)) (Ob ρ (x.dv i)) π0 s λπ s=>HH 0 (x.rows i) π s λπ s=>bif eY (x.rows i).length π then K π s else False
def yPm (f:(Exit->xE->St->Prop)->xE->St->Prop) (Q:Exit->xE->St->Prop):Nat->xE->St->Prop
 |0,_,_=>False
 |n+1,ρ,s=>f (ME (yPm f Q n) Q) ρ s
def Of (n:Nat) (s:St):St:=
 match s.get n with
 |some (.sv _ m iF x)=>bif ay 1 m then⟨(n,(Ku (s.del n) n m (iF x)).1)::(Ku (s.del n) n m (iF x)).2.rows,(Ku (s.del n) n m (iF x)).2.nx⟩else s
 |_=>s
def TH:List Nat->St->St
 |[],s=>s
 |n::l,s=>TH l (Of n s)
def zWl {w:ab} {E:Ev} {s:St} (R:Rel k L E s w) (n:Nat):∃E',E.le E'/\Rel k L E' (Of n s) w:=by
 unfold Of;split
 ·rename_i T m iF x hg;cases hb:ay 1 m
  ·exact⟨E,Ev.le.refl _,R⟩
  ·obtain⟨E',h1,h2⟩:=(R.take hg).unfold (B1 hb);refine⟨E',h1,⟨h2.nx,?_⟩⟩;have:=h2.out;simpa using this
 ·exact⟨E,Ev.le.refl _,R⟩
def zEg {w:ab}:∀(l:List Nat) {E:Ev} {s:St} (R:Rel k L E s w),∃E',E.le E'/\Rel k L E' (TH l s) w
 |[],E,s,R=>⟨E,Ev.le.refl _,R⟩
 |n::l,E,s,R=>by
  obtain⟨E1,h1,h2⟩:=zWl R n;obtain⟨E2,h3,h4⟩:=zEg l h2;exact⟨E2,h1.trans h3,h4⟩
def z9u:List Nat->xE->St->St
 |[],_,s=>s
 |t::ts,ρ,s=>z9u ts ρ (match ρ t with
  | .nm n 0=>Of n s
  |_=>s)
def zWc {w:ab} {ρ:xE}:∀(l:List Nat) {E:Ev} {s:St} (R:Rel k L E s w),∃E',E.le E'/\Rel k L E' (z9u l ρ s) w
 |[],E,s,R=>⟨E,Ev.le.refl _,R⟩
 |t::ts,E,s,R=>by
  obtain⟨E1,h1,h2⟩:∃E',E.le E'/\Rel k L E' (match ρ t with
   | .nm n 0=>Of n s
   |_=>s) w:=by
   split
   ·exact zWl R _
   ·exact⟨E,Ev.le.refl _,R⟩
  obtain⟨E2,h3,h4⟩:=zWc ts h2;exact⟨E2,h1.trans h3,h4⟩
def y8y (t:Nat) (x:aa) (ρ:xE) (K:xE->Prop):Prop:=match ρ t with
 | .d (.v y)=>y=x/\K (λu=>bif aw u t then .d (.v x)else ρ u)
 |_=>False
def z9y:List (Nat×aa)->xE->(xE->Prop)->Prop
 |[],_,_=>False
 |(t,x)::l,ρ,K=>y8y t x ρ K\/z9y l ρ K
def nu (P:ae) (H:Br) (J:List (Nat×ib)):List ib->Code->(Exit->xE->St->Prop)->xE->St->Prop
 |_,.skip,Q,ρ,s=>Q .normal ρ s
 |an,.seq a b,Q,ρ,s=>match yZc (xBq a) J with
  |none=>nu P H J (an.take (nL a)) a (ME (λρ s=>nu P H J (an.drop (nL a)) b Q ρ s) Q) ρ s
  |some x=>match x.C1 with
   |t0::ts=>nu P H J (an.take (nL a)) a (ME (λρ s=>nu P H J (an.drop (nL a)) b Q ρ (z9u (t0::ts) ρ s)) Q) ρ s
   |[]=>match x.lits with
   |l0::ls=>nu P H J (an.take (nL a)) a (ME (λρ s=>z9y (l0::ls) ρ λρ=>nu P H J (an.drop (nL a)) b Q ρ s) Q) ρ s
   |[]=>∃i0,MH x.qh i0 [] ρ s λπ s1=>∃(I:x.ι->Prop),(bif Ot s1.nx (kT x.o6 s1.rows)then
    nu P H J (an.take (nL a)) a (ME (λρ' s'=>∃i',MH x i' (wW x.fr π 0 (x.nf i0)) ρ' s' λ_ s2=>I i'/\Kv (kT x.o6 s1.rows) s2) Q)
     (MZ (Hm s1.nx (wW x.fr π 0 (x.nf i0)) (x.nf i0).length) (x.qo i0) [] ρ) (Oc s1.nx (Hm s1.nx (wW x.fr π 0 (x.nf i0)) (x.nf i0).length) (x.nf i0) (kT x.o6 s1.rows))/\
    ∀i,I i->nu P H J (an.drop (nL a)) b Q (MZ (Hm s1.nx (wW x.fr π 0 (x.nf i0)) (x.rows i).length) (x.dv i) (vj a) ρ) (Oc s1.nx (Hm s1.nx (wW x.fr π 0 (x.nf i0)) (x.rows i).length) (x.rows i) (kT x.o6 s1.rows))else False)
 |an,.cond c a b,Q,ρ,s=>
  match mn ρ c with
  | .d (.v (.bool t))=>du t (nu P H J (an.take (nL a)) a Q ρ s) (nu P H J (an.drop (nL a)) b Q ρ s)
  |_=>False
 |an,.block id a,Q,ρ,s=>nu P H J an a (yQb id Q) ρ s
 |an,.loop a,Q,ρ,s=>
  match an with
  |[]=>False
  |x::rest=>bif ax 0 x.un then yPm (λQ ρ s=>nu P H J rest a Q ρ s) Q x.un ρ s else ∃i0,MH x i0 [] ρ s λπ s1=>∃(I:x.ι->Prop) (μ:x.ι->Nat),I i0/\(bif Ot s1.nx (kT x.o6 s1.rows)then
    ∀i,I i->nu P H J rest a (ME (λρ' s'=>∃i',MH x i' (wW x.fr π 0 (x.rows i0)) ρ' s' λ_ s2=>I i'/\μ i'<μ i/\Kv (kT x.o6 s1.rows) s2) Q)
     (MZ (lR x.fr s1.nx π 0 (x.rows i0)) (x.dv i) (vj a) ρ) (Oc s1.nx (lR x.fr s1.nx π 0 (x.rows i0)) (x.rows i) (kT x.o6 s1.rows))else False)
 |_,.exit id,Q,ρ,s=>Q (.exit id) ρ s
 |_,.ret,Q,ρ,s=>Q .ret ρ s
 |_,.region _ ops d,Q,ρ,s=>bif d then EZ P H ops.toList (gZ ops.toList []) ops.toList.length (cp ops.toList.length cd) [] ρ s (Q .normal)
    else O0 P H ops.toList ops.toList ρ s (Q .normal)
 |_,_,_,_,_=>False
def V9 (k:Ko) (L:List HP) (n:Nat) (A:Nat->Bool) (e0:Env) (E0:Ev) (Q:Exit->xE->St->Prop):Exit->Act->ab->Prop:=λe a w=>
 Good n A e0 a/\∃E ρS s,E0.le E/\Rel k L E s w/\mf E ρS (yP a)/\Q e ρS s
mutual
theorem VR.low {F:PH} {gu oS:List Hd} {N:Nat} (h:∀n,n<N->∀hd,gu[n]? =au hd->oS[n]? =au hd):∀{v:V} {y:aa},DI N v=bv->VR ⟨F,gu⟩ v y->VR ⟨F,oS⟩ v y
 | .top,y,hl,e=>by simp only[VR]
 | .d d,y,hl,e=>by simpa only[VR]using e
 | .nm n o,y,hl,e=>by
   simp only[DI,zg]at hl;simp only[VR]at e ⊢;obtain⟨b,oo,l,h1,h2⟩:=e;exact⟨b,oo,l,h n hl _ h1,h2⟩
 | .el n sz i f,y,hl,e=>by
   simp only[DI,zg]at hl;simp only[VR]at e ⊢;obtain⟨b,oo,m,c,l,h1,h2⟩:=e;exact⟨b,oo,m,c,l,h n hl _ h1,h2⟩
 | .re sz fh i f,y,hl,e=>by simpa only[VR]using e
 | .na n o i,y,hl,e=>by
   simp only[DI,zg]at hl;simp only[VR]at e ⊢;obtain⟨b,oo,l,h1,h2⟩:=e;exact⟨b,oo,l,h n hl _ h1,h2⟩
 | .own n,y,hl,e=>by
   simp only[DI,zg]at hl;simp only[VR]at e ⊢;obtain⟨l,h1,h2⟩:=e;exact⟨l,h n hl _ h1,h2⟩
 | .mp n,y,hl,e=>by
   simp only[DI,zg]at hl;simp only[VR]at e ⊢;obtain⟨b,l,h1,h2⟩:=e;exact⟨b,l,h n hl _ h1,h2⟩
 | .sub n i,y,hl,e=>by
   simp only[DI,zg]at hl;simp only[VR]at e ⊢;obtain⟨hd,l,b,oo,h1,h2⟩:=e;exact⟨hd,l,b,oo,h n hl _ h1,h2⟩
 | .agg l,y,hl,e=>by
   simp only[DI]at hl;simp only[VR]at e ⊢;obtain⟨ys,h1,h2⟩:=e;exact⟨ys,h1,im.low h hl h2⟩
 | .jm l,y,hl,e=>by
   simp only[DI]at hl;simp only[VR]at e ⊢;obtain⟨ys,h1,h2⟩:=e;exact⟨ys,h1,im.low h hl h2⟩
 | .fn f a b,y,hl,e=>by
   simp only[DI,ld]at hl;simp only[VR]at e ⊢;obtain⟨as,bs,h1,h2,h3⟩:=e;exact⟨as,bs,h1,im.low h hl.1 h2,im.low h hl.2 h3⟩
 | .An t x,y,hl,e=>by
   simp only[DI]at hl;simp only[VR]at e ⊢;obtain⟨z,h1,h2⟩:=e;exact⟨z,h1,VR.low h hl h2⟩
theorem im.low {F:PH} {gu oS:List Hd} {N:Nat} (h:∀n,n<N->∀hd,gu[n]? =au hd->oS[n]? =au hd):∀{vs:List V} {l:List aa},Jb N vs=bv->im ⟨F,gu⟩ vs l->im ⟨F,oS⟩ vs l
 |[],l,hl,e=>by simpa only[im]using e
 |v::vs,l,hl,e=>by
  simp only[Jb,ld]at hl;simp only[im]at e ⊢;obtain⟨x,xs,h1,h2,h3⟩:=e;exact⟨x,xs,h1,VR.low h hl.1 h2,im.low h hl.2 h3⟩
end
def gg.low {F:PH} {gu oS:List Hd} {N:Nat} (h:∀n,n<N->∀hd,gu[n]? =au hd->oS[n]? =au hd) {o:fw} (hl:y1d N o=bv) {hd:Hd} {x:PH} (e:gg F o gu hd x):gg F o oS hd x:=by
 cases o<;>first|exact e.gu rfl|skip
 ·simp only[gg]at e ⊢;obtain⟨b,l,h1,h2,h3⟩:=e;exact⟨b,l,h1,h2.low h hl,h3⟩
 ·rename_i q t sz fh i f b m;simp only[gg]at e ⊢;obtain⟨a,k,ys,xs,h1,h2,h3,h4,h5⟩:=e;refine⟨a,k,ys,xs,h1,h2,h3,?_,h5⟩;cases m with
  |none=>exact h4
  |some m=>
   simp only[y1d,zg]at hl;obtain⟨y,l,e1,e2⟩:=h4;exact⟨y,l,h m hl _ e1,e2⟩
def zXt {E:Ev} {ρS:xE} {ρ:Env} (he:mf E ρS ρ):∀l:List (Nat×V),im E (Ob ρS l) (l.map λp=>ρ p.1)
 |[]=>by simp[Ob,im]
 |(t,v)::l=>by simp only[Ob,iT,im];exact⟨_,_,rfl,he t,zXt he l⟩
def z4s {F:PH} {tl:List Hd} {ρ:Env}:∀{l:List (Nat×V)},im ⟨F,tl⟩ (OW l) (l.map λp=>ρ p.1)->∀{t:Nat} {v:V},V3 t l=au v->VR ⟨F,tl⟩ v (ρ t)
 |[],_,t,v,h=>by cases h
 |(u,x)::l,hv,t,v,h=>by
  simp only[OW,iT,im]at hv;obtain⟨y,ys,e,h1,h2⟩:=hv;cases e;simp only[V3]at h;cases hb:aw u t
  ·rw[hb]at h;exact z4s h2 h
  ·rw[hb]at h;cases h;rw[<- ji hb];exact h1
def Xl {w:ab} {E3 E4:Ev} (hF:E3.F=E4.F) {N:Nat} (CA:∀n,n<N->∀hd,E3.gu[n]? =au hd->E4.gu[n]? =au hd):∀{kept:List (Nat×fw)} {s:St} {M:List HP},Kv kept s->Ot N kept=bv->
 Hp k w (s.rows.map (iu E3)++M)->Hp k w (kept.map (iu E4)++M)
 |[],s,M,_,_,H=>by
  have:∀(l:List (Nat×fw)),Hp k w (l.map (iu E3)++M)->Hp k w M:=by
   intro l
   induction l with
   |nil=>intro H;exact H
   |cons a l ih=>intro H;exact ih H.drop
  exact this _ H
 |(n,o)::kept,s,M,hk,hl,H=>by
  simp only[Ot,ld,zg]at hl;have kj:s.get n=au o/\Kv kept (s.del n):=by
   cases kept with
   |nil=>
    simp only[Kv]at hk;split at hk<;>first|exact hk.elim|skip
    rename_i o' ho;subst hk;exact⟨(UP ho).1,trivial⟩
   |cons a l=>
    simp only[Kv]at hk;split at hk<;>first|exact hk.elim|skip
    rename_i o' ho;obtain⟨rfl,hk⟩:=hk;exact⟨(UP ho).1,hk⟩
  have H1:Hp k w (iu E3 (n,o)::((s.del n).rows.map (iu E3)++M)):=by
   refine H.perm ?_;have:=((uG kj.1).1.map (iu E3)).append_right M;simpa[St.del]using this
  have H2:Hp k w ((s.del n).rows.map (iu E3)++(iu E3 (n,o)::M)):=H1.perm ni.symm;have H3:=Xl hF CA kj.2 hl.2 H2;refine(H3.perm ni).imp λx hx=> ?_
  rcases hx with⟨e,e2⟩|⟨hd,h1,h2⟩
  ·exact .inl ⟨e,e2⟩
  ·exact .inr ⟨hd,CA n hl.1.1 _ h1,hF▸h2.low CA hl.1.2⟩
def Uk {w:ab} {x:ib} {i:x.ι} {π0:NM} {ρS:xE} {ρ:Env} {s:St} {K:NM->St->Prop} {E:Ev} (h:MH x i π0 ρS s K) (R:Rel k L E s w) (he:mf E ρS ρ) (PI:AI π0 E.gu):
 ∃E3 s3 π3,E.le E3/\K π3 s3/\Ext π0 π3/\AI π3 E3.gu/\E3.gu.length=s3.nx/\∀(E1:Ev) (kept:List (Nat×fw)) (N:Nat) (ρ0:xE) (as:List Nat) (vz:NM),(∀p q,yB p vz=au q->q=N+p\/(yB p π3=au q/\q<N))->E1.gu.length=N->yj E1.F E3.F->E1.gu<+:E3.gu->(∀E4:Ev,E3.F=E4.F->E1.le E4->(∀n,n<N->∀hd,E3.gu[n]? =au hd->E4.gu[n]? =au hd)->∀M,Hp k w (s3.rows.map (iu E3)++M)->Hp k w (kept.map (iu E4)++M))->(∀t,rB t as=cd->VR E1 (ρ0 t) (ρ t))->
  ∃E4,E1.le E4/\Rel k L E4 (Oc N vz (x.rows i) kept) w/\mf E4 (MZ vz (x.dv i) as ρ0) ρ:=by
 unfold MH at h;obtain⟨E2,π2,s2,q1,q2,q3⟩:=IX h R PI (zXt he _);obtain⟨E3,π3,s3,r1,r2⟩:=Vr q3 q1.rel q1.wf;obtain⟨iq,hk⟩:=zL r2;have iq:=mV iq;refine⟨E3,s3,π3,q1.le.trans r1.le,hk,q1.ext.trans r1.ext,r1.wf,r1.rel.nx,?_⟩;intro E1 kept N ρ0 as vz hre hN hF Fz BL Ea
 let m:=(x.rows i).length
 let tl:List Hd:=(ba m).map λp=>(E3.gu[(yB p π3).getD 0]?).getD (af,[])
 have uh:Loc π3 E3.gu tl:=by
  intro p n hp;obtain⟨hd,h'⟩:=r1.wf p n hp;refine⟨hd,h',?_⟩;show((ba m).map _)[p]? =_;rw[uz,KZ (iq p n hp)];simp only[ym,hp,zj,h']
 have HJ:tl.length=m:=by simp[tl]
 let E4:Ev:=⟨E3.F,E1.gu++tl⟩
 have sy:E1.le E4:=⟨hF,Jk _ _⟩
 have Kb:∀n,n<N->∀hd,E3.gu[n]? =au hd->E4.gu[n]? =au hd:=by
  intro n hn hd e;have h1:E1.gu[n]? =au hd:=by
   rw[xl (by omega)];have:E3.gu[n]? =au (E1.gu[n]'(by omega)):=TZ Fz (xl (by omega));rw[this]at e;exact e
  exact sy.get h1
 have AQ:∀p n hd,yB p vz=au n->tl[p]? =au hd->E4.gu[n]? =au hd:=by
  intro p n hd hp ht;rcases hre p n hp with rfl|⟨h1,h2⟩
  ·show(E1.gu++tl)[N+p]? =au hd;rw[<- hN,CY (by omega),show E1.gu.length+p-E1.gu.length=p by omega];exact ht
  ·obtain⟨oY,e1,e2⟩:=uh p n h1;rw[ht]at e2;cases e2;exact Kb n h2 _ e1
 refine⟨E4,sy,⟨by show(E1.gu++tl).length=N+m;rw[iQ,HJ,hN],?_⟩,?_⟩
 ·have H:=r1.rel.AX;have H1:=vD (g:=iu ⟨E3.F,tl⟩) (λr y hy=>by
   rcases hy with⟨e1,e2⟩|⟨n,h1,h2⟩
   ·exact .inl ⟨e1,e2⟩
   ·right;obtain⟨hd,h3,h4⟩:=h2 E3 π3 (Ev.le.refl _) (Ext.refl _) tl uh;obtain⟨oY,h5,h6⟩:=uh _ _ h1;rw[h3]at h5;cases h5;exact⟨hd,h6,h4⟩) H
  have H2:=pO (E:=⟨E3.F,tl⟩) (E2:=E4) rfl AQ H1;have H3:Hp k w (s3.rows.map (iu E3)++((kV vz 0 (x.rows i)).map (iu E4)++fz E3.F::L)):=by
   refine H2.perm ?_;rw[<- km,<- km];exact Bh.append_right _
  have H4:=BL E4 rfl sy Kb _ H3;refine H4.perm ?_;show(kept.map (iu E4)++((kV vz 0 (x.rows i)).map (iu E4)++fz E3.F::L)).Perm ((kV vz 0 (x.rows i)++kept).map (iu E4)++fz E4.F::L);rw[<- km,jz];exact Bh.append_right _
 ·intro t;have yq:im ⟨E3.F,tl⟩ (OW (x.dv i)) ((x.dv i).map λp=>ρ p.1):=q2 E3 π3 r1.le r1.ext tl uh;unfold MZ;split
  ·rename_i v hv;exact(z4s yq hv).vz AQ
  ·cases hb:rB t as
   ·exact(Ea t hb).mono sy
   ·simp only[cond_true,VR]
def Vk {w:ab} {E:Ev} {o6:Nat->Bool}:∀{l:List (Nat×fw)} {M:List HP},Hp k w (l.map (iu E)++M)->Hp k w ((kT o6 l).map (iu E)++M)
 |[],M,H=>H
 |(n,o)::l,M,H=>by
  simp only[kT];cases o6 n
  ·exact Vk H.drop
  ·have H1:Hp k w (l.map (iu E)++(iu E (n,o)::M)):=H.perm ni.symm;exact(Vk H1).perm ni
def zVn {E:Ev} {env:Env} {K:xE->Prop}:∀{l:List (Nat×aa)} {ρ:xE},z9y l ρ K->mf E ρ env->∃ρ',mf E ρ' env/\K ρ'
 |[],ρ,h,_=>h.elim
 |(t,x)::l,ρ,h,he=>by
  rcases h with h|h
  ·unfold y8y at h;split at h<;>first|exact h.elim|skip
   rename_i y hy;obtain⟨rfl,hk⟩:=h;refine⟨_,λu=> ?_,hk⟩;have:=he u;cases hb:aw u t
   ·exact this
   ·rw[ji hb]at this ⊢;rw[hy]at this;exact this
  ·exact zVn h he
def z4y {H:Br} (hH:Ia P H) (hm:P.follows .mixedOrders=bv) {J:List (Nat×ib)} {n:Nat}:∀(c:Code) (an:List ib) (Q:Exit->xE->St->Prop) (A:Nat->Bool) (e0:Env) (E0 E:Ev) (a:Act) (w:ab) (ρS:xE) (s:St),
 yi n c=bv->(∀t∈vj c,A t=bv)->Good n A e0 a->E0.le E->Rel k L E s w->mf E ρS (yP a)->nu P H J an c Q ρS s->c.wp P (V9 k L n A e0 E0 Q) a w:=by
 intro c
 induction c with
 |skip=>intro an Q A e0 E0 E a w ρS s _ _ hg hle R he h;exact wp_skip ⟨hg,E,ρS,s,hle,R,he,h⟩
 |region id ops d=>
  intro an Q A e0 E0 E a w ρS s hc hA hg hle R he h;simp only[yi,ld]at hc;have za:=z5y (A:=A) hc.1 hA;cases d
  ·refine wp_region_list ?_;exact zNq (Q:=V9 k L n A e0 E0 Q) (E0:=E0) (K:=Q .normal) hH (λa w E ρS s hg hle R he h=>⟨hg,E,ρS,s,hle,R,he,h⟩) ops.toList a w E ρS s za hg hle R he h
  ·refine wp_region_any hm ?_;have pg:tV ops.toList (gZ ops.toList [])=bv:=hc.2;have tc:mf E ρS (yP a):=he;have R':Rel k L E s w.drew:=⟨R.nx,R.hp.drew⟩
   refine fQ (Q:=λa w=>V9 k L n A e0 E0 Q .normal a w) (λ_ _ h=>h) ops.size _ _ _ (M:=[]) (bf:=gZ ops.toList []) ?_;have A1:tH ops.toList (qQ (cp ops.toList.length cd)):=by
    intro i o ho hi;exfalso;unfold qQ at hi;simp[Ck]at hi;rw[Wc]at hi;split at hi<;>simp at hi
   have:=z4v (P:=P) (K:=Q .normal) (E0:=E0) (Q:=λa w=>V9 k L n A e0 E0 Q .normal a w) hH pg za (λa w E ρS s hg hle R he h=>⟨hg,E,ρS,s,hle,R,he,h⟩) ops.toList.length _ [] [] a _ E ρS s A1 (λm hm=>by cases hm) .nil hg hle R' tc h;simpa using this
 |seq x y Ez Ey=>
  intro an Q A e0 E0 E a w ρS s hc hA hg hle R he h;simp only[yi,ld,vj,qq]at hc hA;simp only[nu]at h;split at h
  ·refine wp_seq (ak (Ez _ _ A e0 E0 E a w ρS s hc.1 (λt ht=>hA t (.inl ht)) hg hle R he h) ?_);rintro e a' w' ⟨pw,E',ρ',s',jt,R',tc,h'⟩;cases e<;>first|exact Ey _ _ A e0 E0 E' a' w' ρ' s' hc.2 (λt ht=>hA t (.inr ht)) pw jt R' tc h'|exact⟨pw,E',ρ',s',jt,R',tc,h'⟩
  rename_i jn hjn;split at h
  ·rename_i t0 ts hts;refine wp_seq (ak (Ez _ _ A e0 E0 E a w ρS s hc.1 (λt ht=>hA t (.inl ht)) hg hle R he h) ?_);rintro e a' w' ⟨pw,E',ρ',s',jt,R',tc,h'⟩;cases e<;>first|exact⟨pw,E',ρ',s',jt,R',tc,h'⟩|skip
   obtain⟨E2,uw,R2⟩:=zWc (ρ:=ρ') (t0::ts) R';exact Ey _ _ A e0 E0 E2 a' w' ρ' _ hc.2 (λt ht=>hA t (.inr ht)) pw (jt.trans uw) R2 (tc.mono uw) h'
  split at h
  ·rename_i l0 ls Fp;refine wp_seq (ak (Ez _ _ A e0 E0 E a w ρS s hc.1 (λt ht=>hA t (.inl ht)) hg hle R he h) ?_);rintro e a' w' ⟨pw,E',ρ',s',jt,R',tc,h'⟩;cases e<;>first|exact⟨pw,E',ρ',s',jt,R',tc,h'⟩|skip
   obtain⟨ρ2,Ri,h2⟩:=zVn h' tc;exact Ey _ _ A e0 E0 E' a' w' ρ2 s' hc.2 (λt ht=>hA t (.inr ht)) pw jt R' Ri h2
  ·obtain⟨i0,h⟩:=h;obtain⟨E1,s1,π1,yb,⟨I,ux⟩,_,Fy,JA,P3⟩:=Uk (x:=jn.qh) h R he (λp n e=>by cases e);obtain⟨CA,S',BJ⟩:=zL ux;have Cz:∀p q,yB p (wW jn.fr π1 0 (jn.nf i0))=au q->yB p π1=au q/\q<s1.nx:=λp q e=>by
    have h1:=rN e;obtain⟨hd,h2⟩:=Fy p q h1;exact⟨h1,by rw[<- JA];exact(ju.1 h2).1⟩
   have Dl:∀t,rB t []=cd->VR E1 (ρS t) (yP a t):=λt _=>(he t).mono yb
   obtain⟨E2,uw,R2,Ri⟩:=P3 E1 (kT jn.o6 s1.rows) s1.nx ρS [] (Hm s1.nx (wW jn.fr π1 0 (jn.nf i0)) (jn.nf i0).length) (λp q e=>(XO e).imp_right (Cz p q)) JA (yj.refl _) (Jg _) (λE4 _ sy _ M H=>vD (λr y=>iu.mono sy r) (Vk H)) Dl;have Re:Good n (λt=>A t && rB t (vj x)) (yP a) a:=⟨hg.size,hg.defers,λ_ _=>rfl⟩
   refine wp_seq (ak (Ez _ _ (λt=>A t && rB t (vj x)) (yP a) E2 E2 a w _ _ hc.1 (λt ht=>by rw[hA t (.inl ht),tr.2 ht];rfl) Re (Ev.le.refl _) R2 Ri S') ?_);rintro e a2 w2 ⟨AF,E3,ρ3,s3,AT,R3,Rh,h2⟩;have JF:Good n A e0 a2:=⟨AF.size,AF.defers,λt ht=>by rw[AF.same t (by simp[ht]),hg.same t ht]⟩
   have FI:E0.le E3:=hle.trans (yb.trans (uw.trans AT));cases e<;>first|exact⟨JF,E3,ρ3,s3,FI,R3,Rh,h2⟩|skip
   obtain⟨i',h2⟩:=h2;have Wy:AI (wW jn.fr π1 0 (jn.nf i0)) E3.gu:=λp q e=>by
    obtain⟨hd,h2⟩:=Fy p q (Cz p q e).1;exact⟨hd,(uw.trans AT).get h2⟩
   obtain⟨E4,s4,π4,sy,⟨FL,BL⟩,FO,_,hn4,LM⟩:=Uk h2 R3 Rh Wy;have Di:∀t,rB t (vj x)=cd->VR E1 (ρS t) (yP a2 t):=λt ht=>by rw[AF.same t (by simp[ht])];exact(he t).mono yb
   obtain⟨E5,LN,R5,he5⟩:=LM E1 (kT jn.o6 s1.rows) s1.nx ρS (vj x) (Hm s1.nx (wW jn.fr π1 0 (jn.nf i0)) (jn.rows i').length) (λp q e=>(XO e).imp_right λh=>⟨FO p q h,(Cz p q h).2⟩) JA (uw.trans (AT.trans sy)).1 (uw.trans (AT.trans sy)).2
    (λE6 hF _ hl M H=>Xl (E3:=E4) (E4:=E6) hF hl BL CA H) Di
   exact Ey _ _ A e0 E0 E5 a2 w2 _ _ hc.2 (λt ht=>hA t (.inr ht)) JF (hle.trans (yb.trans LN)) R5 he5 (BJ i' FL)
 |cond c x y Ez Ey=>
  intro an Q A e0 E0 E a w ρS s hc hA hg hle R he h;simp only[yi,ld,vj,qq]at hc hA;simp only[nu]at h;split at h<;>first|exact h.elim|skip
  rename_i t ht;have hv:=he.ev c;rw[ht]at hv;simp only[VR,DR]at hv;have G7:=hv.1;rw[wV]at G7;refine wp_cond_split G7 (λe=> ?_) (λe=> ?_)
  ·subst e;exact Ez _ _ A e0 E0 E a w ρS s hc.1 (λt ht=>hA t (.inl ht)) hg hle R he h
  ·subst e;exact Ey _ _ A e0 E0 E a w ρS s hc.2 (λt ht=>hA t (.inr ht)) hg hle R he h
 |block id x ih=>
  intro an Q A e0 E0 E a w ρS s hc hA hg hle R he h;refine wp_block (ak (ih an _ A e0 E0 E a w ρS s hc hA hg hle R he h) ?_);rintro e a' w' ⟨pw,E',ρ',s',jt,R',tc,h'⟩;cases e<;>first|exact⟨pw,E',ρ',s',jt,R',tc,h'⟩|skip
  rename_i Fg;simp only[Exit.inBlock];simp only[yQb]at h';split
  ·rename_i heq;subst heq;rw[Nat.beq_refl]at h';exact⟨pw,E',ρ',s',jt,R',tc,h'⟩
  ·rename_i jf;have hb:aw Fg id=cd:=by
    cases hb:aw Fg id with
    |false=>rfl
    |true=>exact absurd (ji hb) jf
   rw[hb]at h';exact⟨pw,E',ρ',s',jt,R',tc,h'⟩
 |loop x ih=>
  intro an Q A e0 E0 E a w ρS s hc hA hg hle R he h;cases an with
  |nil=>exact h.elim
  |cons an rest=>
   have hh:=cE h;clear h;rcases hh with⟨_,h⟩|⟨_,h⟩
   ·refine wp_loop_rounds an.un ?_;revert h;generalize an.un=m;intro h
    induction m generalizing a w E ρS s with
    |zero=>exact h.elim
    |succ m ihm=>
     rw[rounds_succ];simp only[yPm]at h;refine ak (ih rest _ A e0 E0 E a w ρS s hc hA hg hle R he h) ?_;rintro e a' w' ⟨pw,E',ρ',s',jt,R',tc,h'⟩;cases e<;>first|exact ihm E' a' w' ρ' s' pw jt R' tc h'|exact⟨pw,E',ρ',s',jt,R',tc,h'⟩
   obtain⟨i0,h⟩:=h;obtain⟨E1,s1,π1,yb,⟨I,μ,S4,ux⟩,_,Fy,JA,P3⟩:=Uk h R he (λp n e=>by cases e);obtain⟨CA,ux⟩:=zL ux;have Cz:∀p q,yB p (wW an.fr π1 0 (an.rows i0))=au q->yB p π1=au q/\q<s1.nx:=λp q e=>by
    have h1:=rN e;obtain⟨hd,h2⟩:=Fy p q h1;exact⟨h1,by rw[<- JA];exact(ju.1 h2).1⟩
   have Dl:∀t,rB t (vj x)=cd->VR E1 (ρS t) (yP a t):=λt _=>(he t).mono yb
   obtain⟨E2,uw,R2,Ri⟩:=P3 E1 (kT an.o6 s1.rows) s1.nx ρS (vj x) (lR an.fr s1.nx π1 0 (an.rows i0)) (λp q e=>(MT e).imp_right (Cz p q)) JA (yj.refl _) (Jg _) (λE4 _ sy _ M H=>vD (λr y=>iu.mono sy r) (Vk H)) Dl;refine wp_loop_ghost (λm a' w'=>Good n A e0 a'/\(∀t,rB t (vj x)=cd->yP a' t=yP a t)/\∃i E',E1.le E'/\I i/\Rel k L E' (Oc s1.nx (lR an.fr s1.nx π1 0 (an.rows i0)) (an.rows i) (kT an.o6 s1.rows)) w'/\
    mf E' (MZ (lR an.fr s1.nx π1 0 (an.rows i0)) (an.dv i) (vj x) ρS) (yP a')/\μ i=m) (μ i0) ⟨hg,λ_ _=>rfl,i0,E2,uw,S4,R2,Ri,rfl⟩ ?_
   rintro m a' w' ⟨pw,Ea,i,E',jt,hinv,R',tc,rfl⟩;have h1:=ux i hinv;have Re:Good n (λt=>A t && rB t (vj x)) (yP a') a':=⟨pw.size,pw.defers,λ_ _=>rfl⟩
   refine ak (ih rest _ (λt=>A t && rB t (vj x)) (yP a') E' E' a' w' _ _ hc (λt ht=>by rw[hA t ht,tr.2 ht];rfl) Re (Ev.le.refl _) R' tc h1) ?_;rintro e a2 w2 ⟨AF,E3,ρ3,s3,AT,R3,Rh,h2⟩;have JF:Good n A e0 a2:=⟨AF.size,AF.defers,λt ht=>by rw[AF.same t (by simp[ht]),pw.same t ht]⟩
   have FI:E0.le E3:=hle.trans (yb.trans (jt.trans AT));cases e<;>first|exact⟨JF,E3,ρ3,s3,FI,R3,Rh,h2⟩|skip
   obtain⟨i',h2⟩:=h2;have Wy:AI (wW an.fr π1 0 (an.rows i0)) E3.gu:=λp q e=>by
    obtain⟨hd,h2⟩:=Fy p q (Cz p q e).1;exact⟨hd,(jt.trans AT).get h2⟩
   obtain⟨E4,s4,π4,sy,⟨FL,hμ,BL⟩,FO,_,hn4,LM⟩:=Uk h2 R3 Rh Wy;have Di:∀t,rB t (vj x)=cd->yP a2 t=yP a t:=λt ht=>by rw[AF.same t (by simp[ht]),Ea t ht]
   obtain⟨E5,LN,R5,he5⟩:=LM E1 (kT an.o6 s1.rows) s1.nx ρS (vj x) (lR an.fr s1.nx π1 0 (an.rows i0)) (λp q e=>(MT e).imp_right λh=>⟨FO p q h,(Cz p q h).2⟩) JA (jt.trans (AT.trans sy)).1 (jt.trans (AT.trans sy)).2
    (λE6 hF _ hl M H=>Xl (E3:=E4) (E4:=E6) hF hl BL CA H) (λt ht=>by rw[Di t ht];exact Dl t ht)
   exact⟨_,hμ,JF,Di,i',E5,LN,FL,R5,he5,rfl⟩
 |exit id=>intro an Q A e0 E0 E a w ρS s _ _ hg hle R he h;exact wp_exit ⟨hg,E,ρS,s,hle,R,he,h⟩
 |ret=>intro an Q A e0 E0 E a w ρS s _ _ hg hle R he h;exact wp_ret ⟨hg,E,ρS,s,hle,R,he,h⟩
 |rangeFunc f ps x y Ez Ey=>intro an Q A e0 E0 E a w ρS s _ _ hg hle R he h;exact h.elim
 |scope x ih=>intro an Q A e0 E0 E a w ρS s _ _ hg hle R he h;exact h.elim
 |label l=>intro an Q A e0 E0 E a w ρS s _ _ hg hle R he h;exact h.elim
 |goto l=>intro an Q A e0 E0 E a w ρS s _ _ hg hle R he h;exact h.elim
 |refuse t=>intro an Q A e0 E0 E a w ρS s _ _ hg hle R he h;exact h.elim
variable {P:ae} {k:Ko} {L:List HP}
def Hj (P:ae) (ρ:xE) (s:St):List ResultVar->Option (List V)
 |[]=>au []
 | .tmp t::rs=>match Hj P ρ s rs with
   |some vs=>au (ρ t::vs)
   |none=>av
 | .cell a t::rs=>match ρ a with
   | .nm n off=>match s.get n with
     |some (.cells vs _)=>match V8 P t vs off with
      |some v=>match Hj P ρ s rs with
       |some us=>au (v::us)
       |none=>av
      |none=>av
     |_=>av
   |_=>av
def MC:List V->V
 |[v]=>v
 |vs=> .jm vs
def zFy {E:Ev} {s:St} {w:ab} (R:Rel k L E s w) {ρS:xE} {a:Act} (he:mf E ρS (yP a)):∀{rs:List ResultVar} {vs:List V},Hj P ρS s rs=au vs->∃ys,(rs.mapM (Ht a.tmps)).run P w= .ok ys w/\im E vs ys
 |[],vs,h=>by
  simp only[Hj,ci]at h;subst h;exact⟨[],rfl,im.nil⟩
 | .tmp t::rs,vs,h=>by
   simp only[Hj]at h;split at h<;>first|(cases h;done)|skip
   rename_i us PN;cases h;obtain⟨ys,h1,h2⟩:=zFy R he PN;refine⟨yP a t::ys,?_,by simp only[im];exact⟨_,_,rfl,he t,h2⟩⟩;simp only[bg,Ht,bind,pure,run_bind,cu,cr]at h1 ⊢;rw[h1]
 | .cell c t::rs,vs,h=>by
   simp only[Hj]at h;split at h<;>first|(cases h;done)|skip
   rename_i n off hc;split at h<;>first|(cases h;done)|skip
   rename_i cs T hg;split at h<;>first|(cases h;done)|skip
   rename_i v hp;split at h<;>first|(cases h;done)|skip
   rename_i us PN;cases h;obtain⟨ys,h1,h2⟩:=zFy R he PN;have hv:=he c;rw[hc]at hv;simp only[VR]at hv;obtain⟨b,oo,l,e1,e2⟩:=hv;obtain⟨b',l',sub,q1,q2,q3⟩:=R.cells hg;rw[e1]at q1;cases q1;obtain⟨y,hy,hh⟩:=zNk q2 q3 hp;refine⟨y::ys,?_,by simp only[im];exact⟨_,_,rfl,hy,h2⟩⟩;rw[oC]at e2;have e2':a.tmps.getD c af= .pointer (au ⟨b,off,av⟩):=e2;unfold pZ at hh;simp only[bg,Ht,bind,pure,run_bind,cu,cr,e2',asAddr,hh]at h1 ⊢;rw[h1]
def WY (P:ae) (fn:Func) (K:V->St->Prop):Exit->xE->St->Prop
 | .normal,ρ,s=>iL (Hj P ρ s fn.results.toList) λvs=>K (MC vs) s
 | .ret,ρ,s=>iL (Hj P ρ s fn.results.toList) λvs=>K (MC vs) s
 |_,_,_=>False
def Pd:List V->Nat->V
 |[],_=> .top
 |v::_,0=>v
 |_::l,n+1=>Pd l n
def Og (args:List V):xE:=λt=>Pd args t
def yEf {E:Ev}:∀{vs:List V} {ys:List aa},im E vs ys->∀t,VR E (Pd vs t) (ys.getD t af)
 |[],ys,h,t=>by simp only[Pd,VR]
 |v::vs,ys,h,t=>by
  simp only[im]at h;obtain⟨x,xs,rfl,h1,h2⟩:=h;cases t with
  |zero=>exact h1
  |succ t=>simpa[Pd]using yEf h2 t
def nO {f:ap} {args:Array aa} {w:ab} {K:aa->ab->Prop} (hb:gF P f=bv) (h:Calls P f args w λe w'=>∃v,e= .returned v/\K v w'):ob P (ag f args) w K:=by
 unfold gF at hb;split at hb
 ·rename_i fn HV;simp only[ld,HA,Bool.not_eq_eq_eq_not,Bool.not_true]at hb;unfold ob;have:(ag f args).run P w= .ok (.enter f args) w:=by
   simp only[ag,bind,pure,run_bind,program,cr,cu,HV,hb.1,hb.2,nr,if_false]
  rw[this];exact h
 ·cases hb
def zAp {H:Br} (hH:Ia P H) (hm:P.follows .mixedOrders=bv) {f:ap} {fn:Func} {c:Code} (hf:P.funcs[f]? =au fn) (hb:fn.body=au c) (pg:yi fn.ntmps c=bv) (J:List (Nat×ib)) (an:List ib)
 {args:List V} (oW:ay args.length fn.ntmps=bv) {K:V->St->Prop} {s:St} (h:nu P H J an c (WY P fn K) (Og args) s) {E:Ev} {w:ab} {ys:List aa} (R:Rel k L E s w) (hv:im E args ys):
 Calls P f ys.toArray w λe w'=>∃v,e= .returned v/\pz k L E K v w':=by
 refine calls_of_wp hf hb ?_;have oW:=B1 oW;have hlen:=hv.length;have hg:Good fn.ntmps (λ_=>bv) (gG ys) {tmps:=ys.toArray++cp (fn.ntmps-ys.toArray.size) af,defers:=[]}:=
  ⟨by simp;omega,rfl,λs hs=>by cases hs⟩
 have LP:yP {tmps:=ys.toArray++cp (fn.ntmps-ys.toArray.size) af,defers:=[]}=gG ys:=by
  funext i;simp only[yP,gG,Ck,mi,Array.getElem?_append];split
  ·simp
  ·rename_i iq;simp at iq;rw[ue iq,Wc];split<;>rfl
 have he:mf E (Og args) (yP {tmps:=ys.toArray++cp (fn.ntmps-ys.toArray.size) af,defers:=[]}):=by
  rw[LP];intro t;exact yEf hv t
 refine ak (z4y hH hm c an _ (λ_=>bv) (gG ys) E E _ w _ s pg (λ_ _=>rfl) hg (Ev.le.refl _) R he h) ?_;have fin:∀{a':Act} {w':ab} {E':Ev} {ρ':xE} {s':St},Good fn.ntmps (λ_=>bv) (gG ys) a'->E.le E'->Rel k L E' s' w'->mf E' ρ' (yP a')->(iL (Hj P ρ' s' fn.results.toList) λvs=>K (MC vs) s')->
  ∃v,(results fn a'.tmps).run P w'= .ok v w'/\∃v',Ending.returned v= .returned v'/\pz k L E K v' w':=by
  intro a' w' E' ρ' s' pw jt R' tc h';obtain⟨vs,hvs,hk⟩:=zM h';obtain⟨zs,h1,h2⟩:=zFy R' tc hvs;refine⟨Hn zs,?_,_,rfl,E',MC vs,s',jt,R',?_,hk⟩
  ·unfold results;rw[Array.mapM_eq_mapM_toList,map_eq_pure_bind,bind_assoc];exact zNv h1 _ (λr=>by cases r<;>rfl)
  ·rcases vs with _|⟨v,_|⟨u,vs⟩⟩
   ·simp only[im]at h2;subst h2;simp only[MC,Hn,VR];exact⟨[],rfl,im.nil⟩
   ·simp only[im]at h2;obtain⟨x,xs,rfl,h3,rfl⟩:=h2;exact h3
   ·have h20:=h2;simp only[im]at h2;obtain⟨x,xs,rfl,h3,y,DL,rfl,h4,h5⟩:=h2;simp only[MC,Hn,VR];exact⟨_,rfl,h20⟩
 rintro e a' w' ⟨pw,E',ρ',s',jt,R',tc,h'⟩;cases e<;>first|exact h'.elim|skip
 ·obtain⟨v,h1,h2⟩:=fin pw jt R' tc h';exact⟨pw.defers,v,h1,h2⟩
 ·obtain⟨v,h1,h2⟩:=fin pw jt R' tc h';exact⟨pw.defers,v,h1,h2⟩
def zDy {H:Br} (hH:Ia P H) (hm:P.follows .mixedOrders=bv) {f:ap} {fn:Func} {c:Code} (hf:P.funcs[f]? =au fn) (hb:fn.body=au c) (B6:gF P f=bv) (pg:yi fn.ntmps c=bv) (J:List (Nat×ib)) (an:List ib)
 {args:List V} (oW:ay args.length fn.ntmps=bv) {K:V->St->Prop} {s:St} (h:nu P H J an c (WY P fn K) (Og args) s) {E:Ev} {w:ab} {ys:List aa} (R:Rel k L E s w) (hv:im E args ys):
 ob P (ag f ys.toArray) w (pz k L E K):=nO B6 (zAp hH hm hf hb pg J an oW h R hv)
def E0 (w:ab):Ev:=⟨λb=>w.heap[b]?,[]⟩
def xBi (w:ab) (hG:Ed λb=>w.heap[b]?):Rel (Cv.ko w) [] (E0 w) ⟨[],0⟩ w:=⟨rfl,(Hp.start w).imp λx hx=>⟨hx,hG⟩⟩
def y7w (f:Nat):List (Nat×gx)->Option gx
 |[]=>av
 |(g,C)::l=>bif aw g f then au C else y7w f l
def Bs (P:ae):List (Nat×gx)->Prop
 |[]=>True
 |(f,C)::l=>C.ok P f/\Bs P l
def Ph (f:Nat):List (Nat×gx)->Bool
 |[]=>cd
 |(g,_)::l=>bif aw g f then bv else Ph f l
def MA (f:Nat) (args:List V) (s:St) (K:V->St->Prop):List (Nat×gx)->Prop
 |[]=>False
 |(g,C)::l=>bif aw g f then(bif Ph f l then C.call args s K\/MA f args s K l else C.call args s K)else MA f args s K l
def Vh {f:Nat} {args:List V} {s:St} {K:V->St->Prop}:∀{G:List (Nat×gx)},Bs P G->MA f args s K G->∃C:gx,C.ok P f/\C.call args s K
 |[],_,h=>h.elim
 |(g,C)::l,hG,h=>by
  simp only[MA]at h;cases hb:aw g f with
  |false=>rw[hb]at h;exact Vh hG.2 h
  |true=>
   rw[hb]at h;have e:=ji hb;subst e;cases hl:Ph g l with
   |false=>rw[hl]at h;exact⟨C,hG.1,h⟩
   |true=>
    rw[hl]at h;rcases h with h|h
    ·exact⟨C,hG.1,h⟩
    ·exact Vh hG.2 h
def ry (P:ae) (G:List (Nat×gx)):Nat->Br
 |0,f,args,s,K=>match Ph f G with
  |true=>MA f args s K G
  |false=>False
 |d+1,f,args,s,K=>match Ph f G with
  |true=>MA f args s K G
  |false=>match P.funcs[f]? with
   |some fn=>match fn.body with
    |some c=>bif gF P f && yi fn.ntmps c && ay args.length fn.ntmps then nu P (ry P G d) [] [] c (WY P fn K) (Og args) s else False
    |none=>False
   |none=>False
def yQc (hm:P.follows .mixedOrders=bv) {G:List (Nat×gx)} (hG:Bs P G):∀d,Ia P (ry P G d):=by
 intro d
 induction d with
 |zero=>
  intro f args s K h k L E w ys R hv;simp only[ry]at h;split at h<;>first|exact h.elim|skip
  obtain⟨C,h1,h2⟩:=Vh hG h;exact gx.zf h1 h2 R hv
 |succ d ih=>
  intro f args s K h k L E w ys R hv;simp only[ry]at h;split at h
  ·obtain⟨C,h1,h2⟩:=Vh hG h;exact gx.zf h1 h2 R hv
  ·split at h<;>first|exact h.elim|skip
   rename_i fn HV;split at h<;>first|exact h.elim|skip
   rename_i c hc;obtain⟨hb,h⟩:=zL h;simp only[ld]at hb;exact zDy ih hm HV hc hb.1.1 hb.1.2 [] [] hb.2 h R hv
def KI:Nat->NM
 |0=>[]
 |m+1=>(m,m)::KI m
def z2q:∀{m p:Nat},p<m->yB p (KI m)=au p
 |m+1,p,h=>by
  simp only[KI,yB];cases hb:aw m p
  ·have:m≠p:=λe=>by subst e;simp at hb
   exact z2q (by omega)
  ·rw[<- ji hb];rfl
def zIu:∀{m p q:Nat},yB p (KI m)=au q->p<m/\q=p
 |0,p,q,h=>by cases h
 |m+1,p,q,h=>by
  simp only[KI,yB]at h;cases hb:aw m p
  ·rw[hb]at h;obtain⟨h1,h2⟩:=zIu h;exact⟨by omega,h2⟩
  ·rw[hb]at h;have:=ji hb;simp only[cond_true,ci]at h;exact⟨by omega,by omega⟩
def Vz (m:Nat) (v:V) (s:St) (a:Alt):Prop:=
 ∃o,B2 (a.res o) v (KI m) s λπ s=>HH 0 (a.post o) π s λπ _=>bif eY (a.post o).length π && ay m (a.post o).length then a.rel o else False
def VE (m:Nat) (v:V) (s:St):List Alt->Prop
 |[]=>False
 |[a]=>Vz m v s a
 |a::l=>Vz m v s a\/VE m v s l
def Uz {m:Nat} {v:V} {s:St}:∀{l:List Alt},VE m v s l->∃a∈l,Vz m v s a
 |[a],h=>⟨a,by simp,h⟩
 |a::b::l,h=>by
  rcases h with h|h
  ·exact⟨a,by simp,h⟩
  ·obtain⟨c,h1,h2⟩:=Uz h;exact⟨c,jx _ h1,h2⟩
def Xd {w:ab} {m:Nat} {v:V} {s:St} {a:Alt} {E0 E:Ev} (h:Vz m v s a) (hn:E0.gu.length=m) (hle:E0.le E) (R:Rel k L E s w) {y:aa} (hv:VR E v y):
 ∃o,a.rel o/\∃E',E0.le E'/\VR E' (a.res o) y/\Rel k L E' ⟨fD 0 (a.post o),(a.post o).length⟩ w:=by
 obtain⟨o,h⟩:=h;have vi:AI (KI m) E.gu:=λp n e=>by
  obtain⟨h1,rfl⟩:=zIu e;exact⟨E0.gu[n]'(by omega),hle.get (xl (by omega))⟩
 obtain⟨E1,π1,s1,q1,q2,q3⟩:=z9l h R vi hv;obtain⟨E2,π2,s2,r1,r2⟩:=Vr q3 q1.rel q1.wf;obtain⟨hb,LG⟩:=zL r2;simp only[ld]at hb;have iq:=mV hb.1;have hmq:=B1 hb.2
 let q:=(a.post o).length
 let tl:List Hd:=(ba q).map λp=>(E2.gu[(yB p π2).getD 0]?).getD (af,[])
 have kj:∀p,p<q->tl[p]? =au ((E2.gu[(yB p π2).getD 0]?).getD (af,[])):=λp hp=>by
  show((ba q).map _)[p]? =_;rw[uz,KZ hp];rfl
 have uh:Loc π2 E2.gu tl:=by
  intro p n hp;obtain⟨hd,h'⟩:=r1.wf p n hp;refine⟨hd,h',?_⟩;rw[kj p (iq p n hp)];simp only[hp,zj,h']
 have uw:E0.le E2:=hle.trans (q1.le.trans r1.le);have Fz:E0.gu<+:tl:=by
  refine⟨tl.drop m,?_⟩;apply Hz;intro p;by_cases hp:p<m
  ·rw[Fb (by omega)];have zu:yB p π2=au p:=r1.ext _ _ (q1.ext _ _ (z2q hp));have e1:E0.gu[p]? =au (E0.gu[p]'(by omega)):=xl (by omega);rw[kj p (by omega),zu,zj,uw.get e1,e1];rfl
  ·rw[CY (by omega),Bg,hn,show m+(p-m)=p by omega]
 refine⟨o,LG,⟨E2.F,tl⟩,⟨uw.1,Fz⟩,q2 E2 π2 r1.le r1.ext tl uh,⟨by simp[tl,q],?_⟩⟩;have H:=r1.rel.AX;have H1:=vD (g:=iu ⟨E2.F,tl⟩) (λr x hx=>by
  rcases hx with⟨e1,e2⟩|⟨n,h1,h2⟩
  ·exact .inl ⟨e1,e2⟩
  ·right;obtain⟨hd,h3,h4⟩:=h2 E2 π2 (Ev.le.refl _) (Ext.refl _) tl uh;obtain⟨oY,h5,h6⟩:=uh _ _ h1;rw[h3]at h5;cases h5;exact⟨hd,h6,h4⟩) H
 have H2:Hp k w (s2.rows.map (iu E2)++((fD 0 (a.post o)).map (iu ⟨E2.F,tl⟩)++fz E2.F::L)):=by
  refine H1.perm ?_;rw[<- km,<- km];exact Bh.append_right _
 have S7:∀(l:List (Nat×fw)) {M:List HP},Hp k w (l.map (iu E2)++M)->Hp k w M:=by
  intro l
  induction l with
  |nil=>intro M H;exact H
  |cons a l ih=>intro M H;exact ih H.drop
 exact S7 _ H2
def walk (P:ae) (G:List (Nat×gx)) (d:Nat) (J:List (Nat×ib)) (an:List ib) (op:List Nat) (fn:Func) (c:Code) (args:List V) (rows:List fw) (alts:List Alt):Prop:=
 nu P (ry P G d) J an c (WY P fn λv s=>VE rows.length v s alts) (Og args) (TH op ⟨fD 0 rows,rows.length⟩)
def vV (hm:P.follows .mixedOrders=bv) {f:ap} {fn:Func} {c:Code} {C:gx} (G:List (Nat×gx)) (hG:Bs P G) (d:Nat) (J:C.ι->List (Nat×ib)) (an:C.ι->List ib) (op:List Nat) (hf:P.funcs[f]? =au fn) (hb:fn.body=au c) (B6:gF P f=bv) (pg:yi fn.ntmps c=bv)
 (oW:∀i,ay (C.pat i).length fn.ntmps=bv) (h:∀i,C.du i->walk P G d (J i) (an i) op fn c (C.pat i) (C.pre i) (C.alts i)):C.ok P f:=by
 intro i hc k L E w ys R hv;obtain⟨E1,hle,R1⟩:=zEg op R;refine(zDy (yQc hm hG d) hm hf hb B6 pg (J i) (an i) (oW i) (h i hc) R1 (hv.mono hle)).mono ?_;rintro y w' ⟨E',v,s',jt,R',Fi,hk⟩;obtain⟨a,ha,CC⟩:=Uz hk;obtain⟨o,h1,E2,h2,h3,h4⟩:=Xd CC R.nx (hle.trans jt) R' Fi;exact⟨a,ha,o,h1,E2,h2,h3,h4⟩
def vQ (t:aj):gx where
 ι:=List (aa×List D)
 pat:=λ_=>[.An t (.mp 0)]
 pre:=λes=>[.map es]
 du:=λ_=>True
 alts:=λes=>[{o:=Unit,res:=λ_=> .An t (.mp 1),post:=λ_=>[.map es,.map es],rel:=λ_=>True}]
def z9e {f : FuncId} {fn : Func} (hf : P.funcs[f]? = some fn) (BK : (fn.name == "runtime.NumGoroutine") = false) (hb : fn.body.isNone = true) (hn : Extern.findNext fn = none) (he : Extern.find fn = some Extern.MapsClone.clone) (t : TypeId) : (vQ t).ok P f := by
 intro es _ k L E w ys R hv;simp only[vQ,im,VR]at hv;obtain⟨y,_,rfl,⟨z,rfl,b,sub,e1,rfl⟩,rfl⟩:=hv;have hg:(⟨fD 0 [.map es],1⟩:St).get 0=au (.map es):=rfl;obtain⟨hd,x,q1,q2,q3⟩:=R.row hg (by simp);rw[e1]at q1;cases q1;simp only[gg]at q2;obtain⟨b',gn,ck,e4,e5,e6,rfl⟩:=q2;cases e4;have hm:=q3 b _ (by simp[one];rfl);have jr:(Extern.MapsClone.clone #[.iface t (.map (au b))]).run P w= .ok (.iface t (.map (au w.heap.size))) (w.alloc (.map gn.toArray ck)):=by
  have e:Extern.MapsClone.clone #[.iface t (.map (au b))]=(getObj b>>=λo=>match o with
   | .map entries clock=>(newObj (.map entries clock)>>=λn=>pure (.iface t (.map (au n))))
   | _ => stuck "maps.clone: a map expected") := rfl
  rw[e];simp only[bind,run_bind,qR hm trivial];rfl
 unfold ob;rw[run_callFunc_extern hf BK hb hn he,jr];simp only[Result.andThen];have Mg:gg E.F (.map es) (E.gu++[(.map (au w.heap.size),[])]) (.map (au w.heap.size),[]) (one w.heap.size (.map gn.toArray ck)):=by
  simp only[gg];exact⟨_,gn,ck,rfl,e5,e6,rfl⟩
 obtain⟨h1,h2,h3⟩:=R.new Mg;refine⟨_,xj.2 rfl,(),trivial,_,h1,by simp only[VR];exact⟨_,rfl,_,_,h3,rfl⟩,⟨h2.nx,h2.hp.perm ?_⟩⟩;exact .swap _ _ _
def z0v {E:Ev} {s:St} {w w':ab} (hle:(E0 w).le E) (R:Rel (Cv.ko w) [] E s w'):Below w.heap.size w w':=by
 have Ha:=R.frozen;obtain⟨h1,h2,h3⟩:=R.hp.1;have Sk:∀b,b<w.heap.size->w'.heap[b]? =w.heap[b]? :=λb hb=>by
  have:w.heap[b]? =au w.heap[b]:=Pu hb;rw[this];exact Ha b _ (hle.1 b _ this)
 refine⟨h1,h2,h3,?_,Sk⟩;rcases vx w'.heap.size w.heap.size with iq|JE
 ·have:=Sk w'.heap.size iq;rw[GY (mg _),Pu iq]at this;cases this
 ·exact JE
def Ai (hm:P.follows .mixedOrders=bv) {f:ap} {fn:Func} {c:Code} (G:List (Nat×gx)) (hG:Bs P G) (d:Nat) (J:List (Nat×ib)) (an:List ib) (hf:P.funcs[f]? =au fn) (hb:fn.body=au c) (pg:yi fn.ntmps c=bv)
 {args:List V} {alts:List Alt} (oW:ay args.length fn.ntmps=bv) (h:walk P G d J an [] fn c args [] alts) {w:ab} (hG0:Ed λb=>w.heap[b]?) {ys:List aa} (hv:im (E0 w) args ys):
 Calls P f ys.toArray w λe w'=>∃y,e= .returned y/\Below w.heap.size w w'/\∃a∈alts,∃o,a.rel o/\∃E',VR E' (a.res o) y:=by
 refine(zAp (yQc hm hG d) hm hf hb pg J an oW h (xBi w hG0) hv).mono ?_;rintro e w' ⟨y,he,E',v,s',hle,R,PL,hk⟩;obtain⟨a,ha,CC⟩:=Uz hk;obtain⟨o,h1,E2,h2,h3,h4⟩:=Xd CC rfl hle R PL;exact⟨y,he,z0v hle R,a,ha,o,h1,E2,h3⟩
@[reducible] def zB (n:Int):V:= .d (.v (.int .i64 n))
@[reducible] def Be (n:Int):V:= .d (.v (.int .u64 n))
@[reducible] def VQ (n:Int):V:= .d (.v (.int .u32 n))
@[reducible] def y4 (b:Bool):V:= .d (.v (.bool b))
@[reducible] def ru (sz:Nat) (fh:List (List D)):V:= .d (.ro sz fh)
def EX:V:= .jm []
@[reducible] def gh (ι:Type) (pat:ι->List V) (pre:ι->List fw) (du:ι->Prop) (res:ι->V) (post:ι->List fw):gx where
 ι:=ι
 pat:=pat
 pre:=pre
 du:=du
 alts:=λi=>[{o:=Unit,res:=λ_=>res i,post:=λ_=>post i,rel:=λ_=>True}]
def bE (l:List UInt8):List (List D):=l.map λb=>[.v (.int .u8 b.toNat)]
@[simp] theorem Tv (a b:List UInt8):bE (a++b)=bE a++bE b:=by simp[bE]
@[simp] theorem xAp:bE []=[]:=rfl
@[simp] theorem xL (a:List UInt8):(bE a).length=a.length:=by simp[bE]
def On (a:List UInt8) (n:Nat):bE (a.take n)=(bE a).take n:=by simp[bE]
def Oy (a:List UInt8) (n:Nat):bE (a.drop n)=(bE a).drop n:=by simp[bE]
def zVp (s:ByteArray):vU s=bE s.data.toList:=rfl
def pf (n:Int):UInt8:=UInt8.ofNat (n % 256).toNat
def le (n:Int):Nat->List UInt8
 |0=>[]
 |k+1=>pf n::le (n / 256) k
def jB (k:Nat):∀n:Int,(le n k).length=k:=by
 induction k with
 |zero=>intro n;rfl
 |succ k ih=>intro n;simp[le,ih]
def le_succ (k:Nat):∀n:Int,le n (k+1)=le n k++[pf (n / 256 ^ k)]:=by
 induction k with
 |zero=>intro n;simp[le]
 |succ k ih=>
  intro n;have:n / 256 / 256 ^ k=n / 256 ^ (k+1):=by
   rw[Int.ediv_ediv_of_nonneg (by omega),Int.pow_succ,E7]
  rw[le,ih,le,this,tu]
def T4 (n:Int):da.wrap n=((pf n).toNat:Int):=by
 have:(da.wrap n)=n % 256:=rfl;rw[this];unfold pf;have h1:(n % 256).toNat<256:=by omega
 rw[UInt8.toNat_ofNat_of_lt' (by simpa using h1)];omega
def iD {x:Int} (h: -9223372036854775808<=x/\x<=9223372036854775807):db.wrap x=x:=Cv.wrap_i64 h.1 h.2
def Cg {x:Int} (h:0<=x/\x<18446744073709551616):cy.wrap x=x:=by
 have:cy.wrap x=x % 18446744073709551616:=rfl;rw[this];omega
def y9h {x:Int} (h:0<=x/\x<4294967296):cz.wrap x=x:=by
 have:cz.wrap x=x % 4294967296:=rfl;rw[this];omega
def OC (k:IntKind) (a:Int) (b:Nat) (h:b<=k.bits):nA k a b=a / 2 ^ b:=by
 unfold nA;rw[show min (Int.toNat (b:Int)) k.bits=b by simp;omega];rw[Int.fdiv_eq_ediv_of_nonneg];exact Int.pow_nonneg (by omega)
def zI {p:Prop} [Decidable p] {A B:Prop} (h1:p->A) (h2:¬p->B):du (decide p) A B:=Cv.du.mk (λh=>h1 (td h)) (λh=>h2 (Fa h))
def fx {P:ae}:Bs P []:=trivial
def dz {P:ae} {f:Nat} {C:gx} {l:List (Nat×gx)} (h:C.ok P f) (hl:Bs P l):Bs P ((f,C)::l):=⟨h,hl⟩
end Sx
