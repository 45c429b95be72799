/- Texts of ours. No condition. -/
import Derived.Laws.Externs
import Derived.Lib.ConvBytes
import Derived.LoopN
import Derived.MapKept
import Derived.Test.YtfmobncdogfbmaaGreatR2
set_option linter.all false
open Go renaming Value->aa,World->ab,execOp->ac,Program->ae,undef->af,callFunc->ag,TypeId->aj,wp_mono->ak,grownCap->am,Oper->ao,FuncId->ap,MapEntry->aq,Operand->ar
open Option renaming some->au,none->av
open Nat renaming beq->aw,blt->ax,ble->ay
open List renaming range->az,replicate->ba,map->bc,mapM_cons->be,range'->bg
open Go.Lib renaming bytesCells->bo,bytesWorld->bu
open Bool renaming true->bv,false->bz
open List.Perm renaming append_left->cd,append_right->ce,cons->cf
open Option.some renaming injEq->cg,inj->cm
open Go.Value renaming pointer->co,int->cp
open Array renaming replicate->cq,ext'->cr
open Go.Sem renaming run->ct,bind->cu
open Go.Region renaming wanted->cw,ready->cx
open Go.IntKind renaming u64->cy,u32->cz,u8->da,i64->db
open True renaming intro->Y_
open Cv.dp renaming mk->W_
namespace Sx
open Go Go.RowKit Cv
variable {P:ae} {k:Ko} {L:List HP} {E:Ev} {s:St} {w:ab}
def Ev.le.app {E:Ev} (hd:Hd):E.le ⟨E.F,E.gl++[hd]⟩:=⟨yd.refl _,Kd _ _⟩
def Rel.tb (R:Rel k L E s w) {n t sz:Nat} {fa:Q_ D} (h:s.get n=au (.own t sz fa)):
 ∃a c xs sub,E.gl[n]? =au (.slice a fa.length c,sub)/\iC E.F fa.flatten xs/\(∀el∈fa,el.length=sz)/\Hp k w (ow t sz a fa.length c xs::((uG n s.rows).map (ie E)++fz E.F::L)):=by
 obtain⟨hk,hs,hh⟩:=R.focus h;cases hh with
 |cons ha jb hd hr=>
  rcases ha with⟨e,_⟩|⟨⟨hv,sub⟩,h1,h2⟩
  ·cases e
  ·simp only[fw]at h2;obtain⟨a,c,xs,rfl,q1,q2,q3⟩:=h2;exact⟨a,c,xs,sub,h1,q1,q2,hk,_,.cons q3 jb hd hr⟩
def aJ {rows:List (Nat×fq)} {nx t sz:Nat} {fa:Q_ D} {a:Option Addr} {c:Nat} {xs:List aa} (hn:E.gl.length=nx) (hx:iC E.F fa.flatten xs) (hu:∀el∈fa,el.length=sz)
 (H:Hp k w (ow t sz a fa.length c xs::(rows.map (ie E)++fz E.F::L))):
 ∃E',E.le E'/\Rel k L E' ⟨(nx,.own t sz fa)::rows,nx+1⟩ w/\VR E' (.own nx) (.slice a fa.length c):=by
 have hle:E.le ⟨E.F,E.gl++[(.slice a fa.length c,[])]⟩:=⟨yd.refl _,Kd _ _⟩
 have kq:(E.gl++[((.slice a fa.length c,[]):Hd)])[nx]? =au (.slice a fa.length c,[]):=by rw[<- hn];simp
 refine⟨⟨E.F,E.gl++[(.slice a fa.length c,[])]⟩,hle,⟨by simp[hn],?_⟩,by simp only[VR];exact⟨[],kq,_,_,_,rfl⟩⟩;have H1:Hp k w (rows.map (ie E)++(ow t sz a fa.length c xs::fz E.F::L)):=H.perm (mu (l₁:=rows.map (ie E))).symm;have H2:=vD (λr x=>ie.mono hle r) H1;have H3:Hp k w (ow t sz a fa.length c xs::(rows.map (ie ⟨E.F,E.gl++[(.slice a fa.length c,[])]⟩)++fz E.F::L)):=H2.perm mu;exact H3.imp λx HW=> .inr ⟨_,kq,by simp only[fw];exact⟨a,c,xs,rfl,hx,hu,HW⟩⟩
def VD (R:Rel k L E s w) {o:fq} {O:Obj} {hd:Hd} {K:V->St->Prop} {v:V} {y:aa} (h:fw E.F o (E.gl++[hd]) hd (one w.heap.size O)) (hv:(E.gl++[hd])[s.nx]? =au hd->VR ⟨E.F,E.gl++[hd]⟩ v y) (hk:K v (s.new o)):
 py k L E K y (w.alloc O):=by
 obtain⟨h1,h2,h3⟩:=R.new h;exact⟨_,v,_,h1,h2,hv h3,hk⟩
def Rel.setCells (R:Rel k L E s w) {n:Nat} {vs AE:List V} {T:aj} (h:s.get n=au (.cells vs T)) {b:Nat} {sub:List aa} (ht:E.gl[n]? =au (.pointer (au ⟨b,0,av⟩),sub)) {l':List aa} (hv:ic E AE l'):
 Rel k L E (s.set n (.cells AE T)) (World.ja w b (.cells l'.toArray T)):=by
 obtain⟨hk,hs,hh⟩:=R.focus h;cases hh with
 |cons ha jb hd hr=>
  rcases ha with⟨e,_⟩|⟨oU,h1,h2⟩
  ·cases e
  ·rw[ht]at h1;cases h1;simp only[fw]at h2;obtain⟨b',l,e1,e2,rfl⟩:=h2;cases e1;have H:Hp k w (pt b (.cells l.toArray T)::((uG n s.rows).map (ie E)++fz E.F::L)):=⟨hk,_,.cons rfl jb hd hr⟩
   refine R.oh h ((H.zj (.cells l'.toArray T)).imp λx hx=> .inr ⟨_,ht,?_⟩);simp only[fw];exact⟨b,l',rfl,hv,hx⟩
def Rel.M9 (R:Rel k L E s w) {n:Nat} {ds DH:List D} {T:aj} (h:s.get n=au (.vec ds T)) {b:Nat} {sub:List aa} (ht:E.gl[n]? =au (.pointer (au ⟨b,0,av⟩),sub)) {l':List aa} (hv:iC E.F DH l'):
 Rel k L E (s.set n (.vec DH T)) (World.ja w b (.cells l'.toArray T)):=by
 obtain⟨hk,hs,hh⟩:=R.focus h;cases hh with
 |cons ha jb hd hr=>
  rcases ha with⟨e,_⟩|⟨oU,h1,h2⟩
  ·cases e
  ·rw[ht]at h1;cases h1;simp only[fw]at h2;obtain⟨b',l,e1,e2,rfl⟩:=h2;cases e1;have H:Hp k w (pt b (.cells l.toArray T)::((uG n s.rows).map (ie E)++fz E.F::L)):=⟨hk,_,.cons rfl jb hd hr⟩
   refine R.oh h ((H.zj (.cells l'.toArray T)).imp λx hx=> .inr ⟨_,ht,?_⟩);simp only[fw];exact⟨b,l',rfl,hv,hx⟩
def Rel.GD (R:Rel k L E s w) {n:Nat} {es DG:List (aa×List D)} (h:s.get n=au (.map es)) {b:Nat} {sub:List aa} (ht:E.gl[n]? =au (.map (au b),sub)):
 ∃fy ck,MR E.F es fy/\w.heap[b]? =au (.map fy.toArray ck)/\uO fy ck/\∀iS tu,MR E.F DG iS->uO iS tu->Rel k L E (s.set n (.map DG)) (World.ja w b (.map iS.toArray tu)):=by
 obtain⟨hk,hs,hh⟩:=R.focus h;cases hh with
 |cons ha jb hd hr=>
  rcases ha with⟨e,_⟩|⟨oU,h1,h2⟩
  ·cases e
  ·rw[ht]at h1;cases h1;simp only[fw]at h2;obtain⟨b',fy,ck,e1,e2,e3,rfl⟩:=h2;cases e1;have H:Hp k w (pt b (.map fy.toArray ck)::((uG n s.rows).map (ie E)++fz E.F::L)):=⟨hk,_,.cons rfl jb hd hr⟩
   refine⟨fy,ck,e2,H.get,e3,λiS tu hm SK=>R.oh h ((H.zj (.map iS.toArray tu)).imp λx hx=> .inr ⟨_,ht,?_⟩)⟩;simp only[fw];exact⟨b,iS,tu,rfl,hm,SK,hx⟩
def Rel.Jo (R:Rel k L E s w) {n:Nat} {es DG:List (aa×List D)} {kv:aa} (h:s.get n=au (.map es)) {b:Nat} {sub:List aa} (ht:E.gl[n]? =au (.map (au b),sub)):
 ∃fy ck,MR E.F es fy/\w.heap[b]? =au (.map fy.toArray ck)/\uO fy ck/\∀iS tu x,MR E.F DG iS->uO iS tu->Vm iS kv x->Rel k L E (s.set n (.C0 DG kv x)) (World.ja w b (.map iS.toArray tu)):=by
 obtain⟨hk,hs,hh⟩:=R.focus h;cases hh with
 |cons ha jb hd hr=>
  rcases ha with⟨e,_⟩|⟨oU,h1,h2⟩
  ·cases e
  ·rw[ht]at h1;cases h1;simp only[fw]at h2;obtain⟨b',fy,ck,e1,e2,e3,rfl⟩:=h2;cases e1;have H:Hp k w (pt b (.map fy.toArray ck)::((uG n s.rows).map (ie E)++fz E.F::L)):=⟨hk,_,.cons rfl jb hd hr⟩
   refine⟨fy,ck,e2,H.get,e3,λiS tu x hm SK lr=>R.oh h ((H.zj (.map iS.toArray tu)).imp λy hy=> .inr ⟨_,ht,?_⟩)⟩;simp only[fw];exact⟨b,iS,tu,rfl,hm,SK,lr,hy⟩
def Rel.Jn (R:Rel k L E s w) {n:Nat} {es DG:List (aa×List D)} {kv:aa} {x:Int} (h:s.get n=au (.C0 es kv x)) {b:Nat} {sub:List aa} (ht:E.gl[n]? =au (.map (au b),sub)):
 ∃fy ck,MR E.F es fy/\w.heap[b]? =au (.map fy.toArray ck)/\uO fy ck/\Vm fy kv x/\∀iS tu,MR E.F DG iS->uO iS tu->Rel k L E (s.set n (.map DG)) (World.ja w b (.map iS.toArray tu)):=by
 obtain⟨hk,hs,hh⟩:=R.focus h;cases hh with
 |cons ha jb hd hr=>
  rcases ha with⟨e,_⟩|⟨oU,h1,h2⟩
  ·cases e
  ·rw[ht]at h1;cases h1;simp only[fw]at h2;obtain⟨b',fy,ck,e1,e2,e3,e4,rfl⟩:=h2;cases e1;have H:Hp k w (pt b (.map fy.toArray ck)::((uG n s.rows).map (ie E)++fz E.F::L)):=⟨hk,_,.cons rfl jb hd hr⟩
   refine⟨fy,ck,e2,H.get,e3,e4,λiS tu hm SK=>R.oh h ((H.zj (.map iS.toArray tu)).imp λy hy=> .inr ⟨_,ht,?_⟩)⟩;simp only[fw];exact⟨b,iS,tu,rfl,hm,SK,hy⟩
def yKs {l:List aq} (hn:(l.map (·.born)).Nodup):∀{q:Nat} {m:aq},l[q]? =au m->l.findIdx? (λe=>((e.born:Nat):Int)==((m.born:Nat):Int))=au q:=by
 induction l with
 |nil=>intro q m h;simp at h
 |cons a l ih=>
  intro q m h;simp only[jg,yz]at hn;cases q with
  |zero=>simp at h;subst h;simp[Kc]
  |succ q=>
   simp only[Bk]at h;have jy:a.born≠m.born:=λe=>hn.1 (e▸nn.2 ⟨m,kx h,rfl⟩)
   have Jh:¬((a.born:Nat):Int)=((m.born:Nat):Int):=X_
   rw[Kc,eg (i9 Jh),ih hn.2 h];rfl
def yKh {F:PH} {P:ae} {t:aj} {ds:List D} {v:V} (h:NO P t=au ds) (hm:HT P t ds=au v):∃z ys,rB P t=au z/\iC F ds ys/\z=tT ys:=by
 unfold NO at h;split at h
 ·rename_i cs hz;split at h<;>first|(cases h;done)|skip
  rename_i n hn;obtain⟨hb,h⟩:=yZ h;cases h;simp only[HT,hn]at hm;obtain⟨np,hm⟩:=yZ hm;simp only[lu,Dv]at np;have h1:=ji np.1;refine⟨_,cs.toList,hz,ySh hb,?_⟩;unfold tT;split
  ·rename_i y hy;rw[hy]at h1;simp only[jg,Bz,iG,uj]at h1;rw[<- h1]at np;exact absurd np.2 (by decide)
  ·rfl
 ·rename_i z jy hz;split at h<;>first|(cases h;done)|skip
  rename_i hn;obtain⟨hb,h⟩:=yZ h;cases h;exact⟨z,[z],hz,by simp only[iC,DR];exact⟨_,_,rfl,⟨rfl,hb⟩,rfl⟩,rfl⟩
 ·cases h
def YS {F:PH} {x:aa} {ds:List D} {ys:List aa} (hd:iC F ds ys) {e:aq} (h1:e.key=x) (h2:e.val=tT ys):∀{es:List (aa×List D)} {fy:List aq},MR F es fy->MR F (es++[(x,ds)]) (fy++[e])
 |[],fy,h=>by
  simp only[MR]at h;subst h;simp only[wy,MR];exact⟨e,[],rfl,h1,⟨ys,hd,h2⟩,rfl⟩
 |(y,d)::es,fy,h=>by
  simp only[MR]at h;obtain⟨m,ms,rfl,q1,q2,q3⟩:=h;simp only[uu,MR];exact⟨m,_,rfl,q1,q2,YS hd h1 h2 q3⟩
def zIq {kd:TypeDesc} {x:aa} (hk:J0 kd x):Instr.sameBits 10000 x x=bv:=by
 rcases hk with⟨ik,k,n,rfl,rfl⟩|⟨s,rfl,rfl⟩<;>simp only[Instr.sameBits]
 ·simp
 ·rw[yFp];simp
def z5k {E:Ev} {v:V} (hv:Xp v=bv) {y:aa} (h:VR E v y) {ys:List aa} (hc:y.cells=ys.toArray):y=tT ys:=by
 cases v<;>simp only[Xp,oS]at hv
 ·rename_i d;simp only[VR]at h;have h1:y.ou=bv:=iC.one (F:=E.F) (vs:=[d]) (l:=[y]) (by simp only[iC];exact⟨_,_,rfl,h,rfl⟩) y (by simp);have hcy:y.cells= #[y]:=by cases y<;>first|rfl|cases h1
  rw[hcy]at hc;have:ys=[y]:=by
   have:=congrArg Array.toList hc;simpa using this.symm
  rw[this];rfl
 ·rename_i l;simp only[VR]at h;obtain⟨zs,rfl,h2⟩:=h;simp only[Value.cells]at hc;have:ys=zs:=by
   have:=congrArg Array.toList hc;simpa using this.symm
  subst this;have hl:=h2.length;unfold tT;split
  ·simp only[iG,uj]at hl;rw[<- hl]at hv;exact absurd hv (by decide)
  ·rfl
def yRs {P:ae} {w:ab} {b:Nat} {l:List aa} {T t:aj} (hb:w.heap[b]? =au (.cells l.toArray T)) (ht:P.underlying t=au (.slice T)) (he:P.underlying T=au (.int .u8)) (n c:Nat):
 (convert t t (.slice (au ⟨b,0,av⟩) n c)).run P w= .ok (.slice (au ⟨b,0,av⟩) n c) (World.ja w b (.cells l.toArray T (l.length,l.length+1))):=by
 have OW:w.shape? b=au (T,l.length):=by
  unfold World.shape?;rw[hb];simp
 have Ib:w.freeze ⟨b,l.length,av⟩ 1=World.ja w b (.cells l.toArray T (l.length,l.length+1)):=by
  unfold World.freeze World.ja;rw[eg (by decide)];congr 1;apply RK;intro i;rw[Array.getElem?_modify,RW];by_cases c:b=i
  ·subst c;have gr:b<w.heap.size:=(Array.getElem?_eq_some_iff.1 hb).1;rw[fh rfl,fh rfl,fh gr,hb];rfl
  ·rw[eg c,eg c]
 simp[convert,Go.run_underlying ht,Go.run_underlying he,markStringish,OW];exact Ib
def Rel.setIter (R:Rel k L E s w) {n pos pos':Nat} {str:ByteArray} (h:s.get n=au (.iter str pos)) {b:Nat} {sub:List aa} (ht:E.gl[n]? =au (.pointer (au ⟨b,0,av⟩),sub)):
 w.heap[b]? =au (.stringIter str pos)/\Rel k L E (s.set n (.iter str pos')) (World.ja w b (.stringIter str pos')):=by
 obtain⟨hk,hs,hh⟩:=R.focus h;cases hh with
 |cons ha jb hd hr=>
  rcases ha with⟨e,_⟩|⟨oU,h1,h2⟩
  ·cases e
  ·rw[ht]at h1;cases h1;simp only[fw]at h2;obtain⟨b',e1,rfl⟩:=h2;cases e1;have H:Hp k w (pt b (.stringIter str pos)::((uG n s.rows).map (ie E)++fz E.F::L)):=⟨hk,_,.cons rfl jb hd hr⟩
   refine⟨H.get,R.oh h ((H.zj (.stringIter str pos')).imp λx hx=> .inr ⟨_,ht,?_⟩)⟩;simp only[fw];exact⟨b,rfl,hx⟩
def Rel.Na (R:Rel k L E s w) {n T sz i f:Nat} {fa:Q_ D} {ds:List D} (h:s.get n=au (.own T sz fa)) (hi:i<fa.length) (hf:f+ds.length<=sz) {b oo m c:Nat} {sub:List aa}
 (ht:E.gl[n]? =au (.slice (au ⟨b,oo,av⟩) m c,sub)) {ys:List aa} (hy:iC E.F ds ys):
 ∃l:List aa,w.heap[b]? =au (.cells l.toArray T)/\oo+i*sz+f+ys.length<=l.length/\Rel k L E (s.set n (.own T sz (zJ fa i f ds))) (World.ja w b (.cells (lg l (oo+i*sz+f) ys).toArray T)):=by
 obtain⟨a,c',xs,Ez,h1,hx,hu,H⟩:=R.tb h;rw[ht]at h1;cases h1;rcases H.oG with⟨e,_⟩|⟨b',r,e,h2,h3,h4,H1⟩
 ·cases e
 cases e;obtain⟨BI,Sj⟩:=mY i f ds hu hi hf;have xd:i*sz+sz<=fa.length*sz:=by
  have:=xv sz (show i+1<=fa.length by omega);rwa [Ad]at this
 have DB:=hy.length;refine⟨xs++r,H1.get,by rw[ix];omega,R.oh h ((H1.zj (.cells (lg (xs++r) (0+i*sz+f) ys).toArray T)).imp λx HW=> .inr ⟨_,ht,?_⟩)⟩;simp only[fw];have hlen:(zJ fa i f ds).length=fa.length:=by simp[zJ]
 have C2:lg (xs++r) (0+i*sz+f) ys=lg xs (i*sz+f) ys++r:=by
  simp only[lg,nt];rw[zi X_,HN X_];simp
 refine⟨_,c,lg xs (i*sz+f) ys,by rw[hlen],?_,Sj,.inr ⟨b,r,rfl,by rw[HW,C2],?_,?_,by rw[hlen];exact h4⟩⟩
 ·rw[BI];exact PK hx hy _
 ·rw[hlen,<- h2];simp only[lg,ix,nr,pj];omega
 ·rw[<- h3];simp only[lg,ix,nr,pj];omega
def yFh {l vs:List aa} {o:Nat} (h:o+vs.length<=l.length) (j:Nat):(lg l o vs)[j]? =if j<o then l[j]? else if j<o+vs.length then vs[j-o]? else l[j]? :=by
 unfold lg;have h1:(l.take o++vs).length=o+vs.length:=by simp;omega
 split
 ·rename_i hj;rw[Ek X_,Ek (by simp;omega),IH,fh hj]
 ·split
  ·rw[Ek X_,Ck (by simp;omega),nr,FL X_]
  ·rw[Ck X_,h1,BA];congr 1;omega
def Vp {l vs:List aa} {o p:Nat} {y:aa} (h:o+vs.length<=l.length) (hp:o+vs.length<=p\/p<o):lg (l.set p y) o vs=(lg l o vs).set p y:=by
 apply Du;intro j;have hlen:(lg l o vs).length=l.length:=by simp[lg];omega
 rw[yFh (by rw[qj];exact h),Ci,Ci,yFh h,hlen];by_cases hj:p=j
 ·subst hj;rw[fh rfl,fh rfl];split
  ·rfl
  ·rw[eg X_]
 ·rw[eg hj,eg hj]
def Rel.D9 (R:Rel k L E s w) {n:Nat} {x:qg} (h:nZ s n=au x):
 ∃a c ys xs sub,E.gl[n]? =au (.slice a x.fa.length c,sub)/\iC E.F x.fa.flatten ys/\(∀el∈x.fa,el.length=x.sz)/\zz E.gl (x.i*x.sz+x.f) x.b ys xs x.m/\Hp k w (ow x.T x.sz a x.fa.length c xs::((uG n s.rows).map (ie E)++fz E.F::L)):=by
 obtain⟨hk,hs,hh⟩:=R.focus (WK h);cases hh with
 |cons ha jb hd hr=>
  rcases ha with⟨e,_⟩|⟨⟨hv,sub⟩,h1,h2⟩
  ·cases e
  ·simp only[fw]at h2;obtain⟨a,c,ys,xs,rfl,q1,q2,q3,q4⟩:=h2;exact⟨a,c,ys,xs,sub,h1,q1,q2,q3,hk,_,.cons q4 jb hd hr⟩
def yOb {gl:List Hd} {p o:Nat} {b:Bool} {ys xs vs:List aa} (hl:o+vs.length<=ys.length) (hp:b=bv->o+vs.length<=p\/p<o):∀{m:Option Nat},zz gl p b ys xs m->zz gl p b (lg ys o vs) (lg xs o vs) m:=by
 have key:∀{y:aa},xs=(bif b then ys.set p y else ys)->lg xs o vs=bif b then(lg ys o vs).set p y else lg ys o vs:=by
  intro y h;cases b with
  |false=>rw[h];rfl
  |true=>rw[h,cond_true,cond_true];exact Vp hl (hp rfl)
 intro m;cases m with
 |none=>rintro⟨y,e,h⟩;exact⟨y,e,key h⟩
 |some m=>rintro⟨y,l,e1,e2,h⟩;exact⟨y,l,e1,e2,key h⟩
def Rel.Nc (R:Rel k L E s w) {n i f:Nat} {x:qg} {ds:List D} (h:nZ s n=au x) (hi:i<x.fa.length) (hf:f+ds.length<=x.sz) (xe:x.clear i f ds.length) {b oo m c:Nat} {sub:List aa}
 (ht:E.gl[n]? =au (.slice (au ⟨b,oo,av⟩) m c,sub)) {ys:List aa} (hy:iC E.F ds ys):
 ∃l:List aa,w.heap[b]? =au (.cells l.toArray x.T)/\oo+i*x.sz+f+ys.length<=l.length/\Rel k L E (s.set n (.uq x.q x.T x.sz (zJ x.fa i f ds) x.i x.f x.b x.m)) (World.ja w b (.cells (lg l (oo+i*x.sz+f) ys).toArray x.T)):=by
 obtain⟨a,c',zs,xs,Ez,h1,hz,hu,hx,H⟩:=R.D9 h;rw[ht]at h1;cases h1;rcases H.oG with⟨e,_⟩|⟨b',r,e,h2,h3,h4,H1⟩
 ·cases e
 cases e;obtain⟨BI,Sj⟩:=mY i f ds hu hi hf;have xd:i*x.sz+x.sz<=x.fa.length*x.sz:=by
  have:=xv x.sz (show i+1<=x.fa.length by omega);rwa [Ad]at this
 have DB:=hy.length;have DA:=Zs hx;refine⟨xs++r,H1.get,by rw[ix];omega,R.oh (WK h) ((H1.zj (.cells (lg (xs++r) (0+i*x.sz+f) ys).toArray x.T)).imp λz Sc=> .inr ⟨_,ht,?_⟩)⟩;simp only[fw];have hlen:(zJ x.fa i f ds).length=x.fa.length:=by simp[zJ]
 have C2:lg (xs++r) (0+i*x.sz+f) ys=lg xs (i*x.sz+f) ys++r:=by
  simp only[lg,nt];rw[zi X_,HN X_];simp
 refine⟨_,c,lg zs (i*x.sz+f) ys,lg xs (i*x.sz+f) ys,by rw[hlen],?_,Sj,yOb X_ (λhb=> ?_) hx,.inr ⟨b,r,rfl,by rw[Sc,C2],?_,?_,by rw[hlen];exact h4⟩⟩
 ·rw[BI];exact PK hz hy _
 ·rw[DB];exact yHz hf xe.1 (xe.2 hb)
 ·rw[hlen,<- h2];simp only[lg,ix,nr,pj];omega
 ·rw[<- h3];simp only[lg,ix,nr,pj];omega
def Rel.Jt (R:Rel k L E s w) {n c0:Nat} {q:Bool} {x:qg} (h:nZ s n=au x) (hi:x.i<x.fa.length) (hf:x.f<x.sz) {b oo m c:Nat} {sub:List aa}
 (ht:E.gl[n]? =au (.slice (au ⟨b,oo,av⟩) m c,sub)) {y:aa} {ly:List aa} (hc:E.gl[c0]? =au (y,ly)) (hs:∃a n c,y= .slice a n c):
 ∃l:List aa,w.heap[b]? =au (.cells l.toArray x.T)/\oo+x.i*x.sz+x.f+1<=l.length/\Rel k L E (s.set n (.uq q x.T x.sz x.fa x.i x.f bv (au c0))) (World.ja w b (.cells (lg l (oo+x.i*x.sz+x.f) [y]).toArray x.T)):=by
 obtain⟨a,c',zs,xs,Ez,h1,hz,hu,hx,H⟩:=R.D9 h;rw[ht]at h1;cases h1;rcases H.oG with⟨e,_⟩|⟨b',r,e,h2,h3,h4,H1⟩
 ·cases e
 cases e;have xd:x.i*x.sz+x.sz<=x.fa.length*x.sz:=by
  have:=xv x.sz (show x.i+1<=x.fa.length by omega);rwa [Ad]at this
 have DA:=Zs hx;refine⟨xs++r,H1.get,by rw[ix];omega,R.oh (WK h) ((H1.zj (.cells (lg (xs++r) (0+x.i*x.sz+x.f) [y]).toArray x.T)).imp λz Sc=> .inr ⟨_,ht,?_⟩)⟩;simp only[fw];have C2:lg (xs++r) (0+x.i*x.sz+x.f) [y]=xs.set (x.i*x.sz+x.f) y++r:=by
  simp only[lg,nt];rw[zi X_,HN (by simp;omega),OI,fh X_];simp
 have qu:xs.set (x.i*x.sz+x.f) y=zs.set (x.i*x.sz+x.f) y:=by
  have key:∀{z:aa},xs=(bif x.b then zs.set (x.i*x.sz+x.f) z else zs)->xs.set (x.i*x.sz+x.f) y=zs.set (x.i*x.sz+x.f) y:=by
   intro z h;cases hb:x.b with
   |false=>rw[h,hb];rfl
   |true=>rw[h,hb,cond_true,Eg]
  revert hx;cases x.m with
  |none=>rintro⟨z,_,h⟩;exact key h
  |some m=>rintro⟨z,l,_,_,h⟩;exact key h
 refine⟨_,c,zs,xs.set (x.i*x.sz+x.f) y,rfl,hz,hu,⟨y,ly,hc,hs,by rw[cond_true,qu]⟩,.inr ⟨b,r,rfl,by rw[Sc,C2],by rw[qj,h2],by rw[<- h3];simp,h4⟩⟩
def z6u {P:ae} (R:Rel k L E s w) {t n sz i f:Nat} {x:qg} {v:V} {K:V->St->Prop} (hx:nZ s n=au x) (h:ZD P t x n sz i f v s K) {yv:aa} (hv:VR E v yv)
 {b oo m c:Nat} {l:List aa} (e1:E.gl[n]? =au (.slice (au ⟨b,oo,av⟩) m c,l)):∃w',HG P (storeVar t ⟨b,oo+i*sz+f,av⟩ yv) w w'/\py k L E K af w':=by
 unfold ZD at h;obtain⟨hb,h⟩:=zM h;have e:=ji hb;subst e;have Te:∀{E':Ev},VR E' (.je []) af:=λ{E'}=>by simp only[VR];exact⟨[],rfl,ic.nil⟩
 have gen:∀{s':St} {ds:List D} {mm:Nat},I1 P s t v=au (ds,s')->nZ s' n=au x->rA P t=au mm->ds.length=mm->i<x.fa.length->f+mm<=x.sz->x.clear i f mm->K (.je []) (s'.set n (.uq x.q x.T x.sz (zJ x.fa i f ds) x.i x.f x.b x.m))->
  ∃w',HG P (storeVar t ⟨b,oo+i*x.sz+f,av⟩ yv) w w'/\py k L E K af w':=by
  intro s' ds mm hd hh hm hl hi hf xe hk;obtain⟨E',ys,q1,q2,q3,q4,q5,q6⟩:=NT R hd hv;obtain⟨ll,r1,r2,r3⟩:=q3.Nc (ds:=ds) (i:=i) (f:=f) hh hi X_ (by rw[hl];exact xe) (q1.get e1) q6;have lr:=gP (P:=P) (o:=oo+i*x.sz+f) hm q5 (by rw[q6.length,hl]) (by rw[q6.length,hl]at r2;exact r2) q6.one r1;exact⟨_,lr,E',_,_,q1,r3,Te,hk⟩
 split at h
 ·rename_i c0 vv tt hs;clear hs;split at h<;>first|exact h.elim|skip
  rename_i t2 vx lv hg;have aaE:=zN h;clear h;obtain⟨mm,hm,TF⟩:=aaE;have Pb:=zM TF;clear TF;obtain⟨hb,⟨hi,hf⟩,hq⟩:=Pb;simp only[lu]at hb;have qk:=ji hb.1;subst qk;simp only[VR]at hv;obtain⟨lc,hc,ha⟩:=hv;have xe:yv.cells=[yv].toArray/\∀z∈[yv],z.ou=bv:=by
   obtain⟨a,b,c,rfl⟩:=ha;exact⟨rfl,λz hz=>by rw[tq.1 hz];rfl⟩
  have Tg:∀{q:Bool},i=x.i->f=x.f->K (.je []) (s.set n (.uq q x.T x.sz x.fa x.i x.f bv (au c0)))->∃w',HG P (storeVar t ⟨b,oo+i*x.sz+f,av⟩ yv) w w'/\py k L E K af w':=by
   intro q h1 h2 hk;subst h1 h2;obtain⟨ll,r1,r2,r3⟩:=R.Jt (q:=q) hx hi hf e1 hc ha;exact⟨_,gP (P:=P) (o:=oo+x.i*x.sz+x.f) hm xe.1 rfl r2 xe.2 r1,E,_,_,Ev.le.refl _,r3,Te,hk⟩
  split at hq
  ·obtain⟨⟨h1,h2⟩,hk⟩:=hq;exact Tg h1 h2 hk
  ·obtain⟨hp,yg,hn⟩:=hq;by_cases xp:i=x.i/\f=x.f
   ·exact Tg xp.1 xp.2 (hp xp.1 xp.2)
   ·have hn:=hn xp;split at hn<;>first|exact hn.elim|skip
    rename_i ds s' hd;split at hn<;>first|exact hn.elim|skip
    rename_i y hy;obtain⟨np,rfl,hk⟩:=zM hn;exact gen hd hy hm (ji np) hi X_ ⟨yg,λ_ O8=>by
     have:¬f=y.f:=λe=>xp ⟨O8,e⟩
     omega⟩ hk
 ·split at h<;>first|exact h.elim|skip
  rename_i ds s' hd;split at h<;>first|exact h.elim|skip
  rename_i y hy;obtain⟨mm,hm,h⟩:=zN h;obtain⟨np,⟨rfl,hi,hf,xe⟩,hk⟩:=zM h;exact gen hd hy hm (ji np) hi hf xe hk
def Rel.Nb (R:Rel k L E s w) {n T i:Nat} {fa:Q_ D} {ds:List D} (h:s.get n=au (.HS T fa)) (hi:i<fa.length) (hf:ds.length=1) {b oo m c:Nat} {sub:List aa}
 (ht:E.gl[n]? =au (.slice (au ⟨b,oo,av⟩) m c,sub)) {y:aa} (hy:iC E.F ds [y]):
 ∃l:List aa,w.heap[b]? =au (.cells l.toArray T (l.length,l.length+1))/\i<l.length/\Rel k L E (s.set n (.HS T (zJ fa i 0 ds))) (World.ja w b (.cells (l.set (oo+i) y).toArray T (l.length,l.length+1)))/\oo=0:=by
 obtain⟨hk,hs,hh⟩:=R.focus h;obtain⟨b',c',xs,r,q1,q2,q3,q4,H⟩:∃b' c' xs r,(Value.slice (au ⟨b,oo,av⟩) m c)= .slice (au ⟨b',0,av⟩) fa.length c'/\iC E.F fa.flatten xs/\(∀el∈fa,el.length=1)/\fa.length<=c'/\Hp k w (pt b' (.cells (xs++r).toArray T ((xs++r).length,(xs++r).length+1))::(((uG n s.rows).map (ie E))++fz E.F::L)):=by
  cases hh with
  |cons ha jb Ic hr=>
   rcases ha with⟨e,_⟩|⟨hv,h1,h2⟩
   ·cases e
   ·rw[ht]at h1;cases h1;simp only[fw]at h2;obtain⟨b',c',xs,r,e1,e2,e3,e4,rfl⟩:=h2;exact⟨b',c',xs,r,e1,e2,e3,e4,hk,_,.cons rfl jb Ic hr⟩
 cases q1;obtain⟨BI,Sj⟩:=mY i 0 ds q3 hi X_;have CQ:xs.length=fa.length*1:=by rw[q2.length,wJ q3]
 have hlen:(zJ fa i 0 ds).length=fa.length:=by simp[zJ]
 refine⟨xs++r,H.get,by rw[ix];omega,R.oh h ((H.zj (.cells ((xs++r).set (0+i) y).toArray T ((xs++r).length,(xs++r).length+1))).imp λx HW=> .inr ⟨_,ht,?_⟩),rfl⟩;simp only[fw];have qu:(xs++r).set (0+i) y=xs.set i y++r:=by rw[nt,List.set_append_left _ _ X_]
 refine⟨b,c,xs.set i y,r,by rw[hlen],?_,Sj,by rw[hlen];exact q4,?_⟩
 ·rw[BI];have e:xs.set i y=lg xs (i*1+0) [y]:=by
   rw[OI,fh X_];simp[lg]
  rw[e];exact PK q2 hy _
 ·rw[qu]at HW;rw[HW];simp
def zXh (F:PH):∀l:i4,iC F (l.map λb=>[D.v (.int .u8 b.toNat)]).flatten (l.map λb=>cp .u8 b.toNat)
 |[]=>by simp[iC]
 |b::l=>by
  simp only[jg,Bg,uu,wy,iC,DR];exact⟨_,_,rfl,⟨rfl,rfl⟩,zXh F l⟩
def yLx {a b:ab} (h1:a.heap=b.heap) (h2:a.tape=b.tape) (h3:a.drawn=b.drawn) (h4:a.os=b.os) (h5:a.output=b.output):a=b:=by
 cases a;cases b;simp only at h1 h2 h3 h4 h5;subst h1 h2 h3 h4 h5;rfl
def zVw (w:ab) (e:aj) (s:ByteArray):bu w e s=World.ja (w.drew.alloc (.cells (bo w e s) e)) w.heap.size (.cells (bo w e s) e ((bo w e s).size,(bo w e s).size+1)):=by
 have hh:(bu w e s).heap=(World.ja (w.drew.alloc (.cells (bo w e s) e)) w.heap.size (.cells (bo w e s) e ((bo w e s).size,(bo w e s).size+1))).heap:=by
  apply RK;intro j;have pn:(w.drew.alloc (.cells (bo w e s) e)).heap.size=w.heap.size+1:=by simp[World.alloc,World.drew,-World.alloc_eq,-World.drew_eq]
  simp only[World.ja];rw[RW];by_cases hj:w.heap.size=j
  ·subst hj;rw[fh rfl,fh X_,Lib.bytesWorld_at_new]
  ·rw[eg hj];rcases vh j w.heap.size with h|h
   ·rw[Lib.bytesWorld_at_old w e s j h];have:(w.drew.alloc (.cells (bo w e s) e)).heap[j]? =w.heap[j]? :=by
     simp[World.alloc,World.drew,-World.alloc_eq,-World.drew_eq,Array.getElem?_push,Ne.symm hj]
    rw[this]
   ·rw[HM (by rw[Lib.bytesWorld_size];omega),HM X_]
 refine yLx hh ?_ ?_ ?_ ?_<;>(unfold bu World.freeze World.ja;rw[eg X_])
def yDp (R:Rel k L E s w) (b:ByteArray) (e:aj) {K:V->St->Prop} (hk:K (.own s.nx) (s.new (.HS e (j6 b)))):
 py k L E K (.slice (au ⟨w.heap.size,0,av⟩) b.size (am w b.size 0 e)) (bu w e b):=by
 have hl:(j6 b).length=b.size:=by simp[j6]
 have Jj:b.size<=am w b.size 0 e:=grownCap_ge w b.size 0 e;have H:=((R.hp.drew).new (.cells (bo w e b) e)).zj (.cells (bo w e b) e ((bo w e b).size,(bo w e b).size+1));have hs:w.drew.heap.size=w.heap.size:=rfl;rw[hs,<- zVw]at H;obtain⟨hd,hhd⟩:∃hd:Hd,hd=(.slice (au ⟨w.heap.size,0,av⟩) b.size (am w b.size 0 e),[]):=⟨_,rfl⟩
 have hle:E.le ⟨E.F,E.gl++[hd]⟩:=Ev.le.app _;have kq:(E.gl++[hd])[s.nx]? =au hd:=by rw[<- R.nx];simp
 refine⟨⟨E.F,E.gl++[hd]⟩,.own s.nx,_,hle,⟨by simp[St.new,R.nx],?_⟩,?_,hk⟩
 ·have H1:Hp k (bu w e b) (s.rows.map (ie E)++(pt w.heap.size (.cells (bo w e b) e ((bo w e b).size,(bo w e b).size+1))::fz E.F::L)):=H.perm (mu (l₁:=s.rows.map (ie E))).symm;have H2:=vD (λr x=>ie.mono hle r) H1;have H3:Hp k (bu w e b) (pt w.heap.size (.cells (bo w e b) e ((bo w e b).size,(bo w e b).size+1))::(s.rows.map (ie ⟨E.F,E.gl++[hd]⟩)++fz E.F::L)):=H2.perm mu;refine H3.imp λx hx=> .inr ⟨hd,kq,?_⟩
  simp only[fw];refine⟨w.heap.size,am w b.size 0 e,b.data.toList.map λ(c:UInt8)=>cp .u8 c.toNat,ba (am w b.size 0 e-b.size) (cp .u8 0),by rw[hhd,hl],?_,?_,by rw[hl];exact Jj,?_⟩
  ·exact zXh _ _
  ·simp[j6]
  ·have hx:x=one w.heap.size _:=hx;rw[hx];have ec:bo w e b=(b.data.toList.map (λ(c:UInt8)=>cp .u8 c.toNat)++ba (am w b.size 0 e-b.size) (cp .u8 0)).toArray:=by
    apply cr;simp[bo]
   rw[ec];simp
 ·simp only[VR];exact⟨[],by rw[kq,hhd],_,_,_,rfl⟩
def yCg (R:Rel k L E s w) {sz:Nat} {v:V} {fa:Q_ D} (h:z1x s sz v=au fa) {y:aa} (hv:VR E v y):
 ∃ys,Src sz w y fa.length ys/\iC E.F fa.flatten ys/\∀el∈fa,el.length=sz:=by
 unfold z1x at h;split at h
 ·cases h;simp only[VR,DR]at hv;obtain⟨rfl,_⟩:=hv;exact⟨[],.inl ⟨av,0,rfl,pe,.inl ⟨rfl,rfl,rfl⟩,Sub.pe w⟩,by simp[iC],by simp⟩
 ·rename_i b;obtain⟨hb,h⟩:=pH h;have:=ji hb;subst this;cases h;simp only[VR,DR]at hv;obtain⟨rfl,_⟩:=hv;refine⟨b.data.toList.map λb=> .int .u8 b.toNat,.inr ⟨b,rfl,rfl,by simp[j6],rfl⟩,?_,?_⟩
  ·unfold j6;generalize b.data.toList=l
   induction l with
   |nil=>simp[iC]
   |cons a l ih=>simp only[jg,Bg,uu,wy,iC,DR];exact⟨_,_,rfl,⟨rfl,rfl⟩,ih⟩
  ·intro el oT;unfold j6 at oT;obtain⟨x,_,rfl⟩:=nn.1 oT;rfl
 ·split at h<;>first|(cases h;done)|skip
  rename_i oD lq hd;obtain⟨hb,hh⟩:=pH h;clear h;have:=ji hb;subst this;cases hh;obtain⟨a,c,xs,rfl,h2,h3,h4,h5⟩:=mP R hv hd;exact⟨xs,.inl ⟨a,c,rfl,h5⟩,h3,h4⟩
def zWf (R:Rel k L E s w) {t1 t2 rt:Nat} {x y:V} {xr yr:aa} (hx:VR E x xr) (hy:VR E y yr) {K:V->St->Prop} (h:z3g P t1 t2 s x y K):
 ∃v w',fH P (Builtin.append_ #[t1,t2] rt #[xr,yr]) w v w'/\py k L E K v w':=by
 unfold z3g at h;obtain⟨i,hi,h⟩:=zN h;obtain⟨hb,h⟩:=zM h;simp only[lu]at hb;obtain⟨lq,EC,h⟩:=zN h;obtain⟨z,q1,q2,q3,q4⟩:=dZ hi;obtain⟨ys,K5,HV,huy⟩:=yCg R EC hy;have Fi:0<i.oF:=by simpa[yx]using hb.2
 split at h<;>first|exact h.elim|skip
 ·obtain⟨hlen,hk⟩:=h;simp only[VR,DR]at hx;obtain⟨rfl,_⟩:=hx;obtain⟨a',c',w',jq,H⟩:=(R.hp.nil i.e i.sz).append (P:=P) (rt:=rt) q1 hb.1 K5 HV.one (by rw[q2]) Fi (i9 hlen);simp only[nt,wy]at jq H;obtain⟨E',r1,r2,r3⟩:=aJ R.nx HV huy H;exact⟨_,w',jq,E',_,_,r1,r2,r3,hk⟩
 ·rename_i n;split at h<;>first|exact h.elim|skip
  rename_i T sz fa hg;obtain⟨np,hlen,hk⟩:=zM h;simp only[lu]at np;have e1:=ji np.1;have e2:=ji np.2;subst e1 e2;obtain⟨a,c,xs,sub,h1,xa,hu,H⟩:=R.tb hg;simp only[VR]at hx;obtain⟨l,hx,_⟩:=hx;rw[h1]at hx;cases hx;obtain⟨a',c',w',jq,H⟩:=H.append (P:=P) (rt:=rt) q1 hb.1 K5 HV.one (by rw[q2]) Fi hlen;obtain⟨E',r1,r2,r3⟩:=aJ (fa:=fa++lq) R.nx (by rw[OF];exact xa.append HV) (λel oT=>by
   rcases oH.1 oT with h|h
   ·exact hu el h
   ·exact huy el h) (by rw[ix];exact H)
  rw[ix]at r3;exact⟨_,w',jq,E',_,_,r1,r2,r3,hk⟩
def Rel.Nk {E:Ev} {s:St} (R:Rel k L E s w) {sz:Nat} {fa:Q_ D} {y:aa} (h:DR E.F (.ro sz fa) y):∃E',E.le E'/\Rel k L E' (s.new (.kr sz fa)) w/\E'.gl[s.nx]? =au (y,[]):=by
 have hle:E.le ⟨E.F,E.gl++[(y,[])]⟩:=Ev.le.app _;have kq:(E.gl++[((y,[]):Hd)])[s.nx]? =au (y,[]):=by rw[<- R.nx];simp
 refine⟨_,hle,⟨by simp[St.new,R.nx],?_⟩,kq⟩;have H2:=vD (λr x=>ie.mono hle r) R.hp;have:=(@gD k w True _).2 ⟨Y_,H2⟩;exact this.imp λx hx=> .inr ⟨_,kq,by simp only[fw];exact⟨hx.2,h⟩⟩
def V1:∀{vs:List V} {s:St} {K:List V->St->Prop} {E:Ev} {l:List aa},NQ vs s K->Rel k L E s w->ic E vs l->∃E' AE s',E.le E'/\Rel k L E' s' w/\ic E' AE l/\K AE s'
 |[],s,K,E,l,h,R,hv=>⟨E,[],s,Ev.le.refl _,R,hv,h⟩
 |v::vs,s,K,E,l,h,R,hv=>by
  simp only[NQ]at h;simp only[ic]at hv;obtain⟨x,xs,rfl,h1,h2⟩:=hv;split at h
  ·rename_i sz fa;simp only[VR]at h1;obtain⟨E1,q1,q2,q3⟩:=R.Nk h1;obtain⟨E2,AE,s',r1,r2,r3,r4⟩:=V1 h q2 (h2.mono q1);refine⟨E2,_,s',q1.trans r1,r2,?_,r4⟩;simp only[ic,VR];simp only[DR]at h1;obtain⟨a,c,e,_⟩:=h1;exact⟨x,xs,rfl,⟨[],r1.get q3,a,_,c,e⟩,r3⟩
  ·obtain⟨E2,AE,s',r1,r2,r3,r4⟩:=V1 h R h2;exact⟨E2,_,s',r1,r2,by simp only[ic];exact⟨x,xs,rfl,h1.mono r1,r3⟩,r4⟩
def py.up {E E':Ev} (h:E.le E') {K:V->St->Prop} {y:aa} {w':ab}:py k L E' K y w'->py k L E K y w':=λ⟨E2,v,s',h1,h2⟩=>⟨E2,v,s',h.trans h1,h2⟩
def z6w {H:BN} (hH:I7 P H) (R:Rel k L E s w) {f:ap} {args:List V} {ys:List aa} {K:V->St->Prop} (h:yRu H f args s K) (hv:ic E args ys):nq P (ag f ys.toArray) w (py k L E K):=by
 unfold yRu at h;split at h
 ·rename_i n i rest;split at h<;>first|exact h.elim|skip
  rename_i t T m iA l hg;obtain⟨x,hx,h⟩:=h;simp only[ic]at hv;obtain⟨y,ys,rfl,h1,h2⟩:=hv;have BK:=h1;obtain⟨E1,hle,R1,CR,l0,ht⟩:=R.Jm hg hx h1;have OV:ic E1 (.nm s.nx 0::rest) (y::ys):=by simp only[ic];exact⟨_,_,rfl,CR,h2.mono hle⟩
  refine(hH f _ _ _ h k L E1 w _ R1 OV).mono ?_;rintro r w' ⟨E',v,s',jr,R',Si,hk⟩;unfold y5g at hk;split at hk<;>first|exact hk.elim|skip
  rename_i o ha;split at hk<;>first|exact hk.elim|skip
  rename_i t' T' m' aa9 l' j hn;obtain⟨x',rfl,rfl,hi,hk⟩:=hk;simp only[VR]at BK;obtain⟨hd,aba,b,oo,e1,e2,e3⟩:=BK;have e1':=(hle.trans jr).get e1;have R2:=R'.Js ha hn hi (jr.get ht) (λv sub hs=>by rw[e1']at hs;cases hs;exact e2);exact⟨E',v,_,hle.trans jr,R2,Si,hk⟩
 ·exact hH f _ s K h k L E w _ R hv
def z0m {E:Ev} {ps:List (Nat×V)} {qs:List (Nat×aa)} {m:Nat} (h:z2k ps=au m) (hp:Ct E ps qs):∃y,qs=[(0,y)]/\VR E (.nm m 0) y:=by
 unfold z2k at h;split at h<;>first|(cases h;done)|skip
 cases h;simp only[Ct]at hp;obtain⟨y,ys,rfl,h1,rfl⟩:=hp;exact⟨y,rfl,h1⟩
def z1h (R:Rel k L E s w) {t:aj} {i:SlI} (hi:pS P t=au i) (pn:i.sz=1) {m:Nat} {T:Type} {mm:Nat} {iA:T->Nat->fq} {x:T} (hg:s.get m=au (.rk T mm iA x)) {qs:List (Nat×aa)}
 (hp:∃y,qs=[(0,y)]/\VR E (.nm m 0) y) {K:V->St->Prop} (hk:K (.own s.nx) ((s.del m).new (.km i.e T mm iA [x] av))):
 ∃v w',(Instr.buildSlice t 1 qs.toArray).run P w= .ok v w'/\py k L E K v w':=by
 obtain⟨y,rfl,hv⟩:=hp;simp only[VR]at hv;obtain⟨b,oo,l0,e1,rfl⟩:=hv;obtain⟨z,q1,q2,q3,q4⟩:=dZ hi;obtain⟨inf,zv,p1,p2,p3,p4,p5,p6⟩:=jI q1;have MZ:ME P t 1 #[(0,co (au ⟨b,oo+0,av⟩))]=au (i.e,#[co (au ⟨b,oo,av⟩)]):=by
  unfold ME;simp only[p1,p2];rw[eg (by rw[p3,pn];omega)];have hz:(if 1*inf.size=0 then au #[]else inf.zero.map Value.cells)=au z:=by
   rw[eg (by rw[p3,pn];omega),p5,wz,p6]
  rw[hz];simp only;have AS:HE z (1*inf.size)=z:=by
   rw[p3,pn];have Mn:z.size=1:=by rw[q2,pn]
   apply cr;have:=WR (z:=z.toList) 1;rw[RM,show z.toList.length=1 by simp[Mn]]at this;simpa using this
  rw[AS,p3,pn];have Mn:z.toList.length=1:=by simp[q2,pn]
  obtain⟨z0,hz0⟩:∃z0,z= #[z0]:=by
   match DA:z.toList,Mn with
   |[a],_=>exact⟨a,by apply cr;simpa using DA⟩
  subst hz0;simp[Instr.fill,Value.cells]
 refine⟨_,_,m5 MZ w,?_⟩;have R1:=R.take hg;have H:=(R1.hp.new (.cells #[co (au ⟨b,oo,av⟩)] i.e)).lit (l:=[co (au ⟨b,oo,av⟩)]) (sz:=1) (n:=1) rfl;have H1:Hp k (w.alloc (.cells #[co (au ⟨b,oo,av⟩)] i.e)) (ie E (m,.rk T mm iA x)::ow i.e 1 (au ⟨w.heap.size,0,av⟩) 1 1 [co (au ⟨b,oo,av⟩)]::((s.del m).rows.map (ie E)++fz E.F::L)):=by
  refine H.perm ?_;refine(cf _ ?_).trans (.swap _ _ _);exact(cd _ (.swap _ _ _)).trans mu
 have H2:=(H1.imp λq hq=>zOy e1 hq).swap;have H3:Hp k (w.alloc (.cells #[co (au ⟨b,oo,av⟩)] i.e)) (ow i.e 1 (au ⟨w.heap.size,0,av⟩) [x].length 1 [co (au ⟨b,oo,av⟩)]::((az [x].length).map (qA E.F T mm iA [x] [co (au ⟨b,oo,av⟩)] av)++((s.del m).rows.map (ie E)++fz E.F::L))):=by
  have H3:=H2.swap.imp (B:=qA E.F T mm iA [x] [co (au ⟨b,oo,av⟩)] av 0) λq hq=>by
   unfold qA;rw[eg (by simp)];exact⟨x,_,l0,rfl,rfl,hq⟩
  exact H3.swap
 obtain⟨E2,t1,t2,t3⟩:=zMh (l:=[x]) (by simpa[St.del]using R.nx) rfl (λp hp=>by rw[tq.1 hp];exact⟨_,_,rfl⟩) H3;exact⟨E2,_,_,t1,t2,t3,hk⟩
def zTn (R:Rel k L E s w) {t1 t2 rt:Nat} {x y:V} {xr yr:aa} (hx:VR E x xr) (hy:VR E y yr) {K:V->St->Prop} (h:Y6 P t1 t2 s x y K):
 ∃v w',(Builtin.append_ #[t1,t2] rt #[xr,yr]).run P w= .ok v w'/\py k L E K v w':=by
 unfold Y6 at h;split at h<;>first|exact h.elim|skip
 rename_i n2;split at h<;>first|exact h.elim|skip
 rename_i t2' T2 m2 wk l2 AI;obtain⟨i,hi,h⟩:=zN h;obtain⟨hb,h⟩:=zM h;simp only[lu]at hb;have Fi:0<i.oF:=by simpa[yx]using hb.1.2
 have pn:=ji hb.2;obtain⟨z,q1,q2,q3,q4⟩:=dZ hi;rw[pn]at q1 q2;obtain⟨a2,c2,tj,g1,g2,g3,H⟩:=VJ R AI;simp only[VR]at hy;obtain⟨ly,hy,_⟩:=hy;rw[g1]at hy;cases hy;have EC:Src 1 w (.slice a2 l2.length c2) l2.length tj:= .inl ⟨a2,c2,rfl,by obtain⟨q,hq,hs⟩:=H.sat;exact⟨q,nK hq,hs⟩⟩;have ED:∀v∈tj,v.ou=bv:=λv hv=>by obtain⟨_,_,rfl⟩:=g3 v hv;rfl
 split at h<;>first|exact h.elim|skip
 ·obtain⟨hlen,hk⟩:=h;simp only[VR,DR]at hx;obtain⟨rfl,_⟩:=hx;obtain⟨a',c',w',jq,H1⟩:=(H.nil i.e 1).append (P:=P) (rt:=rt) q1 hb.1.1 EC ED q2 Fi (i9 hlen);simp only[nt,wy]at jq H1;have H2:=H1.swap.drop;obtain⟨E',r1,r2,r3⟩:=zMh (rows:=uG n2 s.rows) R.nx g2 g3 H2;exact⟨_,w',jq,E',_,_,r1,r2,r3,hk⟩
 ·rename_i n OW abb;split at h<;>first|exact h.elim|skip
  rename_i t1' T1 m1 S6 l1 hg1;obtain⟨zk,he1,hlen,hk⟩:=h;rw[he1]at hg1;have R1:=R.take AI;obtain⟨a1,c1,BR,f1,f2,f3,H1⟩:=VJ R1 hg1;simp only[VR]at hx;obtain⟨lx,hx,_⟩:=hx;rw[f1]at hx;cases hx;obtain⟨a',c',w',jq,H2⟩:=H1.append (P:=P) (rt:=rt) q1 hb.1.1 EC ED q2 Fi hlen;have p1:(bc (qA E.F T2 m2 wk zk BR av) (az zk.length)++(bc (ie E) (uG n (s.del n2).rows)++fz E.F::ie E (n2,fq.km t2' T2 m2 wk l2 av)::L)).Perm
   (ie E (n2,fq.km t2' T2 m2 wk l2 av)::(bc (qA E.F T2 m2 wk zk BR av) (az zk.length)++(bc (ie E) (uG n (s.del n2).rows)++fz E.F::L))):=
   (cd _ ((cd _ (.swap _ _ _)).trans mu)).trans mu
  have H3:=(H2.cons p1).swap;have H4:Hp k w' (SM (ow t2' 1 a2 l2.length c2 tj) (hS ((az l2.length).map (qA E.F T2 m2 wk l2 tj av)))::ow i.e 1 a' (zk.length+l2.length) c' (BR++tj)::(bc (qA E.F T2 m2 wk zk BR av) (az zk.length)++(bc (ie E) (uG n (s.del n2).rows)++fz E.F::L))):=
   H3.imp λq hq=>by
    rcases hq with⟨e,_⟩|⟨hd,h1,h2⟩
    ·cases e
    ·rw[g1]at h1;cases h1;obtain⟨a3,c3,e3,_,_,e4⟩:=ri.1 h2;cases e3;exact e4
  have H5:=rh.1 (vf.1 H4).drop;have H6:Hp k w' (ow i.e 1 a' (zk++l2).length c' (BR++tj)::((az (zk++l2).length).map (qA E.F T2 m2 wk (zk++l2) (BR++tj) av)++((uG n (s.del n2).rows).map (ie E)++fz E.F::L))):=by
   have H7:Hp k w' ((az zk.length).map (qA E.F T2 m2 wk zk BR av)++((az l2.length).map (qA E.F T2 m2 wk l2 tj av)++(ow i.e 1 a' (zk.length+l2.length) c' (BR++tj)::((uG n (s.del n2).rows).map (ie E)++fz E.F::L)))):=by
    refine H5.perm ?_;refine(cd _ (mu.symm)).trans ?_;rw[<- jd,<- jd];exact ce _ BC
   have H8:=yOy f2 H7;rw[ix]at H8 ⊢;exact H8.perm mu
  obtain⟨E',r1,r2,r3⟩:=zMh (rows:=uG n (s.del n2).rows) (by simpa[St.del]using R1.nx) (by rw[ix,ix,f2,g2]) (λp hp=>by
   rcases oH.1 hp with h|h
   ·exact f3 p h
   ·exact g3 p h) H6
  rw[ix]at r3;exact⟨_,w',jq,E',_,_,r1,r2,r3,hk⟩
def z3u {H:BN} {E:Ev} {s:St} {w:ab} (R:Rel k L E s w) {ρS:xG} {ρ:Env} (he:lp E ρS ρ) {o:ao} {K:V->St->Prop} {t:aj} {x:ar} {lo hi:Option ar} (ho:o.op= .slice t x lo hi av) (h:se P H o ρS s K):
 ∃y,FB P (ac (ev ρ) o) y/\py k L E K y w:=by
 simp only[se,ho]at h;split at h<;>first|exact h.elim|skip
 rename_i n xa;have hx:=he.ev x;rw[xa]at hx;have ro:∀{E':Ev} {s':St} {sz:Nat} {fa:Q_ D} {l u:Option Int} {K':V->Prop},E.le E'->Rel k L E' s' w->DR E'.F (.ro sz fa) (ev ρ x)->g8 P t=au sz->HA ρS lo=au l->HA ρS hi=au u->Oe sz fa l u K'->(∀v,K' v->K v s')->
  ∃y,FB P (ac (ev ρ) o) y/\py k L E K y w:=by
  intro E' s' sz fa l u K' hle R' hdr hs h1 h2 zc hk;obtain⟨a,c,v,e1,IX,aaR⟩:=hdr.GF zc;have hp:bX P o ρ (λy=>VR E' v y):=by
   simp only[bX,ho,e1,hs,dA he h1,dA he h2,EO];exact z5j (λp n c hh=>hh E' rfl) aaR
  obtain⟨y,hy,hf⟩:=fS hp;exact⟨y,hf,E',v,s',hle,R',hy,hk v IX⟩
 split at h<;>first|exact h.elim|skip
 ·rename_i T sz fa hg;obtain⟨oD,hs,h⟩:=zN h;obtain⟨hb,hh⟩:=zM h;clear h;have e:=ji hb;subst e;obtain⟨l,u,h1,h2,h⟩:=sP hh;clear hh;cases l with
  |none=>
   obtain⟨a,c,xs,sub,q1,q2,q3,H⟩:=R.tb hg;have Ya:=hx;simp only[VR]at hx;obtain⟨Ez,hx,_⟩:=hx;rw[q1]at hx;have hev:ev ρ x= .slice a fa.length c:=((Prod.mk.inj (cm hx)).1).symm;have hnc:fa.length<=c:=H.len.2;cases u with
   |none=>
    have hp:bX P o ρ (λy=>VR E (.own n) y):=by
     simp only[bX,ho,hev,hs,dA he h1,dA he h2,EO,uc];exact⟨hnc,by rw[hev]at Ya;exact Ya⟩
    obtain⟨y,hy,hf⟩:=fS hp;exact⟨y,hf,E,_,s,Ev.le.refl _,R,hy,h⟩
   |some u=>
    obtain⟨⟨h3,h4⟩,hk⟩:=h;have hux:(fa.take u.toNat).length=u.toNat:=by rw[nr];omega
    have H2:Hp k w (ow T sz a (fa.take u.toNat).length c (xs.take (u.toNat*sz))::((uG n s.rows).map (ie E)++fz E.F::L)):=by
     refine H.imp λz hz=> ?_
     rw[hux];rcases hz with⟨rfl,z1,rfl,rfl,rfl⟩|⟨b,r,rfl,rfl,z2,z3,z4⟩
     ·left;exact⟨rfl,X_,rfl,by simp,rfl⟩
     ·right;have hle:u.toNat*sz<=fa.length*sz:=xv _ X_;refine⟨b,xs.drop (u.toNat*sz)++r,rfl,?_,?_,?_,X_⟩
      ·rw[<- jd,Bi]
      ·rw[nr];omega
      ·rw[<- jd,Bi];exact z3
    obtain⟨E',r1,r2,r3⟩:=aJ (fa:=fa.take u.toNat) R.nx (by rw[<- tG _ q3];exact q2.take _) (λel oT=>q3 el (OG oT)) H2;have hp:bX P o ρ (λy=>VR E' (.own s.nx) y):=by
     simp only[bX,ho,hev,hs,dA he h1,dA he h2,EO,uc];rw[hux]at r3;exact⟨⟨h3,X_⟩,r3⟩
    obtain⟨y,hy,hf⟩:=fS hp;exact⟨y,hf,E',_,_,r1,r2,hy,hk⟩
  |some l=>
   have Ib:=PX R (v:= .own n) (d:= .ro sz fa) (s':=s.set n (.kr sz fa)) (by simp only[L0,hg]) hx;obtain⟨E',r1,r2,r3,r4,r5⟩:=Ib;exact ro r1 r3 r5 hs h1 h2 h (λv hv=>hv)
 ·rename_i sz fa hg;obtain⟨oD,hs,h⟩:=zN h;obtain⟨hb,hh⟩:=zM h;clear h;have e:=ji hb;subst e;obtain⟨l,u,h1,h2,h⟩:=sP hh;clear hh;have Ib:=PX R (v:= .own n) (d:= .ro sz fa) (s':=s) (by simp only[L0,hg]) hx;obtain⟨E',r1,r2,r3,r4,r5⟩:=Ib;exact ro r1 r3 r5 hs h1 h2 h (λv hv=>hv)
def z7a {H:BN} (hH:I7 P H) (R:Rel k L E s w) {ρS:xG} {ρ:Env} (he:lp E ρS ρ) {o:ao} {K:V->St->Prop} (h:se P H o ρS s K):nq P (ac (ev ρ) o) w (py k L E K):=by
 cases ho:o.op
 case alloc e=>
  simp only[se,ho]at h;obtain⟨z,hz,h⟩:=zN h;obtain⟨hb,hk⟩:=zM h;obtain⟨l,hl,hv⟩:=VR.cells (E:=E) hb (PG E z);simp only[ac,ho];refine yI (v:= .pointer (au ⟨w.heap.size,0,av⟩)) (w':=w.alloc (.cells z.cells e)) ?_ ?_
  ·simp only[Instr.alloc,bind,pure,run_bind,mg (c8 hz),ct,zTf]
  ·refine VD (hd:=(.pointer (au ⟨w.heap.size,0,av⟩),[])) R ?_ (λhg=> ?_) hk
   ·simp only[fw];exact⟨_,l,rfl,ic.mono (Ev.le.app _) hv,by rw[hl]⟩
   ·simp only[VR];exact⟨_,0,_,hg,rfl⟩
 case box e x=>
  simp only[se,ho]at h;obtain⟨hb,hk⟩:=zM h;obtain⟨l,hl,hv⟩:=VR.cells (E:=E) hb (he.ev x);obtain⟨E1,us,s1,xq,R1,hv,hk⟩:=V1 hk R hv;simp only[ac,ho];refine yI (v:= .pointer (au ⟨w.heap.size,0,av⟩)) (w':=w.alloc (.cells (ev ρ x).cells e)) rfl (py.up xq ?_);refine VD (hd:=(.pointer (au ⟨w.heap.size,0,av⟩),[])) R1 ?_ (λhg=> ?_) hk
  ·simp only[fw];exact⟨_,l,rfl,ic.mono (Ev.le.app _) hv,by rw[hl]⟩
  ·simp only[VR];exact⟨_,0,_,hg,rfl⟩
 case buildSlice t len ps=>
  simp only[se,ho]at h;split at h
  ·rename_i m hm;split at h<;>first|exact h.elim|skip
   rename_i T mm iA x hg;obtain⟨i,hi,h⟩:=zN h;obtain⟨hb,hk⟩:=zM h;simp only[lu]at hb;have qk:=ji hb.1;have np:=ji hb.2;subst np;obtain⟨v,w',hr,yj⟩:=z1h R hi qk hg (hp:=z0m hm (V' he ps.toList)) hk;simp only[ac,ho];refine yI ?_ yj;have Cn:(ps.map λ(x:Nat×ar)=>(x.1,ev ρ x.2))=(ps.toList.map λp=>(p.1,ev ρ p.2)).toArray:=by apply cr;simp
   rw[Cn];exact hr
  obtain⟨i,hi,h⟩:=zN h;obtain⟨hb,h⟩:=zM h;split at h<;>first|exact h.elim|skip
  rename_i fa s' hf;obtain⟨z,q1,q2,q3,q4⟩:=dZ hi;obtain⟨inf,zv,p1,p2,p3,p4,p5,p6⟩:=jI q1;have Pa:iC E.F (ba len i.z).flatten (HE z (len*i.sz)).toList:=by
   rw[<- q2,show z.size=z.toList.length by simp];have:=WR (z:=z.toList) len;rw[RM]at this;rw[this];exact z0r (q4 E.F) len
  obtain⟨E',CV,r1,r2,r3,r4,r5,r6,r7,r8⟩:=z7k R hf (V' he ps.toList) (PU q3) Pa;have MZ:ME P t len (ps.map λ(i,x)=>(i,ev ρ x))=au (i.e,CV.toArray):=by
   unfold ME;simp only[p1,p2];rw[eg (by rw[p3];have:=Cj hb;omega)];have hz:(if len*inf.size=0 then au #[]else inf.zero.map Value.cells)=au (if len*inf.size=0 then #[]else z):=by
    split
    ·rfl
    ·rw[p5,wz,p6]
   have AS:HE (if len*inf.size=0 then #[]else z) (len*inf.size)=HE z (len*i.sz):=by
    rw[p3];by_cases h0:len*i.sz=0
    ·rw[fh h0,h0];rfl
    ·rw[eg h0]
   rw[hz];simp only;rw[AS];simp only[p3];rw[RM]at r8;have Cn:(ps.map λ(x:Nat×ar)=>(x.1,ev ρ x.2)).toList=ps.toList.map λp=>(p.1,ev ρ p.2):=by simp
   rw[Cn,r8];rfl
  simp only[ac,ho];refine yI (m5 MZ w) ?_;have hlen:fa.length=len:=by rw[r6,HL]
  have CQ:CV.length=fa.length*i.sz:=by rw[r7.length,wJ r5]
  have H:=(r3.hp.new (.cells CV.toArray i.e)).lit CQ;obtain⟨E2,t1,t2,t3⟩:=aJ r3.nx r7 r5 H;rw[hlen]at t3;exact⟨E2,_,_,r1.trans t1,t2,t3,h⟩
 case makeMap t r=>
  cases r with
  |some r=>simp only[se,ho]at h
  |none=>
   simp only[se,ho]at h;simp only[ac,ho];refine yI (v:= .map (au w.heap.size)) (w':=w.alloc (.map #[] 0)) rfl ?_;refine VD (hd:=(.map (au w.heap.size),[])) R ?_ (λhg=> ?_) h
   ·simp only[fw];exact⟨_,[],0,rfl,by simp only[MR],ySz,rfl⟩
   ·simp only[VR];exact⟨_,_,hg,rfl⟩
 case makeSlice t l c=>
  simp only[se,ho]at h;split at h<;>first|exact h.elim|skip
  rename_i kl l' kc c' hl hc;obtain⟨i,hi,BJ,hk⟩:=zN h;obtain⟨z,q1,q2,q3,q4⟩:=dZ hi;have el:=he.ev l;have ec:=he.ev c;rw[hl]at el;rw[hc]at ec;simp only[ac,ho,el.EB,ec.EB];refine yI (zUn q1 BJ w) ?_;have AS:(madeCells z (c'.toNat*i.sz)).toList=(ba c'.toNat z.toList).flatten:=by
   have:=WR (z:=z.toList) c'.toNat;rw[RM,show z.toList.length=i.sz by simp[q2]]at this;rw[<- this,<- ZU];rfl
  have pd:ba c'.toNat z.toList=ba l'.toNat z.toList++ba (c'.toNat-l'.toNat) z.toList:=by
   rw[List.replicate_append_replicate];congr 1;omega
  have hx:iC E.F (ba l'.toNat i.z).flatten (ba l'.toNat z.toList).flatten:=z0r (q4 E.F) _;have DA:z.toList.length=i.sz:=by simp[q2]
  have H:=R.hp.new (.cells (madeCells z (c'.toNat*i.sz)) i.e);have Ge:madeCells z (c'.toNat*i.sz)=((ba l'.toNat z.toList).flatten++(ba (c'.toNat-l'.toNat) z.toList).flatten).toArray:=by
   apply cr;rw[AS,pd,OF]
  rw[Ge]at H ⊢;have H2:=H.AP (n:=l'.toNat) (c:=c'.toNat) (sz:=i.sz) (by rw[wJ (PU DA),HL]) (by
   rw[ix,wJ (PU DA),wJ (PU DA),HL,HL,<- Ac];congr 1;omega) X_
  obtain⟨E2,t1,t2,t3⟩:=aJ (fa:=ba l'.toNat i.z) R.nx hx (PU q3) (by rw[HL];exact H2);rw[HL]at t3;exact⟨E2,_,_,t1,t2,t3,hk⟩
 case store t x v=>
  simp only[se,ho]at h;have hx:=he.ev x;split at h<;>first|exact h.elim|skip
  ·rename_i n off xa;rw[xa]at hx;simp only[VR]at hx;obtain⟨b,oo,sub,e1,e2⟩:=hx;obtain⟨Yl,h⟩:=zM h;obtain⟨lv,Eo,Sg⟩:=VR.cells Yl (he.ev v);obtain⟨E1,us,s1,xq,R1,Sg,h⟩:=V1 h R Sg;have e1:=xq.get e1;split at h<;>first|exact h.elim|skip
   rename_i vs T hg;obtain⟨m,hm,h⟩:=zN h;obtain⟨hb,hk⟩:=zM h;simp only[lu]at hb;obtain⟨⟨qk,np⟩,DC⟩:=hb;have qk:=ji qk;have np:=Cj np;obtain⟨b',l,Ez,q1,q2,q3⟩:=R1.cells hg;rw[e1]at q1;cases q1;have h1:=q2.length;have h2:=Sg.length;have lr:=gP (P:=P) (o:=0+off) hm Eo (by rw[h2,qk]) X_ (z8c DC Sg) q3;simp only[ac,ho,e2];refine vI lr ⟨E1,_,_,xq,R1.setCells hg e1 (AE:=vs.take off++(us++vs.drop (off+m))) ?_,?_,hk⟩
   ·unfold lg;rw[jd,nt,h2,qk];exact(q2.take off).append (Sg.append (q2.drop _))
   ·simp only[VR];exact⟨[],rfl,ic.nil⟩
  ·rename_i n sz i f xa;split at h
   ·rename_i xh hxh;rw[xa]at hx;simp only[VR]at hx;obtain⟨b,oo,mm,c,sub,e1,e2⟩:=hx;obtain⟨w',lr,oK⟩:=z6u R hxh h (he.ev v) e1;simp only[ac,ho,e2];exact vI lr oK
   split at h<;>first|exact h.elim|skip
   rename_i ds s' hd;split at h<;>first|exact h.elim|skip
   rename_i T oD fa hg;obtain⟨m,hm,h⟩:=zN h;obtain⟨hb,hi,hk⟩:=zM h;simp only[lu]at hb;obtain⟨⟨qk,np⟩,DC⟩:=hb;have e:=ji qk;subst e;have np:=ji np;have DC:=Cj DC;obtain⟨E',ys,q1,q2,q3,q4,q5,q6⟩:=NT R hd (he.ev v);rw[xa]at hx;simp only[VR]at hx;obtain⟨b,oo,mm,c,sub,e1,e2⟩:=hx;obtain⟨l,r1,r2,r3⟩:=q3.Na (ds:=ds) (f:=f) hg hi X_ (q1.get e1) q6;have lr:=gP (P:=P) (o:=oo+i*sz+f) hm q5 (by rw[q6.length,np]) (by rw[q6.length,np]at r2;exact r2) q6.one r1;simp only[ac,ho,e2];exact vI lr ⟨E',_,_,q1,r3,by simp only[VR];exact⟨[],rfl,ic.nil⟩,hk⟩;rename_i T fa hg;obtain⟨m,hm,h⟩:=zN h;obtain⟨hb,hi,hk⟩:=zM h;simp only[lu]at hb;obtain⟨⟨⟨qk,np⟩,DC⟩,Yq⟩:=hb;have qk:=ji qk;have np:=ji np;have DC:=ji DC;have Yq:=ji Yq;subst qk DC Yq;obtain⟨E',ys,q1,q2,q3,q4,q5,q6⟩:=NT R hd (he.ev v);rw[xa]at hx;simp only[VR]at hx;obtain⟨b,oo,mm,c,sub,e1,e2⟩:=hx;have DB:=q6.length;obtain⟨y,rfl⟩:∃y,ys=[y]:=List.length_eq_one_iff.1 X_;obtain⟨l,r1,r2,r3,r4⟩:=q3.Nb (ds:=ds) hg hi np (q1.get e1) q6;have lr:=zWh (P:=P) (o:=oo+i) hm q5 (by rw[r4];simpa using r2) (q6.one y iY) r1;simp only[ac,ho,e2];have ea:oo+i*1+0=oo+i:=X_
   rw[ea];exact vI lr ⟨E',_,_,q1,r3,by simp only[VR];exact⟨[],rfl,ic.nil⟩,hk⟩
  ·rename_i n off i xa;rw[xa]at hx;simp only[VR]at hx;obtain⟨b,oo,sub,e1,e2⟩:=hx;have Yd:=he.ev v;split at h<;>first|exact h.elim|skip
   rename_i u hu;rw[hu]at Yd;have CR:=Yd;simp only[VR,DR]at CR;obtain⟨CR,IP⟩:=CR;split at h<;>first|exact h.elim|skip
   rename_i vs T hg;obtain⟨m,hm,h⟩:=zN h;obtain⟨hb,hi,hk⟩:=zM h;have hb:=ji hb;subst hb;rw[pj]at hi;obtain⟨b',l,Ez,q1,q2,q3⟩:=R.cells hg;rw[e1]at q1;cases q1;have h1:=q2.length;have Eo:(ev ρ v).cells=[u].toArray:=by
    rw[CR];cases u<;>first|rfl|cases IP
   have lr:=gP (P:=P) (o:=0+(off+i)) hm Eo rfl X_ (by intro z hz;rw[tq.1 hz];exact IP) q3;simp only[ac,ho,e2];refine vI lr ⟨E,_,_,Ev.le.refl _,R.setCells hg e1 (AE:=vs.take off++(vs.drop off).set i (.d (.v u))) ?_,?_,hk⟩
   ·have e:vs.take off++(vs.drop off).set i (.d (.v u))=vs.take (off+i)++([.d (.v u)]++vs.drop (off+i+1)):=by
     rw[OI,fh (by rw[pj];omega),Ds,List.take_add,jd];rfl
    rw[e];unfold lg;rw[jd,nt];exact(q2.take _).append ((ic.one (by simp only[VR,DR];exact⟨Y_,IP⟩)).append (q2.drop _))
   ·simp only[VR];exact⟨[],rfl,ic.nil⟩
   rename_i vs T hg;obtain⟨m,hm,h⟩:=zN h;obtain⟨hb,hi,hk⟩:=zM h;have hb:=ji hb;subst hb;rw[pj]at hi;obtain⟨b',l,Ez,q1,q2,q3⟩:=R.vec hg;rw[e1]at q1;cases q1;have h1:=q2.length;have Eo:(ev ρ v).cells=[u].toArray:=by
    rw[CR];cases u<;>first|rfl|cases IP
   have lr:=gP (P:=P) (o:=0+(off+i)) hm Eo rfl X_ (by intro z hz;rw[tq.1 hz];exact IP) q3;simp only[ac,ho,e2];refine vI lr ⟨E,_,_,Ev.le.refl _,R.M9 hg e1 (DH:=vs.take off++(vs.drop off).set i (.v u)) ?_,?_,hk⟩
   ·have e:vs.take off++(vs.drop off).set i (.v u)=vs.take (off+i)++([.v u]++vs.drop (off+i+1)):=by
     rw[OI,fh (by rw[pj];omega),Ds,List.take_add,jd];rfl
    rw[e];unfold lg;rw[jd,nt];exact(q2.take _).append ((show iC E.F [.v u] [u]from(by simp only[iC,DR];exact⟨_,_,rfl,⟨rfl,IP⟩,rfl⟩)).append (q2.drop _))
   ·simp only[VR];exact⟨[],rfl,ic.nil⟩
 case convert st d x=>
  simp only[se,ho]at h;split at h<;>first|exact h.elim|skip
  ·rename_i b hx;obtain⟨hb,h⟩:=zM h;obtain⟨e,rp,hk⟩:=zN h;obtain⟨u1,u2⟩:=zZm rp;have hv:=he.ev x;rw[hx]at hv;simp only[VR,DR]at hv;simp only[ac,ho,hv.1];have jq:=Lib.run_convert_string_bytes (P:=P) w st d e b (pU hb) u1 u2;refine yI jq ?_;exact yDp R b e hk
  ·rename_i n hx;split at h<;>first|exact h.elim|skip
   rename_i T sz fa hg;obtain⟨hb,h⟩:=zM h;simp only[lu]at hb;have lr:=ji hb.1;have pn:=ji hb.2;obtain⟨e,rp,h2⟩:=zN h;obtain⟨hTb,xp,hk⟩:=zM h2;have hT:=ji hTb;subst lr pn hT;obtain⟨u1,u2⟩:=zZm rp;have hv:=he.ev x;rw[hx]at hv;simp only[VR]at hv;obtain⟨l0,e1,a0,m0,c0,e2⟩:=hv;obtain⟨a,c,xs,sub,q1,q2,q3,H⟩:=R.tb hg;rw[q1]at e1;rcases H.oG with⟨_,h0,_⟩|⟨b,r,rfl,r1,r2,r3,H1⟩
   ·omega
   have jq:=yRs (P:=P) (w:=w) (b:=b) (l:=xs++r) (T:=T) (t:=st) H1.get u1 u2 fa.length c;have H2:=H1.zj (.cells (xs++r).toArray T ((xs++r).length,(xs++r).length+1));have H3:Hp k (World.ja w b (.cells (xs++r).toArray T ((xs++r).length,(xs++r).length+1))) (pt b (.cells (xs++r).toArray T ((xs++r).length,(xs++r).length+1))::fz E.F::((uG n s.rows).map (ie E)++L)):=H2.cons mu;obtain⟨y,hy,hd,jb,H4⟩:=z2f H3;have hle:E.le ⟨un y E.F,E.gl⟩:=⟨yCu hd,Ka _⟩
   have H5:=vD (λr x=>ie.mono hle r) (H4.perm (mu (l₁:=(uG n s.rows).map (ie E)) (l₂:=L) (a:=fz (un y E.F))).symm);have H6:Hp k (World.ja w b (.cells (xs++r).toArray T ((xs++r).length,(xs++r).length+1))) (ie ⟨un y E.F,E.gl⟩ (n,.kr 1 fa)::((uG n s.rows).map (ie ⟨un y E.F,E.gl⟩)++fz (un y E.F)::L)):=by
    have:=(@gD k _ True _).2 ⟨Y_,H5⟩;refine this.imp λz hz=> .inr ⟨_,q1,?_⟩
    simp only[fw];refine⟨hz.2,?_⟩;simp only[DR];refine⟨_,c,rfl,r3,q3,.inr ⟨b,0,xs++r,T,((xs++r).length,(xs++r).length+1),rfl,?_,oX.2 ⟨xs,r,rfl,q2.mono hle.1⟩⟩⟩;rw[show y=one b _ from hy];simp[un,one]
   have R2:Rel k L ⟨un y E.F,E.gl⟩ (s.set n (.kr 1 fa)) (World.ja w b (.cells (xs++r).toArray T ((xs++r).length,(xs++r).length+1))):=by
    refine⟨by simpa[St.set]using R.nx,H6.perm ?_⟩;have:=(((uH hg).2 (.kr 1 fa)).map (ie ⟨un y E.F,E.gl⟩)).append_right (fz (un y E.F)::L);simpa[St.set]using this.symm
   have e3:ev ρ x= .slice (au ⟨b,0,av⟩) fa.length c:=(congrArg Prod.fst (cm e1)).symm;simp only[ac,ho];rw[e3];exact yI jq ⟨_,_,_,hle,R2,by simp only[VR];exact⟨_,q1,_,_,_,rfl⟩,hk⟩
 case slice t x lo hi mx=>
  cases mx with
  |some m=>simp only[se,ho]at h
  |none=>
   obtain⟨y,hf,yj⟩:=z3u R he ho h;exact wX (hf w) yj
 case mapUpdate t x i v=>
  simp only[se,ho]at h;split at h<;>first|exact h.elim|skip
  rename_i n hx;obtain⟨ke,Co,h⟩:=zN h;obtain⟨kv,IX,h⟩:=zN h;obtain⟨hb,h⟩:=zM h;simp only[lu]at hb;split at h<;>first|exact h.elim|skip
  rename_i ds s1 hd;split at h<;>first|exact h.elim|skip
  rename_i es hg;obtain⟨Cq,hk⟩:=h;obtain⟨E1,ys,q1,q2,q3,q4,q5,q6⟩:=NT R hd (he.ev v);have FW:=he.ev x;rw[hx]at FW;simp only[VR]at FW;obtain⟨bm,sub,e1,e2⟩:=FW;have e1:=q1.get e1;rw[e2]at e1;obtain⟨fy,ck,r1,r2,rb,r3⟩:=q3.GD (DG:=gU kv ds es) hg e1;have hi:ev ρ i=kv:=LH IX (he.ev i);obtain⟨kd,hu,zn⟩:=V7 hb.1;have zr:=z5k hb.2 (he.ev v) q5;have run:∃iS tu,MR E1.F (gU kv ds es) iS/\uO iS tu/\(Instr.mapUpdate t (.map (au bm)) kv (ev ρ v)).run P w= .ok () (World.ja w bm (.map iS.toArray tu)):=by
   rcases Oc zn 0 r1 Cq with⟨t1,t2,t3,t4,_⟩|⟨q,m,DH,Ee,t1,t2,t3,t4,t5,t6,t7,t8,_⟩
   ·refine⟨fy++[{key:=kv,val:=ev ρ v,born:=ck}],ck+1,by rw[t3];exact YS q6 (e:={key:=kv,val:=ev ρ v,born:=ck}) rfl zr r1,zZp rb rfl,?_⟩;simp only[Instr.mapUpdate,bind,run_bind,Cv.run_underlying (gE Co),kA r2 Y_,pure,ct,wR hu zn,vV hu t1];rw[uX r2 trivial];simp
   ·refine⟨fy.set q {m with key:=kv,val:=ev ρ v},ck,t7 _ _ _ q6 rfl zr,ZT rb t2 rfl,?_⟩;have hq:(fy.toArray[0+q]?).map (·.key)=au kv:=by simp[t2,t3]
    simp only[Instr.mapUpdate,bind,run_bind,Cv.run_underlying (gE Co),kA r2 Y_,pure,ct,wR hu zn,vV hu t1,hq,Ae,Instr.keyThatStays,zIq zn,if_true];rw[uX r2 trivial];congr 4;rw[List.modify_toArray];congr 1;rw[nt,List.modify_eq_set,t2];rfl
  obtain⟨iS,tu,u1,ub,u2⟩:=run;simp only[ac,ho,e2,hi];exact vI u2 ⟨E1,.je [],_,q1,r3 iS tu u1 ub,by simp only[VR];exact⟨[],rfl,ic.nil⟩,hk⟩
 case mapEntry t x i=>
  simp only[se,ho]at h;split at h<;>first|exact h.elim|skip
  rename_i n hx;obtain⟨ke,Co,h⟩:=zN h;obtain⟨kv,IX,h⟩:=zN h;obtain⟨Sz,h⟩:=zM h;obtain⟨z,hz,h⟩:=zN h;split at h<;>first|exact h.elim|skip
  rename_i es hg;obtain⟨Cq,b,h⟩:=h;obtain⟨ds,h⟩:=pT h;obtain⟨Sw,h⟩:=h;obtain⟨v,hm,hk⟩:=zN h;have FW:=he.ev x;rw[hx]at FW;simp only[VR]at FW;obtain⟨bm,sub,e1,e2⟩:=FW;rw[e2]at e1;obtain⟨fy,ck,r1,r2,rb,r3⟩:=R.Jo (DG:=gU kv ds es) (kv:=kv) hg e1;have hi:ev ρ i=kv:=LH IX (he.ev i);obtain⟨kd,hu,zn⟩:=V7 Sz;have run:∃iS tu y born,MR E.F (gU kv ds es) iS/\uO iS tu/\Vm iS kv born/\VR E v y/\(Instr.mapEntry t (.map (au bm)) kv).run P w= .ok (.tuple #[y,.int .i64 born]) (World.ja w bm (.map iS.toArray tu)):=by
   rcases Oc zn 0 r1 Cq with⟨t1,t2,t3,t4,t5⟩|⟨q,m,DH,Ee,t1,t2,t3,t4,t5,t6,t7,t8,t9⟩
   ·rcases Sw with⟨l1,l2⟩|⟨l1,l2,l3⟩
    ·rw[t2]at l1;cases l1
    ·subst l2 l3;obtain⟨zv,ys,z1,z2,z3⟩:=yKh (F:=E.F) hz hm;refine⟨fy++[{key:=kv,val:=zv,born:=ck}],ck+1,zv,ck,by rw[t3];exact YS z2 (e:={key:=kv,val:=zv,born:=ck}) rfl z3 r1,zZp rb rfl,⟨kd,zn,fy.length,_,by have:=t5 {key:=kv,val:=zv,born:=ck} rfl;rwa [nt]at this,by simp,rfl⟩,by rw[z3];exact z0p hm z2,?_⟩;simp only[Instr.mapEntry,bind,run_bind,Cv.run_underlying (gE Co),kA r2 Y_,pure,ct,wR hu zn,vV hu t1,mg (c8 z1)];rw[uX r2 trivial];simp[goInt]
   ·rcases Sw with⟨l1,l2⟩|⟨l1,l2,l3⟩
    ·rw[t4]at l1;cases l1;refine⟨fy.set q {m with key:=kv},ck,m.val,m.born,t7 _ _ _ t5 rfl t6,ZT rb t2 rfl,⟨kd,zn,q,{m with key:=kv},by have:=t9 {m with key:=kv} rfl;rwa [nt]at this,by
      rw[List.getElem?_set_self (jk.1 t2).1],rfl⟩,by rw[t6];exact z0p hm t5,?_⟩
     have hq:(fy.toArray[0+q]?).map (·.key)=au kv:=by simp[t2,t3]
     have Sn:((fy.toArray[0+q]?).map λx=>((x.born:Nat):Int))=au (m.born:Int):=by simp[t2]
     simp only[Instr.mapEntry,bind,run_bind,Cv.run_underlying (gE Co),kA r2 Y_,pure,ct,wR hu zn,vV hu t1,hq,Sn,Ae,Instr.keyThatStays,zIq zn,if_true];rw[uX r2 trivial];simp only[goInt,Sn,Ae];congr 3;rw[List.modify_toArray];congr 1;rw[nt,List.modify_eq_set,t2];rfl
    ·rw[t4]at l1;cases l1
  obtain⟨iS,tu,y,born,u1,ub,us,uy,u2⟩:=run;simp only[ac,ho,e2,hi];exact yI u2 ⟨E,.je [v,.d (.v (.int .i64 born))],_,Ev.le.refl _,r3 iS tu born u1 ub us,by simp only[VR,ic,DR];exact⟨_,rfl,_,_,rfl,uy,_,_,rfl,⟨rfl,rfl⟩,rfl⟩,hk born⟩
 case entryStore t x st v=>
  simp only[se,ho]at h;split at h<;>first|exact h.elim|skip
  rename_i n hx;split at h<;>first|exact h.elim|skip
  rename_i ik b lr;obtain⟨ke,Co,h⟩:=zN h;obtain⟨hb,h⟩:=zM h;split at h<;>first|exact h.elim|skip
  rename_i ds s1 hd;split at h<;>first|exact h.elim|skip
  rename_i es kv b' hg;obtain⟨rfl,Cq,hk⟩:=h;obtain⟨E1,ys,q1,q2,q3,q4,q5,q6⟩:=NT R hd (he.ev v);have FW:=he.ev x;rw[hx]at FW;simp only[VR]at FW;obtain⟨bm,sub,e1,e2⟩:=FW;have e1:=q1.get e1;rw[e2]at e1;have hsv:=he.ev st;rw[lr]at hsv;simp only[VR,DR]at hsv;obtain⟨fy,ck,r1,r2,rb,⟨kd,zn,q,m,u1,u2,u3⟩,r3⟩:=q3.Jn (DG:=gU kv ds es) hg e1;have zr:=z5k hb (he.ev v) q5;rcases Oc zn 0 r1 Cq with⟨t1,t2,t3,t4,t5⟩|⟨q',m',DH,Ee,t1,t2,t3,t4,t5,t6,t7,t8,t9⟩
  ·rw[t1]at u1;cases u1
  ·rw[t1]at u1;simp only[cg,Prod.mk.injEq,nt]at u1;obtain⟨rfl,_⟩:=u1;rw[t2]at u2;cases u2;have F4:=yKs rb.1 t2;have run:(Instr.entryStore t (.map (au bm)) (ev ρ st) (ev ρ v)).run P w= .ok () (World.ja w bm (.map (fy.set q' {m with val:=ev ρ v}).toArray ck)):=by
    rw[hsv.1,<- u3];have hfa:fy.toArray.findIdx? (λe=>((e.born:Nat):Int)==((m.born:Nat):Int))=au q':=i9 F4
    simp only[Instr.entryStore,bind,run_bind,kA r2 Y_,pure,ct,asInt,asIntOf,hfa];rw[uX r2 trivial];congr 2;rw[List.modify_toArray];congr 1;rw[List.modify_eq_set,t2];rfl
   simp only[ac,ho,e2];exact vI run ⟨E1,.je [],_,q1,r3 _ ck (t7 _ _ _ q6 t3 zr) (ZT rb t2 rfl),by simp only[VR];exact⟨[],rfl,ic.nil⟩,hk⟩
 case range t x=>
  simp only[se,ho]at h;split at h<;>first|exact h.elim|skip
  rename_i b hx;obtain⟨hs,hk⟩:=zM h;have hv:=he.ev x;rw[hx]at hv;simp only[VR,DR]at hv;simp only[ac,ho,hv.1];refine yI (v:= .pointer (au ⟨w.heap.size,0,av⟩)) (w':=w.alloc (.stringIter b 0)) ?_ ?_
  ·simp only[Instr.range,bind,pure,run_bind,cu,Cv.run_underlying (pU hs)];rfl
  ·refine VD (hd:=(.pointer (au ⟨w.heap.size,0,av⟩),[])) R ?_ (λhg=> ?_) hk
   ·simp only[fw];exact⟨_,rfl,rfl⟩
   ·simp only[VR];exact⟨_,0,_,hg,rfl⟩
 case next x isS=>
  cases isS with
  |false=>simp only[se,ho]at h
  |true=>
   simp only[se,ho]at h;split at h<;>first|exact h.elim|skip
   rename_i n hx;split at h<;>first|exact h.elim|skip
   rename_i b pos hg;have hv:=he.ev x;rw[hx]at hv;simp only[VR]at hv;obtain⟨bb,oo,sub,e1,e2⟩:=hv;obtain⟨hd,hh,e3,e4,_⟩:=R.row hg (by simp);rw[e1]at e3;cases e3;simp only[fw]at e4;obtain⟨b2,e4,_⟩:=e4;cases e4;have hS:=λpos'=>R.setIter (pos':=pos') hg e1
   have kq:=(hS 0).1;simp only[ac,ho,e2];rcases yJe h with⟨hb,hk⟩|⟨hb,hk⟩
   ·have gr:pos<b.size:=by simpa[yx]using hb
    refine yI (v:= .tuple #[.bool bv,.int .i64 (pos:Nat),.int .i32 (Utf8.decode b pos).1]) (w':=World.ja w bb (.stringIter b (pos+(Utf8.decode b pos).2))) ?_
     ⟨E,_,_,Ev.le.refl _,(hS _).2,?_,hk⟩
    ·simp only[Instr.next,bind,pure,run_bind,cu,ct,kA kq Y_,fh gr,uX kq trivial];rfl
    ·simp only[VR,ic,DR];exact⟨_,rfl,_,_,rfl,⟨rfl,rfl⟩,_,_,rfl,⟨rfl,rfl⟩,_,_,rfl,⟨rfl,rfl⟩,rfl⟩
   ·have gr:¬pos<b.size:=by
     intro h';have:ax pos b.size=bv:=by rw[yx];exact h'
     rw[this]at hb;cases hb
    refine yI (v:= .tuple #[.bool bz]) (w':=w) ?_ ⟨E,_,_,Ev.le.refl _,R,?_,hk⟩
    ·simp only[Instr.next,bind,pure,run_bind,cu,ct,kA kq Y_,eg gr]
    ·simp only[VR,ic,DR];exact⟨_,rfl,_,_,rfl,⟨rfl,rfl⟩,rfl⟩
 case call c=>
  simp only[se,ho]at h;split at h<;>first|exact h.elim|skip
  ·rename_i x hc;split at h<;>first|exact h.elim|skip
   rename_i f a b hx;have hv:=he.ev x;rw[hx]at hv;simp only[VR]at hv;obtain⟨as,bs,e1,e2,e3⟩:=hv;obtain⟨ys,e4,e5⟩:=mD he c.args;have jq:(ac (ev ρ) o)=ag f (as++(ys++bs)).toArray:=by
    have tx:ac (ev ρ) o=(resolve (ev ρ) c o.type).bind λd=>invoke d.target d.args:=by
     simp only[ac,ho];rfl
    rw[tx];unfold resolve;rw[hc];simp only[e1,Deferred.ofValue,pure,cu,invoke,e4];congr 1;apply cr;simp
   rw[jq];exact z6w hH R h (e2.append (e5.append e3))
  ·rename_i hc;split at h<;>first|exact h.elim|skip
   rename_i t1 t2 hts;split at h<;>first|exact h.elim|skip
   rename_i x y oc;obtain⟨ys,e1,e2⟩:=mD he c.args;rw[oc]at e2;simp only[ic]at e2;obtain⟨xr,_,rfl,hx,yr,_,rfl,hy,rfl⟩:=e2;have ht:c.argTypes= #[t1,t2]:=by apply cr;simpa using hts
   rw[wF ho hc,e1,ht];cases Kp:yUt s y with
   |false=>
    rw[Kp]at h;obtain⟨v,w',hr,yj⟩:=zWf (rt:=o.type) R hx hy h;exact yI hr yj
   |true=>
    rw[Kp]at h;obtain⟨v,w',hr,yj⟩:=zTn (rt:=o.type) R hx hy h;exact yI hr yj
  ·rename_i hc;split at h<;>first|exact h.elim|skip
   rename_i n y oc;obtain⟨t,ht,h⟩:=zN h;obtain⟨ke,Co,h⟩:=zN h;obtain⟨kv,IX,h⟩:=zN h;obtain⟨Sz,h⟩:=zM h;split at h<;>first|exact h.elim|skip
   rename_i es hg;obtain⟨Cq,hk⟩:=h;obtain⟨ys,e1,e2⟩:=mD he c.args;rw[oc]at e2;simp only[ic,VR]at e2;obtain⟨mv,_,rfl,⟨bm,sub,e3,rfl⟩,yv,_,rfl,hy,rfl⟩:=e2;obtain rfl:=LH IX hy;obtain⟨fy,ck,r1,r2,rb,r3⟩:=R.GD (DG:=CI yv es) hg e3;obtain⟨kd,hu,zn⟩:=V7 Sz;have run:∃iS tu,MR E.F (CI yv es) iS/\uO iS tu/\(Builtin.delete_ c.argTypes o.type #[.map (au bm),yv]).run P w= .ok (.tuple #[]) (World.ja w bm (.map iS.toArray tu)):=by
    rcases Oc zn 0 r1 Cq with⟨t1,t2,t3,t4,_⟩|⟨q,m,DH,Ee,t1,t2,t3,t4,t5,t6,t7,t8,_⟩
    ·refine⟨fy,ck,by rw[t4];exact r1,rb,?_⟩;simp only[Builtin.delete_,ht,Bj,CM,Bk,bind,run_bind,Cv.run_underlying (gE Co),kA r2 Y_,pure,ct,wR hu zn,vV hu t1];rw[uX r2 trivial]
    ·refine⟨fy.eraseIdx q,ck,t8,yDh rb,?_⟩;simp only[Builtin.delete_,ht,Bj,CM,Bk,bind,run_bind,Cv.run_underlying (gE Co),kA r2 Y_,pure,ct,wR hu zn,vV hu t1];rw[uX r2 trivial];simp
   obtain⟨iS,tu,u1,ub,u2⟩:=run;rw[wF ho hc,e1];exact yI u2 ⟨E,.je [],_,Ev.le.refl _,r3 iS tu u1 ub,by simp only[VR];exact⟨[],rfl,ic.nil⟩,hk⟩
 all_goals(simp only[se,ho]at h)
def zIy {n c:Nat} {x:fq} (h:aw n c=bz):∀{l:List (Nat×fq)},sN n (rR c x l)=sN n l
 |[]=>rfl
 |(m,o)::l=>by
  simp only[rR];cases hb:aw m c
  ·simp only[cond_false,sN];cases hm:aw m n
   ·simp only[cond_false];exact zIy h
   ·rfl
  ·have:=ji hb;subst this;have h':aw m n=bz:=by
    cases hm:aw m n
    ·rfl
    ·have:=ji hm;subst this;rw[Nat.beq_refl]at h;cases h
   simp only[cond_true,sN,h',cond_false]
def mB {n:Nat} {x:fq}:∀{l:List (Nat×fq)},sN n l≠av->sN n (rR n x l)=au x
 |[],h=>absurd rfl h
 |(m,o)::l,h=>by
  simp only[sN,rR]at h ⊢;cases hb:aw m n
  ·rw[hb]at h;simp only[sN,hb,cond_false]at h ⊢;exact mB h
  ·simp only[sN,hb,cond_true]
def zXe {n:Nat} {x y:fq}:∀{l:List (Nat×fq)},rR n y (rR n x l)=rR n y l
 |[]=>rfl
 |(m,o)::l=>by
  simp only[rR];cases hb:aw m n
  ·simp only[cond_false,rR,hb];rw[zXe]
  ·simp only[cond_true,rR,hb]
def y0z {l:List aa} {o:Nat} {y:aa} (h:o<l.length):lg l o [y]=l.set o y:=by
 unfold lg;rw[OI,fh h];simp
def Rel.Hq {k:Ko} {L:List HP} {w:ab} {E:Ev} {s:St} (R:Rel k L E s w) {q:Bool} {n c T sz i f t2 vx:Nat} {fa lv:Q_ D} (hg:s.get n=au (.uq q T sz fa i f bv (au c))) (hc:s.get c=au (.own t2 vx lv)) (jy:aw n c=bz) (hi:i<fa.length) (hf:f<sz) {y:aa} (hv:VR E (.own n) y):
 ∃E',E.le E'/\E'.gl=E.gl/\Rel k L E' ((s.set c (.kr vx lv)).set n (.kr sz (zJ fa i f [.ro vx lv]))) w/\DR E'.F (.ro sz (zJ fa i f [.ro vx lv])) y:=by
 obtain⟨E1,q1,q2,R1⟩:=R.freeze hc;have g1:(s.set c (.kr vx lv)).get n=au (.uq q T sz fa i f bv (au c)):=by
  simp only[St.get,St.set]at hg ⊢;rw[zIy jy,hg]
 have g2:(s.set c (.kr vx lv)).get c=au (.kr vx lv):=by
  simp only[St.get,St.set]at hc ⊢;exact mB (by rw[hc];simp)
 obtain⟨hdc,xc,c1,c2,_⟩:=R1.row g2 (by simp);simp only[fw]at c2;have R2:Rel k L E1 ((s.set c (.kr vx lv)).set n (.own T sz (zJ fa i f [.ro vx lv]))) w:=by
  refine R1.oh g1 ((R1.focus g1).imp λx hx=> ?_);rcases hx with⟨e,_⟩|⟨hd,h1,h2⟩
  ·cases e
  refine .inr ⟨hd,h1,?_⟩;simp only[fw]at h2 ⊢;obtain⟨a,kk,ys,xs,e1,e2,e3,⟨z,l,e4,e5,e6⟩,e7⟩:=h2;rw[c1]at e4;cases e4;obtain⟨f1,f2⟩:=mY i f [.ro vx lv] e3 hi (by simp only[iG,uj];omega);have hlen:(zJ fa i f [.ro vx lv]).length=fa.length:=by simp[zJ]
  have DB:ys.length=fa.length*sz:=by rw[e2.length,wJ e3]
  have xd:i*sz+sz<=fa.length*sz:=by
   have:=xv sz (show i+1<=fa.length by omega);rwa [Ad]at this
  refine⟨a,kk,xs,by rw[hlen];exact e1,?_,f2,by rw[hlen];exact e7⟩;rw[f1,e6,cond_true,<- y0z X_];exact PK e2 (by simp only[iC];exact⟨_,_,rfl,c2.2,rfl⟩) _
 have g3:((s.set c (.kr vx lv)).set n (.own T sz (zJ fa i f [.ro vx lv]))).get n=au (.own T sz (zJ fa i f [.ro vx lv])):=by
  simp only[St.get,St.set]at g1 ⊢;exact mB (by rw[g1];simp)
 obtain⟨E2,r1,r2,R3⟩:=R2.freeze g3;have e:((s.set c (.kr vx lv)).set n (.own T sz (zJ fa i f [.ro vx lv]))).set n (.kr sz (zJ fa i f [.ro vx lv]))=(s.set c (.kr vx lv)).set n (.kr sz (zJ fa i f [.ro vx lv])):=by
  simp only[St.set,zXe]
 rw[e]at R3;have g4:((s.set c (.kr vx lv)).set n (.kr sz (zJ fa i f [.ro vx lv]))).get n=au (.kr sz (zJ fa i f [.ro vx lv])):=by
  simp only[St.get,St.set]at g1 ⊢;exact mB (by rw[g1];simp)
 obtain⟨hdn,xn,n1,n2,_⟩:=R3.row g4 (by simp);simp only[fw]at n2;simp only[VR]at hv;obtain⟨l,v1,_⟩:=hv;rw[r2,q2,v1]at n1;cases n1;exact⟨E2,q1.trans r1,r2.trans q2,R3,n2.2⟩
@[reducible] def NM:=List (Nat×Nat)
def yD (p:Nat):NM->Option Nat
 |[]=>av
 |(q,n)::l=>bif aw q p then au n else yD p l
def X5:aa->aa->Prop
 | .int k a,.int k' b=>bif xm k k' then a=b else False
 | .bool a,.bool b=>a=b
 | .string a,.string b=>a=b
 | .pointer av,.pointer av=>True
 | .slice av 0 0,.slice av 0 0=>True
 | .map av,.map av=>True
 | .nilFunc,.nilFunc=>True
 | .nilIface,.nilIface=>True
 |_,_=>False
def yVo {x y:aa} (h:X5 x y):x=y:=by
 unfold X5 at h;split at h<;>first|exact h.elim|rfl|(subst h;rfl)|skip
 obtain⟨hk,rfl⟩:=zM h;rw[zZl hk]
def dEq:D->D->Prop
 | .v x,.v y=>X5 x y
 | .ro sz fa,.ro oD lq=>bif aw sz oD then fa=lq else False
 | .ro _ fa,.v (.slice av 0 0)=>fa=[]
 |_,_=>False
def y6l {F:PH} {p q:D} {y:aa} (h:dEq p q) (hq:DR F q y):DR F p y:=by
 unfold dEq at h;split at h<;>first|exact h.elim|skip
 ·rw[yVo h];exact hq
 ·obtain⟨hb,rfl⟩:=zM h;rw[ji hb];exact hq
 ·subst h;simp only[DR]at hq ⊢;exact⟨av,0,hq.1,jx _,by simp,.inl Y_⟩
def Lu (p n:Nat) (π:NM) (K:NM->Prop):Prop:=
 match yD p π with
 |some m=>bif aw m n then K π else False
 |none=>K ((p,n)::π)
mutual
def Cm:V->V->NM->St->(NM->St->Prop)->Prop
 | .top,_,π,s,K=>K π s
 | .d p,a,π,s,K=>match a with
   | .d q=>dEq p q/\K π s
   | .own n=>match p with
     | .ro sz fa=>match s.get n with
       |some (.own _ oD lq)=>bif aw sz oD then fa=lq/\K π (s.set n (.kr oD lq))else False
       |some (.kr oD lq)=>bif aw sz oD then fa=lq/\K π s else False
       |some (.uq bv T oD lq i f b (au c))=>match s.get c with
        |some (.own _ vx lv)=>bif aw sz oD && !(aw n c)then(b=bv/\i<lq.length/\f<sz/\fa=zJ lq i f [.ro vx lv])/\K π ((s.set c (.kr vx lv)).set n (.kr oD fa))else False
        |_=>False
       |_=>False
     |_=>False
   |_=>False
 | .nm p o,a,π,s,K=>match a with
   | .nm n o'=>bif aw o o' then Lu p n π λπ=>K π s else False
   |_=>False
 | .el p sz i f,a,π,s,K=>match a with
   | .el n oD i' f'=>bif aw sz oD && aw f f' then i=i'/\Lu p n π λπ=>K π s else False
   |_=>False
 | .own p,a,π,s,K=>match a with
   | .own n=>Lu p n π λπ=>K π s
   | .d (.v (.slice av 0 0))=>match yD p π with
     |none=>K ((p,s.nx)::π) (s.new .AR)
     |some _=>False
   |_=>False
 | .mp p,a,π,s,K=>match a with
   | .mp n=>Lu p n π λπ=>K π s
   |_=>False
 | .agg l,a,π,s,K=>match a with
   | .agg l'=>El l l' π s K
   |_=>False
 | .je l,a,π,s,K=>match a with
   | .je l'=>El l l' π s K
   |_=>False
 | .fn f x y,a,π,s,K=>match a with
   | .fn f' x' y'=>bif aw f f' then El x x' π s λπ s=>El y y' π s K else False
   |_=>False
 | .Ai t x,a,π,s,K=>match a with
   | .Ai t' x'=>bif aw t t' then Cm x x' π s K else False
   |_=>False
 |_,_,_,_,_=>False
def El:List V->List V->NM->St->(NM->St->Prop)->Prop
 |[],l,π,s,K=>match l with
  |[]=>K π s
  |_=>False
 |v::vs,l,π,s,K=>match l with
  |u::us=>Cm v u π s λπ s=>El vs us π s K
  |[]=>False
end
def Loc (π:NM) (gl tl:List Hd):Prop:=∀p n,yD p π=au n->∃hd,gl[n]?=au hd/\tl[p]?=au hd
def Ext (π π':NM):Prop:=∀p n,yD p π=au n->yD p π'=au n
def AM (π:NM) (gl:List Hd):Prop:=∀p n,yD p π=au n->∃hd,gl[n]?=au hd
def Ext.refl (π:NM):Ext π π:=λ_ _ h=>h
def Ext.trans {a b c:NM} (h:Ext a b) (h':Ext b c):Ext a c:=λp n e=>h' p n (h p n e)
def AM.mono {π:NM} {E E':Ev} (h:AM π E.gl) (hle:E.le E'):AM π E'.gl:=λp n e=>let⟨hd,q⟩:=h p n e;⟨hd,hle.get q⟩
def PV (E:Ev) (π:NM) (v:V) (y:aa):Prop:=∀E2 π2,E.le E2->Ext π π2->∀tl,Loc π2 E2.gl tl->VR ⟨E2.F,tl⟩ v y
def YK (E:Ev) (π:NM) (v:List V) (y:List aa):Prop:=∀E2 π2,E.le E2->Ext π π2->∀tl,Loc π2 E2.gl tl->ic ⟨E2.F,tl⟩ v y
def PV.mono {E E':Ev} {π π':NM} {v:V} {y:aa} (h:PV E π v y) (hle:E.le E') (hx:Ext π π'):PV E' π' v y:=λE2 π2 a b tl c=>h E2 π2 (hle.trans a) (hx.trans b) tl c
def YK.mono {E E':Ev} {π π':NM} {v:List V} {y:List aa} (h:YK E π v y) (hle:E.le E') (hx:Ext π π'):YK E' π' v y:=λE2 π2 a b tl c=>h E2 π2 (hle.trans a) (hx.trans b) tl c
def sH {p n:Nat} {π:NM} {gl:List Hd} {K:NM->Prop} (h:Lu p n π K) (hw:AM π gl) {hd:Hd} (hn:gl[n]? =au hd):∃π',Ext π π'/\AM π' gl/\yD p π'=au n/\K π':=by
 unfold Lu at h;split at h
 ·rename_i m hm;obtain⟨hb,hk⟩:=zM h;have:=ji hb;subst this;exact⟨π,Ext.refl _,hw,hm,hk⟩
 ·rename_i hm;refine⟨_,λq m e=> ?_,λq m e=> ?_,by simp[yD],h⟩
  ·simp only[yD];cases hb:aw p q
   ·exact e
   ·have:=ji hb;subst this;rw[hm]at e;cases e
  ·simp only[yD]at e;cases hb:aw p q
   ·rw[hb]at e;exact hw q m e
   ·rw[hb]at e;cases e;exact⟨hd,hn⟩
variable {k:Ko} {L:List HP} {w:ab}
structure xu (k:Ko) (L:List HP) (w:ab) (E:Ev) (π:NM) (E':Ev) (π':NM) (s':St):Prop where
 le:E.le E'
 ext:Ext π π'
 wf:AM π' E'.gl
 rel:Rel k L E' s' w
def xu.trans {E E1 E2:Ev} {π π1 π2:NM} {s1 s2:St} {L1 L2:List HP} (a:xu k L1 w E π E1 π1 s1) (b:xu k L2 w E1 π1 E2 π2 s2):xu k L2 w E π E2 π2 s2:=⟨a.le.trans b.le,a.ext.trans b.ext,b.wf,b.rel⟩
def Rel.GK {E:Ev} {s:St} (R:Rel k L E s w):∃E',E.le E'/\Rel k L E' (s.new .AR) w/\E'.gl[s.nx]? =au (.slice av 0 0,[]):=by
 have hle:E.le ⟨E.F,E.gl++[(.slice av 0 0,[])]⟩:=Ev.le.app _;have kq:(E.gl++[((.slice av 0 0,[]):Hd)])[s.nx]? =au (.slice av 0 0,[]):=by rw[<- R.nx];simp
 refine⟨_,hle,⟨by simp[St.new,R.nx],?_⟩,kq⟩;have H2:=vD (λr x=>ie.mono hle r) R.hp;have:=(@gD k w True _).2 ⟨Y_,H2⟩;exact this.imp λx hx=> .inr ⟨_,kq,by simp only[fw];exact⟨hx.2,Y_,Y_⟩⟩
mutual
theorem yBc:∀{v a:V} {π:NM} {s:St} {K:NM->St->Prop} {E:Ev} {y:aa},Cm v a π s K->Rel k L E s w->AM π E.gl->VR E a y->∃E' π' s',xu k L w E π E' π' s'/\PV E' π' v y/\K π' s'
 | .top,a,π,s,K,E,y,h,R,hw,hv=>by
   simp only[Cm]at h;exact⟨E,π,s,⟨Ev.le.refl _,Ext.refl _,hw,R⟩,λ_ _ _ _ _ _=>by simp only[VR],h⟩
 | .d p,a,π,s,K,E,y,h,R,hw,hv=>by
   simp only[Cm]at h;split at h<;>first|exact h.elim|skip
   ·rename_i q;obtain⟨h1,h⟩:=h;simp only[VR]at hv;exact⟨E,π,s,⟨Ev.le.refl _,Ext.refl _,hw,R⟩,λE2 _ a _ _ _=>by simp only[VR];exact(y6l h1 hv).mono a.1,h⟩
   ·rename_i n;split at h<;>first|exact h.elim|skip
    rename_i sz fa;split at h<;>first|exact h.elim|skip
    ·rename_i t oD lq hg;obtain⟨hb,rfl,hk⟩:=zM h;have e:=ji hb;subst e;obtain⟨E',q1,q2,q3,q4,q5⟩:=PX R (v:= .own n) (d:= .ro sz fa) (s':=s.set n (.kr sz fa)) (by simp only[L0,hg]) hv;exact⟨E',π,_,⟨q1,Ext.refl _,by rw[q2];exact hw,q3⟩,λE2 _ a _ _ _=>by simp only[VR];exact q5.mono a.1,hk⟩
    ·rename_i oD lq hg;obtain⟨hb,rfl,hk⟩:=zM h;have e:=ji hb;subst e;obtain⟨E',q1,q2,q3,q4,q5⟩:=PX R (v:= .own n) (d:= .ro sz fa) (s':=s) (by simp only[L0,hg]) hv;exact⟨E',π,_,⟨q1,Ext.refl _,by rw[q2];exact hw,q3⟩,λE2 _ a _ _ _=>by simp only[VR];exact q5.mono a.1,hk⟩
    ·rename_i T oD lq i f b c hg;split at h<;>first|exact h.elim|skip
     rename_i t2 vx lv AI;obtain⟨hb,⟨rfl,hi,hf,rfl⟩,hk⟩:=zM h;simp only[lu,Dv]at hb;have e:=ji hb.1;subst e;obtain⟨E',q1,q2,q3,q4⟩:=R.Hq hg AI hb.2 hi hf hv;exact⟨E',π,_,⟨q1,Ext.refl _,by rw[q2];exact hw,q3⟩,λE2 _ a _ _ _=>by simp only[VR];exact q4.mono a.1,hk⟩
 | .nm p o,a,π,s,K,E,y,h,R,hw,hv=>by
   simp only[Cm]at h;split at h<;>first|exact h.elim|skip
   rename_i n o';obtain⟨hb,hk⟩:=zM h;have e:=ji hb;subst e;simp only[VR]at hv;obtain⟨b,oo,l,h1,rfl⟩:=hv;obtain⟨π',q1,q2,q3,q4⟩:=sH hk hw h1;refine⟨E,π',s,⟨Ev.le.refl _,q1,q2,R⟩,λE2 π2 a b' tl hl=> ?_,q4⟩;simp only[VR];obtain⟨hd,e1,e2⟩:=hl p n (b' p n q3);rw[a.get h1]at e1;cases e1;exact⟨b,oo,l,e2,rfl⟩
 | .el p sz i f,a,π,s,K,E,y,h,R,hw,hv=>by
   simp only[Cm]at h;split at h<;>first|exact h.elim|skip
   rename_i n oD i' f';obtain⟨hb,rfl,hk⟩:=zM h;simp only[lu]at hb;have e:=ji hb.1;subst e;have e:=ji hb.2;subst e;simp only[VR]at hv;obtain⟨b,oo,m,c,l,h1,rfl⟩:=hv;obtain⟨π',q1,q2,q3,q4⟩:=sH hk hw h1;refine⟨E,π',s,⟨Ev.le.refl _,q1,q2,R⟩,λE2 π2 a b' tl hl=> ?_,q4⟩;simp only[VR];obtain⟨hd,e1,e2⟩:=hl p n (b' p n q3);rw[a.get h1]at e1;cases e1;exact⟨b,oo,m,c,l,e2,rfl⟩
 | .own p,a,π,s,K,E,y,h,R,hw,hv=>by
   simp only[Cm]at h;split at h<;>first|exact h.elim|skip
   ·rename_i n;simp only[VR]at hv;obtain⟨l,h1,h2⟩:=hv;obtain⟨π',q1,q2,q3,q4⟩:=sH h hw h1;refine⟨E,π',s,⟨Ev.le.refl _,q1,q2,R⟩,λE2 π2 a b' tl hl=> ?_,q4⟩;simp only[VR];obtain⟨hd,e1,e2⟩:=hl p n (b' p n q3);rw[a.get h1]at e1;cases e1;exact⟨l,e2,h2⟩
   ·split at h<;>first|exact h.elim|skip
    rename_i hm;obtain⟨E',q1,q2,q3⟩:=R.GK;simp only[VR,DR]at hv;obtain⟨rfl,_⟩:=hv;have zm:yD p ((p,s.nx)::π)=au s.nx:=by simp[yD]
    refine⟨E',_,_,⟨q1,λq m e=> ?_,λq m e=> ?_,q2⟩,λE2 π2 a b' tl hl=> ?_,h⟩
    ·simp only[yD];cases hb:aw p q
     ·exact e
     ·have:=ji hb;subst this;rw[hm]at e;cases e
    ·simp only[yD]at e;cases hb:aw p q
     ·rw[hb]at e;obtain⟨hd,h'⟩:=hw q m e;exact⟨hd,q1.get h'⟩
     ·rw[hb]at e;cases e;exact⟨_,q3⟩
    ·simp only[VR];obtain⟨hd,e1,e2⟩:=hl p _ (b' p _ zm);rw[a.get q3]at e1;cases e1;exact⟨[],e2,_,_,_,rfl⟩
 | .mp p,a,π,s,K,E,y,h,R,hw,hv=>by
   simp only[Cm]at h;split at h<;>first|exact h.elim|skip
   rename_i n;simp only[VR]at hv;obtain⟨b,l,h1,h2⟩:=hv;obtain⟨π',q1,q2,q3,q4⟩:=sH h hw h1;refine⟨E,π',s,⟨Ev.le.refl _,q1,q2,R⟩,λE2 π2 a b' tl hl=> ?_,q4⟩;simp only[VR];obtain⟨hd,e1,e2⟩:=hl p n (b' p n q3);rw[a.get h1]at e1;cases e1;exact⟨b,l,e2,h2⟩
 | .agg l,a,π,s,K,E,y,h,R,hw,hv=>by
   simp only[Cm]at h;split at h<;>first|exact h.elim|skip
   simp only[VR]at hv;obtain⟨ys,rfl,hv⟩:=hv;obtain⟨E',π',s',q1,q2,q3⟩:=JT h R hw hv;exact⟨E',π',s',q1,λE2 π2 a b tl c=>by simp only[VR];exact⟨ys,rfl,q2 E2 π2 a b tl c⟩,q3⟩
 | .je l,a,π,s,K,E,y,h,R,hw,hv=>by
   simp only[Cm]at h;split at h<;>first|exact h.elim|skip
   simp only[VR]at hv;obtain⟨ys,rfl,hv⟩:=hv;obtain⟨E',π',s',q1,q2,q3⟩:=JT h R hw hv;exact⟨E',π',s',q1,λE2 π2 a b tl c=>by simp only[VR];exact⟨ys,rfl,q2 E2 π2 a b tl c⟩,q3⟩
 | .fn f x z,a,π,s,K,E,y,h,R,hw,hv=>by
   simp only[Cm]at h;split at h<;>first|exact h.elim|skip
   rename_i f' x' z';obtain⟨hb,hk⟩:=zM h;have e:=ji hb;subst e;simp only[VR]at hv;obtain⟨as,bs,rfl,h1,h2⟩:=hv;obtain⟨E',π',s',q1,q2,q3⟩:=JT hk R hw h1;obtain⟨E2,π2,s2,r1,r2,r3⟩:=JT q3 q1.rel q1.wf (h2.mono q1.le);exact⟨E2,π2,s2,q1.trans r1,λE3 π3 a b tl c=>by simp only[VR];exact⟨as,bs,rfl,q2.mono r1.le r1.ext E3 π3 a b tl c,r2 E3 π3 a b tl c⟩,r3⟩
 | .Ai t x,a,π,s,K,E,y,h,R,hw,hv=>by
   simp only[Cm]at h;split at h<;>first|exact h.elim|skip
   rename_i t' x';obtain⟨hb,hk⟩:=zM h;have e:=ji hb;subst e;simp only[VR]at hv;obtain⟨z,rfl,h1⟩:=hv;obtain⟨E',π',s',q1,q2,q3⟩:=yBc hk R hw h1;exact⟨E',π',s',q1,λE3 π3 a b tl c=>by simp only[VR];exact⟨z,rfl,q2 E3 π3 a b tl c⟩,q3⟩
 | .re sz fa i f,a,π,s,K,E,y,h,R,hw,hv=>by simp only[Cm]at h
 | .sub n i,a,π,s,K,E,y,h,R,hw,hv=>by simp only[Cm]at h
theorem JT:∀{v a:List V} {π:NM} {s:St} {K:NM->St->Prop} {E:Ev} {y:List aa},El v a π s K->Rel k L E s w->AM π E.gl->ic E a y->∃E' π' s',xu k L w E π E' π' s'/\YK E' π' v y/\K π' s'
 |[],a,π,s,K,E,y,h,R,hw,hv=>by
  simp only[El]at h;split at h<;>first|exact h.elim|skip
  simp only[ic]at hv;exact⟨E,π,s,⟨Ev.le.refl _,Ext.refl _,hw,R⟩,λ_ _ _ _ _ _=>by simpa only[ic]using hv,h⟩
 |v::vs,a,π,s,K,E,y,h,R,hw,hv=>by
  simp only[El]at h;split at h<;>first|exact h.elim|skip
  simp only[ic]at hv;obtain⟨x,xs,rfl,h1,h2⟩:=hv;obtain⟨E',π',s',q1,q2,q3⟩:=yBc h R hw h1;obtain⟨E2,π2,s2,r1,r2,r3⟩:=JT q3 q1.rel q1.wf (h2.mono q1.le);exact⟨E2,π2,s2,q1.trans r1,λE3 π3 a b tl c=>by simp only[ic];exact⟨_,_,rfl,q2.mono r1.le r1.ext E3 π3 a b tl c,r2 E3 π3 a b tl c⟩,r3⟩
end
mutual
def Bb (π:NM):V->V
 | .top=> .top
 | .d d=> .d d
 | .nm n o=>match yD n π with
   |some m=> .nm m o
   |none=> .top
 | .el n sz i f=>match yD n π with
   |some m=> .el m sz i f
   |none=> .top
 | .re sz fa i f=> .re sz fa i f
 | .na _ _ _=> .top
 | .own n=>match yD n π with
   |some m=> .own m
   |none=> .top
 | .mp n=>match yD n π with
   |some m=> .mp m
   |none=> .top
 | .sub n i=>match yD n π with
   |some m=> .sub m i
   |none=> .top
 | .agg l=> .agg (IB π l)
 | .je l=> .je (IB π l)
 | .fn f a b=> .fn f (IB π a) (IB π b)
 | .Ai t x=> .Ai t (Bb π x)
def IB (π:NM):List V->List V
 |[]=>[]
 |v::l=>Bb π v::IB π l
end
def oN (π:NM):Option Nat->Option Nat
 |some m=>yD m π
 |none=>av
def ER (π:NM):fq->fq
 | .cells vs t=> .cells (IB π vs) t
 | .uq q t sz fa i f b m=> .uq q t sz fa i f b (oN π m)
 |o=>o
def PT (iA:Nat->fq) (π:NM) (nx:Nat):List Nat->List (Nat×fq)
 |[]=>[]
 |j::js=>(nx+j,ER π (iA (j+1)))::PT iA π nx js
def nS (n nx m:Nat):NM:=(0,n)::(az (m-1)).map λj=>(j+1,nx+j)
def Lt (s:St) (n m:Nat) (iA:Nat->fq):fq×St:=
 (ER (nS n s.nx m) (iA 0),⟨PT iA (nS n s.nx m) s.nx (az (m-1))++s.rows,s.nx+(m-1)⟩)
def St.C8 (s:St) (n:Nat):Option fq:=
 match s.get n with
 |some .gone=>av
 |o=>o
def Ws {s:St} {n:Nat} {o:fq} (h:s.C8 n=au o):s.get n=au o/\o≠.gone:=by
 unfold St.C8 at h;split at h
 ·cases h
 ·rename_i jy;exact⟨h,λe=>jy (e▸h)⟩
def lH (m:Nat):NM->Bool
 |[]=>bv
 |(p,_)::l=>bif ax p m then lH m l else bz
def nH {m:Nat}:∀{π:NM},lH m π=bv->∀p n,yD p π=au n->p<m
 |[],h,p,n,e=>by cases e
 |(q,r)::l,h,p,n,e=>by
  simp only[lH]at h;cases hb:ax q m
  ·rw[hb]at h;cases h
  ·rw[hb]at h;simp only[yD]at e;cases hq:aw q p
   ·rw[hq]at e;exact nH h p n e
   ·have:=ji hq;subst this;simpa[yx]using hb
def Rl (f:Nat->NM->St->(NM->St->Prop)->Prop):List Nat->NM->St->(NM->St->Prop)->Prop
 |[],π,s,K=>K π s
 |j::js,π,s,K=>f j π s λπ s=>Rl f js π s K
def BF:fq->Nat->fq->NM->St->(NM->St->Prop)->Prop
 | .gone,_,_,π,s,K=>K π s
 | .uq _ t sz fa i f b m,n,o,π,s,K=>match o with
   | .uq _ t' oD lq i' f' b' m'=>bif aw t t' && aw sz oD then(fa=lq/\i=i'/\f=f'/\b=b')/\(match m,m' with
     |some p,au c=>Lu p c π λπ=>K π s
     |_,_=>False)else False
   | .own t' oD lq=>bif aw t t' && aw sz oD then(fa=lq/\b=bz)/\(match m with
     |some p=>(match yD p π with
      |none=>K ((p,s.nx)::π) (s.new .AR)
      |some _=>False)
     |none=>False)else False
   |_=>False
 | .cells vs t,n,o,π,s,K=>match o with
   | .cells AE t'=>bif aw t t' then El vs AE π s K else False
   | .rk T m iA x=>bif ay 1 m then(match Lt s n m (iA x)with
     |(.cells AE t',s')=>bif aw t t' then El vs AE π s' K else False
     |_=>False)else False
   |_=>False
 | .own t sz fa,n,o,π,s,K=>match o with
   | .own t' oD lq=>bif aw t t' && aw sz oD then fa=lq/\K π s else False
   | .AR=>fa=[]/\K π s
   |_=>False
 | .vec ds t,n,o,π,s,K=>match o with
   | .cells vs t'=>bif aw t t' then ds.map V.d=vs/\K π s else False
   |o=>fq.vec ds t=o/\K π s
 | .map es,n,o,π,s,K=>match o with
   | .map DG=>es=DG/\K π s
   |_=>False
 | .iter b p,n,o,π,s,K=>match o with
   | .iter b' p'=>b=b'/\p=p'/\K π s
   |_=>False
 | .rk T m iA x,n,o,π,s,K=>match o with
   | .cells vs t=>bif ay 1 m then Rl (λj π s K=>match yD j π with
      |some n'=>match(match j with|0=>au (fq.cells vs t)|_=>s.C8 n')with
       |some o'=>BF (iA x j) n' o' π (match j with|0=>s|_=>s.Jk n' o') K
       |none=>False
      |none=>False) (az m) [(0,n)] s (λπ' s=>bif lH m π' then K π s else False)else False
   |o=>fq.rk T m iA x=o/\K π s
 | .kr sz fa,n,o,π,s,K=>match o with
   | .own t oD lq=>bif aw sz oD then fa=lq/\K π s else False
   |o=>fq.kr sz fa=o/\K π s
 | .km t T m iA l hole,n,o,π,s,K=>match o with
   | .AR=>l=[]/\hole=av/\K π s
   |o=>fq.km t T m iA l hole=o/\K π s
 |o',n,o,π,s,K=>o'=o/\K π s
def IN:Nat->List fq->NM->St->(NM->St->Prop)->Prop
 |_,[],π,s,K=>K π s
 |p,.gone::os,π,s,K=>IN (p+1) os π s K
 |p,o::os,π,s,K=>match yD p π with
  |some n=>match s.C8 n with
   |some o'=>BF o n o' π (s.Jk n o') λπ s=>IN (p+1) os π s K
   |none=>False
  |none=>False
variable {k:Ko} {L:List HP} {w:ab}
def BY (E:Ev) (π:NM) (n:Nat) (o:fq):HP:=λh=>∀E2 π2,E.le E2->Ext π π2->∀tl,Loc π2 E2.gl tl->∃hd,E2.gl[n]? =au hd/\fw E2.F o tl hd h
def BY.mono {E E':Ev} {π π':NM} (hle:E.le E') (hx:Ext π π') {n:Nat} {o:fq} {h:PH} (e:BY E π n o h):BY E' π' n o h:=λE2 π2 a b tl c=>e E2 π2 (hle.trans a) (hx.trans b) tl c
def yJd:fq->Bool
 | .cells _ _=>bv
 | .uq _ _ _ _ _ _ _ _=>bv
 |_=>bz
def fw.gl {F:PH} {o:fq} (ho:yJd o=bz) {gl oJ:List Hd} {hd:Hd} {h:PH} (e:fw F o gl hd h):fw F o oJ hd h:=by
 cases o<;>first|(cases ho;done)|(simp only[fw]at e ⊢;exact e)
def fP {E:Ev} {π:NM} {n:Nat} {o:fq} (ho:yJd o=bz) (hg:o≠.gone) {h:PH} (e:ie E (n,o) h):BY E π n o h:=by
 rcases e with⟨e,_⟩|⟨hd,h1,h2⟩
 ·exact absurd e hg
 ·intro E2 π2 a b tl c;exact⟨hd,a.get h1,(h2.mono a.1 _ a.2).gl ho⟩
mutual
theorem VR.vm {π:NM} {F:PH} {tl gl:List Hd} (hr:∀p n hd,yD p π=au n->tl[p]? =au hd->gl[n]? =au hd):∀{v:V} {y:aa},VR ⟨F,tl⟩ v y->VR ⟨F,gl⟩ (Bb π v) y
 | .top,y,h=>by simp only[Bb,VR]
 | .d d,y,h=>by simpa only[Bb,VR]using h
 | .nm n o,y,h=>by
   simp only[Bb];split
   ·rename_i m hm;simp only[VR]at h ⊢;obtain⟨b,oo,l,h1,h2⟩:=h;exact⟨b,oo,l,hr _ _ _ hm h1,h2⟩
   ·simp only[VR]
 | .el n sz i f,y,h=>by
   simp only[Bb];split
   ·rename_i m hm;simp only[VR]at h ⊢;obtain⟨b,oo,mm,c,l,h1,h2⟩:=h;exact⟨b,oo,mm,c,l,hr _ _ _ hm h1,h2⟩
   ·simp only[VR]
 | .re sz fa i f,y,h=>by simpa only[Bb,VR]using h
 | .na n o i,y,h=>by simp only[Bb,VR]
 | .own n,y,h=>by
   simp only[Bb];split
   ·rename_i m hm;simp only[VR]at h ⊢;obtain⟨l,h1,h2⟩:=h;exact⟨l,hr _ _ _ hm h1,h2⟩
   ·simp only[VR]
 | .mp n,y,h=>by
   simp only[Bb];split
   ·rename_i m hm;simp only[VR]at h ⊢;obtain⟨b,l,h1,h2⟩:=h;exact⟨b,l,hr _ _ _ hm h1,h2⟩
   ·simp only[VR]
 | .sub n i,y,h=>by
   simp only[Bb];split
   ·rename_i m hm;simp only[VR]at h ⊢;obtain⟨hd,l,b,oo,h1,h2⟩:=h;exact⟨hd,l,b,oo,hr _ _ _ hm h1,h2⟩
   ·simp only[VR]
 | .agg l,y,h=>by
   simp only[Bb,VR]at h ⊢;obtain⟨ys,h1,h2⟩:=h;exact⟨ys,h1,ic.vm hr h2⟩
 | .je l,y,h=>by
   simp only[Bb,VR]at h ⊢;obtain⟨ys,h1,h2⟩:=h;exact⟨ys,h1,ic.vm hr h2⟩
 | .fn f a b,y,h=>by
   simp only[Bb,VR]at h ⊢;obtain⟨as,bs,h1,h2,h3⟩:=h;exact⟨as,bs,h1,ic.vm hr h2,ic.vm hr h3⟩
 | .Ai t x,y,h=>by
   simp only[Bb,VR]at h ⊢;obtain⟨z,h1,h2⟩:=h;exact⟨z,h1,VR.vm hr h2⟩
theorem ic.vm {π:NM} {F:PH} {tl gl:List Hd} (hr:∀p n hd,yD p π=au n->tl[p]? =au hd->gl[n]? =au hd):∀{vs:List V} {l:List aa},ic ⟨F,tl⟩ vs l->ic ⟨F,gl⟩ (IB π vs) l
 |[],l,h=>by simpa only[IB,ic]using h
 |v::vs,l,h=>by
  simp only[IB,ic]at h ⊢;obtain⟨x,xs,h1,h2,h3⟩:=h;exact⟨x,xs,h1,VR.vm hr h2,ic.vm hr h3⟩
end
def fw.vm {π:NM} {F:PH} {tl gl:List Hd} (hr:∀p n hd,yD p π=au n->tl[p]? =au hd->gl[n]? =au hd) {o:fq} {hd:Hd} {h:PH} (e:fw F o tl hd h):fw F (ER π o) gl hd h:=by
 cases o<;>simp only[ER]<;>first|exact e.gl rfl|skip
 ·simp only[fw]at e ⊢;obtain⟨b,l,h1,h2,h3⟩:=e;exact⟨b,l,h1,h2.vm hr,h3⟩
 ·rename_i q t sz fa i f b m;simp only[fw]at e ⊢;obtain⟨a,k,ys,xs,h1,h2,h3,h4,h5⟩:=e;refine⟨a,k,ys,xs,h1,h2,h3,?_,h5⟩;cases m with
  |none=>exact h4
  |some m=>
   obtain⟨y,l,e1,e2,e3⟩:=h4;simp only[oN];cases hm:yD m π with
   |none=>exact⟨y,e2,e3⟩
   |some m'=>exact⟨y,l,hr _ _ _ hm e1,e2,e3⟩
def yMu {n nx m j:Nat} (hj:j+1<m):yD (j+1) (nS n nx m)=au (nx+j):=by
 unfold nS;simp only[yD,aw,cond_false];have:∀(a c:Nat),a<=j->j<a+c->yD (j+1) ((bg a c).map λj=>(j+1,nx+j))=au (nx+j):=by
  intro a c
  induction c generalizing a with
  |zero=>intro h1 h2;omega
  |succ c ih=>
   intro h1 h2;simp only[List.range'_succ,jg,yD];cases hb:aw (a+1) (j+1)
   ·have jy:a≠j:=λe=>by subst e;simp at hb
    exact ih (a+1) X_ X_
   ·have:=ji hb;have e:a=j:=X_
    subst e;rfl
 rw[List.range_eq_range'];exact this 0 (m-1) X_ X_
def zWc {n nx m p q:Nat} (h:yD p (nS n nx m)=au q):(p=0/\q=n)\/∃j,p=j+1/\q=nx+j/\j+1<m:=by
 unfold nS at h;simp only[yD]at h;cases hb:aw 0 p
 ·rw[hb]at h;right;simp only[cond_false]at h;rw[List.range_eq_range']at h;have:∀(a c:Nat),yD p ((bg a c).map λj=>(j+1,nx+j))=au q->∃j,p=j+1/\q=nx+j/\j<a+c:=by
   intro a c
   induction c generalizing a with
   |zero=>intro h;simp[yD]at h
   |succ c ih=>
    intro h;simp only[List.range'_succ,jg,yD]at h;cases hb:aw (a+1) p
    ·rw[hb]at h;obtain⟨j,h1,h2,h3⟩:=ih (a+1) h;exact⟨j,h1,h2,X_⟩
    ·rw[hb]at h;simp only[cond_true,cg]at h;exact⟨a,(ji hb).symm,h.symm,X_⟩
  obtain⟨j,h1,h2,h3⟩:=this 0 (m-1) h;exact⟨j,h1,h2,X_⟩
 ·rw[hb]at h;left;simp only[cond_true,cg]at h;exact⟨(ji hb).symm,h.symm⟩
def Rel.unfold {E:Ev} {s:St} {n m:Nat} {T:Type} {iA:T->Nat->fq} {x:T} (R:Rel k (ie E (n,.rk T m iA x)::L) E s w) (hm:1<=m):
 ∃E',E.le E'/\Rel k (ie E' (n,(Lt s n m (iA x)).1)::L) E' (Lt s n m (iA x)).2 w:=by
 have H:=R.out;obtain⟨hd,kh,h1,h2,h3,H⟩:∃hd kh,E.gl[n]? =au hd/\kh[0]? =au hd/\kh.length=m/\
  Hp k w (hS ((az m).map λj=>λh=>∃oU,kh[j]? =au oU/\fw E.F (iA x j) kh oU h)::(s.rows.map (ie E)++fz E.F::L)):=by
  obtain⟨hk,hs,hh⟩:=H;cases hh with
  |cons ha jb Ic hr=>
   rcases ha with⟨e,_⟩|⟨hd,q1,q2⟩
   ·cases e
   ·simp only[fw]at q2;obtain⟨kh,q3,q4,q5⟩:=q2;exact⟨hd,kh,q1,q3,q4,hk,_,.cons q5 jb Ic hr⟩
 let E':Ev:=⟨E.F,E.gl++kh.drop 1⟩
 have hle:E.le E':=⟨yd.refl _,Kd _ _⟩
 have AT:∀p q oU,yD p (nS n s.nx m)=au q->kh[p]? =au oU->E'.gl[q]? =au oU:=by
  intro p q oU hp ht;rcases zWc hp with⟨rfl,rfl⟩|⟨j,rfl,rfl,hj⟩
  ·rw[h2]at ht;cases ht;exact hle.get h1
  ·show(E.gl++kh.drop 1)[s.nx+j]? =au oU;rw[<- R.nx,Ck X_,BA];rw[show E.gl.length+j-E.gl.length=j by omega,FI];exact ht
 have H2:=(rh.1 H)
 have AX:az m=0::(az (m-1)).map (·+1):=by
  have:m=(m-1)+1:=X_
  rw[this,List.range_succ_eq_map];simp
 rw[AX]at H2;simp only[jg,wx,uu]at H2;refine⟨E',hle,Rel.Kj (by show(E.gl++kh.drop 1).length=s.nx+(m-1);rw[ix,pj,R.nx,h3]) ?_⟩;have Ul:∀l:List Nat,(∀j∈l,j+1<m)->(PT (iA x) (nS n s.nx m) s.nx l)=l.map λj=>(s.nx+j,ER (nS n s.nx m) (iA x (j+1))):=by
  intro l
  induction l with
  |nil=>intro _;rfl
  |cons j l ih=>intro h;simp only[PT,jg];rw[ih λj hj=>h j (jj _ hj)]
 have xz:=Ul (az (m-1)) (λj hj=>by have:=CJ.1 hj;omega);show Hp k w (ie E' (n,ER (nS n s.nx m) (iA x 0))::((PT (iA x) (nS n s.nx m) s.nx (az (m-1))++s.rows).map (ie E')++fz E.F::L));rw[xz,jh,wx,jd];have H3:Hp k w ((az (m-1)).map ((λj=>λh=>∃oU,kh[j]? =au oU/\fw E.F (iA x j) kh oU h)∘(·+1))++((λh=>∃oU,kh[0]? =au oU/\fw E.F (iA x 0) kh oU h)::(s.rows.map (ie E)++fz E.F::L))):=H2.perm mu.symm
 have H4:=vD (g:=(ie E')∘λj=>(s.nx+j,ER (nS n s.nx m) (iA x (j+1)))) (λj y hy=>by
  obtain⟨oU,e1,e2⟩:=hy;right;have hj:j+1<m:=by
   have:=(jk.1 e1).1;simp only at this;omega
  exact⟨oU,AT _ _ _ (yMu hj) e1,e2.vm AT⟩) H3
 have H5:=H4.perm mu;have H6:=H5.imp (B:=ie E' (n,ER (nS n s.nx m) (iA x 0))) (λy hy=>by
  obtain⟨oU,e1,e2⟩:=hy;right;rw[h2]at e1;cases e1;exact⟨hd,hle.get h1,e2.vm AT⟩)
 have H7:Hp k w (s.rows.map (ie E)++(ie E' (n,ER (nS n s.nx m) (iA x 0))::((az (m-1)).map ((ie E')∘λj=>(s.nx+j,ER (nS n s.nx m) (iA x (j+1))))++fz E.F::L))):=by
  refine H6.perm ?_;refine List.Perm.trans ?_ mu.symm;refine .cons _ ?_;rw[<- jd,<- jd];exact BC.append_right _
 have H8:=vD (λr y=>ie.mono hle r) H7;refine H8.perm ?_;refine mu.trans (.cons _ ?_);rw[<- jd,<- jd];exact BC.append_right _
def yLa {n p q:Nat} (h:yD p [(0,n)]=au q):p=0/\q=n:=by
 simp only[yD]at h;cases hb:aw 0 p
 ·rw[hb]at h;cases h
 ·rw[hb]at h;simp only[cond_true,cg]at h;exact⟨(ji hb).symm,h.symm⟩
def y2i (o':fq):Prop:=∀{k:Ko} {L:List HP} {w:ab} {n:Nat} {o:fq} {π:NM} {s:St} {K:NM->St->Prop} {E:Ev},BF o' n o π s K->Rel k (ie E (n,o)::L) E s w->AM π E.gl->o≠.gone->
 ∃E' π' s',xu k (BY E' π' n o'::L) w E π E' π' s'/\K π' s'
def PJ (g:Nat->fq) (E:Ev) (π:NM) (j:Nat):HP:=λh=>∃n,yD j π=au n/\BY E π n (g j) h
def PJ.mono {g:Nat->fq} {E E':Ev} {π π':NM} (hle:E.le E') (hx:Ext π π') {j:Nat} {h:PH} (e:PJ g E π j h):PJ g E' π' j h:=by
 obtain⟨n,h1,h2⟩:=e;exact⟨n,hx _ _ h1,h2.mono hle hx⟩
def Rel.aam {α:Type} {f g:α->HP} (h:∀a x,f a x->g a x) {l:List α} {E:Ev} {s:St} (R:Rel k (l.map f++L) E s w):Rel k (l.map g++L) E s w:=by
 refine⟨R.nx,?_⟩;have H:Hp k w (l.map f++(s.rows.map (ie E)++fz E.F::L)):=by
  refine R.hp.perm ?_;rw[show s.rows.map (ie E)++fz E.F::(l.map f++L)=(s.rows.map (ie E)++[fz E.F])++(l.map f++L)by simp,<- jd,show l.map f++(s.rows.map (ie E)++fz E.F::L)=(l.map f++(s.rows.map (ie E)++[fz E.F]))++L by simp];exact BC.append_right _
 have H2:=vD h H;refine H2.perm ?_;rw[show s.rows.map (ie E)++fz E.F::(l.map g++L)=((s.rows.map (ie E)++[fz E.F])++l.map g)++L by simp,show l.map g++(s.rows.map (ie E)++fz E.F::L)=(l.map g++(s.rows.map (ie E)++[fz E.F]))++L by simp];exact BC.append_right _
def Rel.AY {E:Ev} {s:St} {A:List HP} (R:Rel k (A++L) E s w):Hp k w (A++(s.rows.map (ie E)++fz E.F::L)):=by
 refine R.hp.perm ?_;rw[show s.rows.map (ie E)++fz E.F::(A++L)=(s.rows.map (ie E)++[fz E.F])++(A++L)by simp,<- jd,show A++(s.rows.map (ie E)++fz E.F::L)=(A++(s.rows.map (ie E)++[fz E.F]))++L by simp];exact BC.append_right _
def z6k {g:Nat->fq} (hg:∀j,y2i (g j)) {c:Option fq}:∀{js:List Nat} {done:List Nat} {π:NM} {s:St} {K:NM->St->Prop} {E:Ev},(0∉js)->
 Rl (λj π s K=>match yD j π with
  |some n'=>match(match j with|0=>c|_=>s.C8 n')with
   |some o'=>BF (g j) n' o' π (match j with|0=>s|_=>s.Jk n' o') K
   |none=>False
  |none=>False) js π s K->Rel k (done.map (PJ g E π)++L) E s w->AM π E.gl->
 ∃E' π' s',xu k ((js.reverse++done).map (PJ g E' π')++L) w E π E' π' s'/\K π' s'
 |[],done,π,s,K,E,h0,h,R,hw=>⟨E,π,s,⟨Ev.le.refl _,Ext.refl _,hw,by simpa using R⟩,h⟩
 |j::js,done,π,s,K,E,h0,h,R,hw=>by
  simp only[Rl]at h;split at h<;>first|exact h.elim|skip
  rename_i n' Ym;cases j with
  |zero=>exact absurd iY h0
  |succ j=>
   simp only at h;split at h<;>first|exact h.elim|skip
   rename_i o' oK;obtain⟨oK,Uv⟩:=Ws oK
   ·have R1:=R.gw oK;obtain⟨E1,π1,s1,q1,q2⟩:=hg (j+1) h R1 hw Uv;have R2:Rel k (((j+1)::done).map (PJ g E1 π1)++L) E1 s1 w:=by
     have R3:=q1.rel.qt (B:=PJ g E1 π1 (j+1)) λx hx=>⟨n',q1.ext _ _ Ym,hx⟩
     have R4:Rel k (done.map (PJ g E π)++(PJ g E1 π1 (j+1)::L)) E1 s1 w:=⟨R3.nx,R3.hp.perm (by
      refine cd _ (.cons _ ?_);exact mu.symm)⟩
     have R5:=R4.aam (g:=PJ g E1 π1) λa x hx=>hx.mono q1.le q1.ext
     exact⟨R5.nx,R5.hp.perm (by
      refine cd _ (.cons _ ?_);exact mu)⟩
    obtain⟨E2,π2,s2,r1,r2⟩:=z6k hg (λhm=>h0 (jj _ hm)) q2 R2 q1.wf;refine⟨E2,π2,s2,⟨q1.le.trans r1.le,q1.ext.trans r1.ext,r1.wf,?_⟩,r2⟩;have:=r1.rel;simpa using this
def yQi {E:Ev}:∀{ds:List D} {l:List aa},ic E (ds.map V.d) l->iC E.F ds l
 |[],l,h=>by simpa only[Bz,ic,iC]using h
 |d::ds,l,h=>by
  simp only[jg,ic,VR]at h;obtain⟨x,xs,h1,h2,h3⟩:=h;simp only[iC];exact⟨x,xs,h1,h2,yQi h3⟩
def y6f:∀o',y2i o':=by
 intro o'
 induction o' with
 |gone=>
  intro k L w n o π s K E h R hw hg;simp only[BF]at h;have H:=R.out;refine⟨E,π,s,⟨Ev.le.refl _,Ext.refl _,hw,?_⟩,h⟩;obtain⟨hd,x,q1,_,_⟩:∃hd x,E.gl[n]? =au hd/\fw E.F o E.gl hd x/\Sub x w:=by
   obtain⟨x,hx,hs⟩:=H.sat;rcases hx with⟨e,_⟩|⟨hd,h1,h2⟩
   ·exact absurd e hg
   ·exact⟨hd,x,h1,h2,hs⟩
  refine Rel.Kj R.nx (((@gD k w True _).2 ⟨Y_,H.drop⟩).imp λx hx=> ?_);intro E2 π2 a b tl c;exact⟨hd,a.get q1,by simp only[fw];exact hx.2⟩
 |uq q t sz fa i f b m=>
  intro k L w n o π s K E h R hw hg;simp only[BF]at h;split at h<;>first|exact h.elim|skip
  ·rename_i q' t' oD lq i' f' b' m';have hh:=zM h;clear h;obtain⟨hb,⟨rfl,rfl,rfl,rfl⟩,h⟩:=hh;simp only[lu]at hb;have e1:=ji hb.1;have e2:=ji hb.2;subst e1 e2;split at h<;>first|exact h.elim|skip
   rename_i p c;obtain⟨hdc,hc⟩:∃hd,E.gl[c]? =au hd:=by
    obtain⟨x,hx,_⟩:=R.out.sat;rcases hx with⟨e,_⟩|⟨hd,h1,h2⟩
    ·cases e
    simp only[fw]at h2;obtain⟨A,k',ys,xs,e1,e2,e3,⟨y,l,e4,_⟩,_⟩:=h2;exact⟨_,e4⟩
   obtain⟨π',q1,q2,q3,q4⟩:=sH h hw hc;refine⟨E,π',s,⟨Ev.le.refl _,q1,q2,R.qt λx hx=> ?_⟩,q4⟩;rcases hx with⟨e,_⟩|⟨hd,h1,h2⟩
   ·cases e
   intro E2 π2 a b' tl hl;refine⟨hd,a.get h1,?_⟩;simp only[fw]at h2 ⊢;obtain⟨A,k',ys,xs,e1,e2,e3,⟨y,l,e4,e5⟩,e6⟩:=h2;obtain⟨oU,r1,r2⟩:=hl p c (b' p c q3);rw[a.get e4]at r1;cases r1;exact⟨A,k',ys,xs,e1,e2.mono a.1,e3,⟨y,l,r2,e5⟩,e6⟩
  ·rename_i t' oD lq;have hh:=zM h;clear h;obtain⟨hb,⟨rfl,rfl⟩,h⟩:=hh;simp only[lu]at hb;have e1:=ji hb.1;have e2:=ji hb.2;subst e1 e2;split at h<;>first|exact h.elim|skip
   rename_i p;split at h<;>first|exact h.elim|skip
   rename_i hm;obtain⟨E',r1,r2,r3⟩:=R.GK;have zm:yD p ((p,s.nx)::π)=au s.nx:=by simp[yD]
   refine⟨E',_,_,⟨r1,λq m e=> ?_,λq m e=> ?_,r2.qt λx hx=> ?_⟩,h⟩
   ·simp only[yD];cases hb:aw p q
    ·exact e
    ·have:=ji hb;subst this;rw[hm]at e;cases e
   ·simp only[yD]at e;cases hb:aw p q
    ·rw[hb]at e;obtain⟨hd,h'⟩:=hw q m e;exact⟨hd,r1.get h'⟩
    ·rw[hb]at e;cases e;exact⟨_,r3⟩
   rcases hx with⟨e,_⟩|⟨hd,h1,h2⟩
   ·cases e
   intro E2 π2 a b' tl hl;refine⟨hd,a.get (r1.get h1),?_⟩;simp only[fw]at h2 ⊢;obtain⟨A,k',xs,e1,e2,e3,e4⟩:=h2;obtain⟨oU,z1,z2⟩:=hl p _ (b' p _ zm);rw[a.get r3]at z1;cases z1;exact⟨A,k',xs,xs,e1,(e2.mono r1.1).mono a.1,e3,⟨_,_,z2,⟨av,0,0,rfl⟩,rfl⟩,e4⟩
 |AR=>
  intro k L w n o π s K E h R hw hg;simp only[BF]at h;obtain⟨rfl,h⟩:=h;exact⟨E,π,s,⟨Ev.le.refl _,Ext.refl _,hw,R.qt λx hx=>fP rfl (by simp) hx⟩,h⟩
 |kr sz fa=>
  intro k L w n o π s K E h R hw hg;simp only[BF]at h;split at h
  ·rename_i t oD lq;obtain⟨hb,e9,hK⟩:=zM h;subst e9;have e:=ji hb;subst e;have H:Hp k w (ie E (n,.own t sz fa)::fz E.F::(s.rows.map (ie E)++L)):=R.out.cons mu;obtain⟨x,hx,hd,jb,H⟩:=z2f H;rcases hx with⟨e,_⟩|⟨hv,h1,h2⟩
   ·cases e
   simp only[fw]at h2;obtain⟨a,c,xs,h3,h4,h5,h6⟩:=h2;have hle:E.le ⟨un x E.F,E.gl⟩:=⟨yCu hd,Ka _⟩
   have hdr:DR (un x E.F) (.ro sz fa) hv.1:=by
    simp only[DR];refine⟨a,c,h3,(Vk h6).2,h5,?_⟩;rcases h6 with⟨rfl,q2,rfl,rfl,rfl⟩|⟨b,r,rfl,rfl,q3,q4,q5⟩
    ·exact .inl (ye q2)
    ·refine .inr ⟨b,0,xs++r,t,(0,0),rfl,?_,oX.2 ⟨xs,r,rfl,h4.mono hle.1⟩⟩;simp[un,one]
   have H1:Hp k w (s.rows.map (ie E)++fz (un x E.F)::L):=H.perm mu.symm;have H2:=vD (λr x=>ie.mono hle r) H1;have H3:=yPv H2;refine⟨⟨un x E.F,E.gl⟩,π,s,⟨hle,Ext.refl _,hw,Rel.Kj R.nx (H3.imp λy hy=> ?_)⟩,hK⟩;intro E2 π2 a1 b1 tl c1;refine⟨hv,a1.get h1,?_⟩;simp only[fw];exact⟨hy,hdr.mono a1.1⟩
  ·obtain⟨rfl,h⟩:=h;exact⟨E,π,s,⟨Ev.le.refl _,Ext.refl _,hw,R.qt λx hx=>fP rfl (by simp) hx⟩,h⟩
 |km t T m iA l hole ih=>
  intro k L w n o π s K E h R hw hg;simp only[BF]at h;split at h
  ·obtain⟨rfl,rfl,h⟩:=h;refine⟨E,π,s,⟨Ev.le.refl _,Ext.refl _,hw,R.qt λx hx=>fP (o:= .km t T m iA [] av) rfl (by simp) ?_⟩,h⟩;rcases hx with⟨e,_⟩|⟨hd,h1,h2⟩
   ·cases e
   ·simp only[fw]at h2;obtain⟨rfl,e1,e2⟩:=h2;refine .inr ⟨hd,h1,ri.2 ⟨av,0,e1,by rw[e2];rfl,λp hp=>(by rw[e2]at hp;exact(nomatch hp)),pe,pe,by rw[e2];exact yGp t 1,rfl,?_,?_⟩⟩
    ·intro b;exact .inl rfl
    ·funext b;rfl
  ·obtain⟨rfl,h⟩:=h;exact⟨E,π,s,⟨Ev.le.refl _,Ext.refl _,hw,R.qt λx hx=>fP rfl (by simp) hx⟩,h⟩
 |vec ds t=>
  intro k L w n o π s K E h R hw hg;simp only[BF]at h;split at h
  ·obtain⟨hb,e9,hK⟩:=zM h;subst e9;have e:=ji hb;subst e;refine⟨E,π,s,⟨Ev.le.refl _,Ext.refl _,hw,R.qt λx hx=>fP (o:= .vec ds t) rfl (by simp) ?_⟩,hK⟩;rcases hx with⟨e,_⟩|⟨hd,h1,h2⟩
   ·cases e
   ·simp only[fw]at h2;obtain⟨b,l,e1,e2,e3⟩:=h2;refine .inr ⟨hd,h1,?_⟩;simp only[fw];exact⟨b,l,e1,yQi e2,e3⟩
  ·obtain⟨rfl,h⟩:=h;exact⟨E,π,s,⟨Ev.le.refl _,Ext.refl _,hw,R.qt λx hx=>fP rfl (by simp) hx⟩,h⟩
 |map es=>
  intro k L w n o π s K E h R hw hg;simp only[BF]at h;split at h<;>first|exact h.elim|skip
  obtain⟨rfl,h⟩:=h;exact⟨E,π,s,⟨Ev.le.refl _,Ext.refl _,hw,R.qt λx hx=>fP rfl (by simp) hx⟩,h⟩
 |C0 es kv x=>
  intro k L w n o π s K E h R hw hg;simp only[BF]at h;obtain⟨rfl,h⟩:=h;exact⟨E,π,s,⟨Ev.le.refl _,Ext.refl _,hw,R.qt λx hx=>fP rfl (by simp) hx⟩,h⟩
 |HS t fa=>
  intro k L w n o π s K E h R hw hg;simp only[BF]at h;obtain⟨rfl,h⟩:=h;exact⟨E,π,s,⟨Ev.le.refl _,Ext.refl _,hw,R.qt λx hx=>fP rfl (by simp) hx⟩,h⟩
 |iter b p=>
  intro k L w n o π s K E h R hw hg;simp only[BF]at h;split at h<;>first|exact h.elim|skip
  obtain⟨rfl,rfl,h⟩:=h;exact⟨E,π,s,⟨Ev.le.refl _,Ext.refl _,hw,R.qt λx hx=>fP rfl (by simp) hx⟩,h⟩
 |own t sz fa=>
  intro k L w n o π s K E h R hw hg;simp only[BF]at h;split at h<;>first|exact h.elim|skip
  ·obtain⟨hb,rfl,hk⟩:=zM h;simp only[lu]at hb;have e1:=ji hb.1;have e2:=ji hb.2;subst e1 e2;exact⟨E,π,s,⟨Ev.le.refl _,Ext.refl _,hw,R.qt λx hx=>fP rfl (by simp) hx⟩,hk⟩
  ·obtain⟨rfl,h⟩:=h;refine⟨E,π,s,⟨Ev.le.refl _,Ext.refl _,hw,R.qt λx hx=> ?_⟩,h⟩;rcases hx with⟨e,_⟩|⟨hd,h1,h2⟩
   ·cases e
   ·intro E2 π2 a b tl c;simp only[fw]at h2;refine⟨hd,a.get h1,?_⟩;simp only[fw];exact⟨av,0,[],h2.2.1,by simp[iC],by simp,.inl ⟨rfl,rfl,rfl,rfl,h2.1⟩⟩
 |cells vs t=>
  intro k L w n o π s K E h R hw hg;have key:∀{E:Ev} {s:St} {AE:List V} {π:NM},Rel k (ie E (n,.cells AE t)::L) E s w->AM π E.gl->El vs AE π s K->∃E' π' s',xu k (BY E' π' n (.cells vs t)::L) w E π E' π' s'/\K π' s':=by
   intro E s AE π R hw h;have H:=R.out;obtain⟨b,l,sub,h1,h2,H⟩:∃b l sub,E.gl[n]? =au (.pointer (au ⟨b,0,av⟩),sub)/\ic E AE l/\Hp k w (pt b (.cells l.toArray t)::(s.rows.map (ie E)++fz E.F::L)):=by
    obtain⟨hk,hs,hh⟩:=H;cases hh with
    |cons ha jb Ic hr=>
     rcases ha with⟨e,_⟩|⟨⟨hv,sub⟩,q1,q2⟩
     ·cases e
     ·simp only[fw]at q2;obtain⟨b,l,rfl,q3,rfl⟩:=q2;exact⟨b,l,sub,q1,q3,hk,_,.cons rfl jb Ic hr⟩
   have R1:Rel k (pt b (.cells l.toArray t)::L) E s w:=Rel.Kj R.nx H;obtain⟨E',π',s',q1,q2,q3⟩:=JT h R1 hw h2;refine⟨E',π',s',⟨q1.le,q1.ext,q1.wf,q1.rel.qt λx hx=> ?_⟩,q3⟩;intro E2 π2 a b' tl c;refine⟨_,a.get (q1.le.get h1),?_⟩;simp only[fw];exact⟨b,l,rfl,q2 E2 π2 a b' tl c,hx⟩
  simp only[BF]at h;split at h<;>first|exact h.elim|skip
  ·obtain⟨hb,hk⟩:=zM h;have e:=ji hb;subst e;exact key R hw hk
  ·rename_i T m iA x;obtain⟨hb,h⟩:=zM h;obtain⟨E1,q1,q2⟩:=R.unfold (Cj hb);revert q2 h;generalize Lt s n m (iA x)=u;obtain⟨u1,u2⟩:=u;intro h q2;simp only at h q2;split at h<;>first|exact h.elim|skip
   rename_i AE t' s' heq;cases heq;obtain⟨hb,hk⟩:=zM h;have e:=ji hb;subst e;obtain⟨E',π',s2,r1,r2⟩:=key q2 (hw.mono q1) hk;exact⟨E',π',s2,⟨q1.trans r1.le,r1.ext,r1.wf,r1.rel⟩,r2⟩
 |rk T m iA x ih=>
  intro k L w n o π s K E h R hw hg;unfold BF at h;split at h
  ·rename_i vs t;obtain⟨hb,h⟩:=zM h;have hm:=Cj hb;have AX:az m=0::(az (m-1)).map (·+1):=by
    have:m=(m-1)+1:=X_
    rw[this,List.range_succ_eq_map];simp
   obtain⟨hd,hd1⟩:∃hd,E.gl[n]? =au hd:=by
    obtain⟨x,hx,_⟩:=R.out.sat;rcases hx with⟨e,_⟩|⟨hd,h1,_⟩
    ·cases e
    ·exact⟨hd,h1⟩
   have Sf:AM [(0,n)] E.gl:=λp q e=>by
    obtain⟨_,rfl⟩:=yLa e;exact⟨hd,hd1⟩
   rw[AX]at h;simp only[Rl]at h;have zm:yD 0 [(0,n)]=au n:=rfl;rw[zm]at h;simp only at h;obtain⟨E1,π1,s1,q1,q2⟩:=ih x 0 h R Sf (by simp);have R2:Rel k ([0].map (PJ (iA x) E1 π1)++L) E1 s1 w:=q1.rel.qt λy hy=>⟨n,q1.ext _ _ zm,hy⟩
   obtain⟨E2,π2,s2,r1,r2⟩:=z6k (λj=>ih x j) (c:=au (fq.cells vs t)) (by simp) q2 R2 q1.wf;have hle:=q1.le.trans r1.le;obtain⟨gr,r2⟩:=zM r2;refine⟨E2,π,s2,⟨hle,Ext.refl _,hw.mono hle,?_⟩,r2⟩;have H:=r1.rel.AY;have H2:Hp k w ((az m).map (PJ (iA x) E2 π2)++(s2.rows.map (ie E2)++fz E2.F::L)):=by
    refine H.perm (ce _ (List.Perm.map _ ?_));rw[AX];refine(List.reverse_perm _).append_right _|>.trans ?_
    exact BC
   refine Rel.Kj r1.rel.nx ((rh.2 H2).imp λy hy=> ?_);intro E3 π3 a b tl c;have tp:∀j,j<m->∃n,yD j π2=au n:=by
    intro j hj;have hs:∀{l:List HP} {y:PH},hS l y->∀A∈l,∃z,A z:=by
     intro l
     induction l with
     |nil=>intro y _ A hA;cases hA
     |cons B l ih=>
      intro y hy A hA;cases l with
      |nil=>rcases tq.1 hA with rfl;exact⟨y,hy⟩
      |cons C l=>
       obtain⟨g,g',h1,h2,_,_⟩:=hy;rcases j'.1 hA with rfl|hA
       ·exact⟨g,h1⟩
       ·exact ih h2 A hA
    obtain⟨z,n,hz,_⟩:=hs hy (PJ (iA x) E2 π2 j) (nn.2 ⟨j,CJ.2 hj,rfl⟩);exact⟨n,hz⟩
   let kh:List Hd:=(az m).map λj=>(E3.gl[(yD j π2).getD 0]?).getD (af,[])
   have Tw:∀j n,j<m->yD j π2=au n->∃hd,E3.gl[n]? =au hd/\kh[j]? =au hd:=by
    intro j n hj hn;obtain⟨hd,h'⟩:=r1.wf j n hn;refine⟨hd,a.get h',?_⟩;show((az m).map _)[j]? =_;rw[ra,Mh hj];simp only[wz,hn,Ae,a.get h']
   have tm:Loc π2 E3.gl kh:=λp q e=>Tw p q (nH gr p q e) e
   refine⟨hd,a.get (hle.get hd1),?_⟩;simp only[fw];refine⟨kh,?_,by simp[kh],?_⟩
   ·have h0:yD 0 π2=au n:=r1.ext _ _ (q1.ext _ _ zm);obtain⟨oU,e1,e2⟩:=Tw 0 n X_ h0;rw[a.get (hle.get hd1)]at e1;cases e1;exact e2
   ·refine LB ?_ hy;rintro j z ⟨nj,hj,hz⟩;obtain⟨oU,e1,e2⟩:=hz E3 π2 a (Ext.refl _) kh tm;obtain⟨AJ,e3,e4⟩:=tm j nj hj;rw[e1]at e3;cases e3;exact⟨oU,e4,e2⟩
  ·obtain⟨rfl,h⟩:=h;exact⟨E,π,s,⟨Ev.le.refl _,Ext.refl _,hw,R.qt λx hx=>fP rfl (by simp) hx⟩,h⟩
variable {k:Ko} {L:List HP} {w:ab}
def g9:Nat->List fq->List (Nat×fq)
 |_,[]=>[]
 |p,o::os=>(p,o)::g9 (p+1) os
def PQ (E:Ev) (π:NM) (r:Nat×fq):HP:=λh=>(r.2= .gone/\h=pe)\/∃n,yD r.1 π=au n/\BY E π n r.2 h
def PQ.mono {E E':Ev} {π π':NM} (hle:E.le E') (hx:Ext π π') (r:Nat×fq) {h:PH} (e:PQ E π r h):PQ E' π' r h:=by
 rcases e with e|⟨n,h1,h2⟩
 ·exact .inl e
 ·exact .inr ⟨n,hx _ _ h1,h2.mono hle hx⟩
def W2:∀{os:List fq} {p:Nat} {π:NM} {s:St} {K:NM->St->Prop} {E:Ev} {L:List HP},IN p os π s K->Rel k L E s w->AM π E.gl->
 ∃E' π' s',xu k ((g9 p os).map (PQ E' π')++L) w E π E' π' s'/\K π' s'
 |[],p,π,s,K,E,L,h,R,hw=>⟨E,π,s,⟨Ev.le.refl _,Ext.refl _,hw,R⟩,h⟩
 |o::os,p,π,s,K,E,L,h,R,hw=>by
  have fin:∀{E1:Ev} {π1:NM} {s1:St},xu k (PQ E1 π1 (p,o)::L) w E π E1 π1 s1->IN (p+1) os π1 s1 K->∃E' π' s',xu k ((g9 p (o::os)).map (PQ E' π')++L) w E π E' π' s'/\K π' s':=by
   intro E1 π1 s1 q1 q2;obtain⟨E2,π2,s2,r1,r2⟩:=W2 q2 q1.rel q1.wf;refine⟨E2,π2,s2,⟨q1.le.trans r1.le,q1.ext.trans r1.ext,r1.wf,?_⟩,r2⟩;have R3:=r1.rel;have R4:Rel k (PQ E1 π1 (p,o)::((g9 (p+1) os).map (PQ E2 π2)++L)) E2 s2 w:=⟨R3.nx,R3.hp.perm (by
    refine cd _ (.cons _ ?_);exact mu)⟩
   exact R4.qt λx hx=>hx.mono r1.le r1.ext
  cases o with
  |gone=>
   simp only[IN]at h;refine fin ⟨Ev.le.refl _,Ext.refl _,hw,?_⟩ h;exact Rel.Kj R.nx (((@gD k w True _).2 ⟨Y_,R.hp⟩).imp λx hx=> .inl ⟨rfl,hx.2⟩)
  |_=>
   simp only[IN]at h;split at h<;>first|exact h.elim|skip
   rename_i n hn;split at h<;>first|exact h.elim|skip
   rename_i o' oK;obtain⟨oK,hg⟩:=Ws oK;obtain⟨E1,π1,s1,q1,q2⟩:=y6f _ h (R.gw oK) hw hg;exact fin ⟨q1.le,q1.ext,q1.wf,q1.rel.qt λx hx=> .inr ⟨n,q1.ext _ _ hn,hx⟩⟩ q2
structure Alt where
 o:Type
 res:o->V
 post:o->List fq
 rel:o->Prop
structure gh where
 ι:Type
 pat:ι->List V
 pre:ι->List fq
 dp:ι->Prop
 alts:ι->List Alt
def HF (m nx:Nat):Nat->NM->NM
 |0,π=>π
 |q+1,π=>HF m nx q ((m+q,nx+q)::π)
def k0 (π:NM):Nat->List fq->List (Nat×fq)
 |_,[]=>[]
 |p,.gone::os=>k0 π (p+1) os
 |p,o::os=>match yD p π with
  |some n=>(n,ER π o)::k0 π (p+1) os
  |none=>k0 π (p+1) os
def y7y (m:Nat) (π:NM) (s:St) (os:List fq):St:=⟨k0 (HF m s.nx (os.length-m) π) 0 os++s.rows,s.nx+(os.length-m)⟩
def y9t (m:Nat) (π:NM) (s:St) (K:V->St->Prop) (a:Alt):Prop:=
 ∀o,a.rel o->bif ay m (a.post o).length then K (Bb (HF m s.nx ((a.post o).length-m) π) (a.res o)) (y7y m π s (a.post o))else False
def yVf (m:Nat) (π:NM) (s:St) (K:V->St->Prop):List Alt->Prop
 |[]=>True
 |[a]=>y9t m π s K a
 |a::l=>y9t m π s K a/\yVf m π s K l
def zYl {m:Nat} {π:NM} {s:St} {K:V->St->Prop}:∀{l:List Alt},yVf m π s K l->∀a∈l,y9t m π s K a
 |[],_,a,ha=>by cases ha
 |[b],h,a,ha=>by rcases tq.1 ha with rfl;exact h
 |b::c::l,h,a,ha=>by
  rcases j'.1 ha with rfl|ha
  ·exact h.1
  ·exact zYl h.2 a ha
def gh.call (C:gh) (args:List V) (s:St) (K:V->St->Prop):Prop:=
 ∃i:C.ι,El (C.pat i) args [] s λπ s=>IN 0 (C.pre i) π s λπ s=>bif lH (C.pre i).length π then C.dp i/\yVf (C.pre i).length π s K (C.alts i)else False
def gh.ok (P:ae) (f:ap) (C:gh):Prop:=∀i,C.dp i->∀(k:Ko) (L:List HP) (E:Ev) (w:ab) (ys:List aa),Rel k L E ⟨g9 0 (C.pre i),(C.pre i).length⟩ w->ic E (C.pat i) ys->
 nq P (ag f ys.toArray) w λy w'=>∃a∈C.alts i,∃o,a.rel o/\∃E',E.le E'/\VR E' (a.res o) y/\Rel k L E' ⟨g9 0 (a.post o),(a.post o).length⟩ w'
def zWw {m nx:Nat} {p n:Nat}:∀{q:Nat} {π:NM},yD p (HF m nx q π)=au n->yD p π=au n\/(m<=p/\n=nx+(p-m))
 |0,π,h=> .inl h
 |q+1,π,h=>by
  simp only[HF]at h;rcases zWw (q:=q) h with h|h
  ·simp only[yD]at h;cases hb:aw (m+q) p
   ·rw[hb]at h;exact .inl h
   ·rw[hb]at h;have:=ji hb;simp only[cond_true,cg]at h;exact .inr ⟨X_,X_⟩
  ·exact .inr h
def rH {π:NM} {E E2:Ev} (hF:E.F=E2.F) (hr:∀p n hd,yD p π=au n->E.gl[p]? =au hd->E2.gl[n]? =au hd) {M:List HP}:∀{os:List fq} {p:Nat},Hp k w ((g9 p os).map (ie E)++M)->Hp k w ((k0 π p os).map (ie E2)++M)
 |[],p,H=>H
 |o::os,p,H=>by
  simp only[g9,jg,uu]at H;have drop:Hp k w ((k0 π (p+1) os).map (ie E2)++M):=rH hF hr H.drop;have main:∀n,yD p π=au n->Hp k w (ie E2 (n,ER π o)::((k0 π (p+1) os).map (ie E2)++M)):=by
   intro n hn;have H1:Hp k w ((g9 (p+1) os).map (ie E)++(ie E (p,o)::M)):=H.perm mu.symm;have H2:=rH hF hr H1;refine(H2.perm mu).imp λx hx=> ?_
   rcases hx with⟨e,e2⟩|⟨hd,h1,h2⟩
   ·left;simp only at e;subst e;exact⟨rfl,e2⟩
   ·right;exact⟨hd,hr _ _ _ hn h1,hF▸h2.vm hr⟩
  cases o with
  |gone=>simpa only[k0]using drop
  |_=>
   simp only[k0];split
   ·rename_i n hn;exact main n hn
   ·exact drop
def gh.yw {P:ae} {f:ap} {C:gh} (hC:C.ok P f) {args:List V} {s:St} {K:V->St->Prop} {E:Ev} {ys:List aa} (h:C.call args s K) (R:Rel k L E s w) (hv:ic E args ys):
 nq P (ag f ys.toArray) w (py k L E K):=by
 obtain⟨i,h⟩:=h;have Sf:AM [] E.gl:=λp n e=>by cases e
 obtain⟨E1,π1,s1,q1,q2,q3⟩:=JT h R Sf hv;obtain⟨E2,π2,s2,r1,r2⟩:=W2 q3 q1.rel q1.wf;obtain⟨gr,hc,ha⟩:=zM r2;have gr:=nH gr
 let m:=(C.pre i).length
 let tl:List Hd:=(az m).map λp=>(E2.gl[(yD p π2).getD 0]?).getD (af,[])
 have tm:Loc π2 E2.gl tl:=by
  intro p n hp;obtain⟨hd,h'⟩:=r1.wf p n hp;refine⟨hd,h',?_⟩;show((az m).map _)[p]? =_;rw[ra,Mh (gr p n hp)];simp only[wz,hp,Ae,h']
 have IQ:tl.length=m:=by simp[tl]
 have H:=r1.rel.AY;have H1:=vD (g:=ie ⟨E2.F,tl⟩) (λr x hx=>by
  rcases hx with⟨e1,e2⟩|⟨n,h1,h2⟩
  ·exact .inl ⟨e1,e2⟩
  ·right;obtain⟨hd,h3,h4⟩:=h2 E2 π2 (Ev.le.refl _) (Ext.refl _) tl tm;obtain⟨oU,h5,h6⟩:=tm _ _ h1;rw[h3]at h5;cases h5;exact⟨hd,h6,h4⟩) H
 have R0:Rel k (s2.rows.map (ie E2)++L) ⟨E2.F,tl⟩ ⟨g9 0 (C.pre i),(C.pre i).length⟩ w:=⟨IQ,H1.perm (cd _ mu)⟩
 have Yd:ic ⟨E2.F,tl⟩ (C.pat i) ys:=q2 E2 π2 r1.le r1.ext tl tm;refine(hC i hc k _ _ w ys R0 Yd).mono ?_;rintro y w' ⟨a,ha',o,MP,E3,hle,Si,R3⟩;obtain⟨hm,hk⟩:=zM (zYl ha a ha' o MP);have hm:=Cj hm
 let q:=(a.post o).length
 have hlen:E3.gl.length=q:=R3.nx
 let E4:Ev:=⟨E3.F,E2.gl++E3.gl.drop m⟩
 have rm:E2.le E4:=⟨hle.1,Kd _ _⟩
 have AT:∀p n hd,yD p (HF m s2.nx (q-m) π2)=au n->E3.gl[p]? =au hd->E4.gl[n]? =au hd:=by
  intro p n hd hp ht;rcases zWw hp with hp|⟨h1,rfl⟩
  ·obtain⟨oU,h5,h6⟩:=tm _ _ hp;have:=U5 hle.2 h6;rw[ht]at this;cases this;exact rm.get h5
  ·show(E2.gl++E3.gl.drop m)[s2.nx+(p-m)]? =au hd;rw[<- r1.rel.nx,Ck X_,BA];rw[show m+(E2.gl.length+(p-m)-E2.gl.length)=p by omega];exact ht
 refine⟨E4,_,_,(q1.le.trans r1.le).trans rm,?_,Si.vm (F:=E3.F) AT,hk⟩;refine⟨by show(E2.gl++E3.gl.drop m).length=s2.nx+(q-m);rw[ix,pj,r1.rel.nx,hlen],?_⟩;have H2:=rH (E:=E3) (E2:=E4) rfl AT R3.hp;have H3:Hp k w' (s2.rows.map (ie E2)++((k0 (HF m s2.nx (q-m) π2) 0 (a.post o)).map (ie E4)++fz E3.F::L)):=by
  refine H2.perm ?_;rw[<- jd];refine List.Perm.trans ?_ (BC.append_right _);rw[jd];exact cd _ mu.symm
 have H4:=vD (g:=ie E4) (λr x=>ie.mono rm r) H3;refine H4.perm ?_;show(s2.rows.map (ie E4)++((k0 (HF m s2.nx (q-m) π2) 0 (a.post o)).map (ie E4)++fz E3.F::L)).Perm ((k0 (HF m s2.nx (q-m) π2) 0 (a.post o)++s2.rows).map (ie E4)++fz E4.F::L);rw[<- jd,jh];exact BC.append_right _
variable {P:ae} {k:Ko} {L:List HP}
def kS (P:ae) (ρ:xG) (op:Op):Nat:=
 match op with
 | .convert s d _=>bif J4 P s && LF P d then 1 else bif LF P s && Ir P d then 2 else bif J4 P s && Ir P d then 2 else 0
 | .indexAddr _ x _=>match lz ρ x with
   | .own _=>1
   |_=>0
 | .slice _ x _ _ _=>match lz ρ x with
   | .own _=>2
   |_=>0
 | .binOp _ _ x _ _=>match lz ρ x with
   | .own _=>1
   |_=>0
 | .call c=>match c.callee with
   | .builtin .len=>match DF ρ c.args.toList with
     |[.own _]=>1
     |[.mp _]=>1
     |_=>0
   | .builtin .cap=>0
   | .builtin .min=>0
   | .builtin .max=>0
   |_=>2
 |op=>UQ P op
def opS (P:ae) (H:BN) (o:ao) (ρ:xG) (s:St) (K:V->St->Prop):Prop:=
 match kS P ρ o.op with
 |0=>sq P o ρ λv=>K v s
 |1=>sr P o ρ s λv=>K v s
 |_=>se P H o ρ s K
def yMb {H:BN} (hH:I7 P H) {E:Ev} {s:St} {w:ab} (R:Rel k L E s w) {ρS:xG} {ρ:Env} (he:lp E ρS ρ) {o:ao} {K:V->St->Prop} (h:opS P H o ρS s K):nq P (ac (ev ρ) o) w (py k L E K):=by
 unfold opS at h;split at h
 ·obtain⟨v,y,hk,hv,hf⟩:=z4l he h;exact wX (hf w) ⟨E,v,s,Ev.le.refl _,R,hv,hk⟩
 ·obtain⟨v,y,hk,hv,hf⟩:=Zx R he h;exact wX hf ⟨E,v,s,Ev.le.refl _,R,hv,hk⟩
 ·exact z7a hH R he h
def PD (ops:List ao) (g:Option (Nat×Bool)) (ρ:xG) (Y N:xG->Prop):Prop:=
 match g with
 |none=>Y ρ
 |some (j,want)=>
  match XB ops j with
  |none=>N ρ
  |some d=>
   match ρ d with
   | .d (.v (.bool c))=>gd c want (Y (Bx ρ (au d) (.d (.v (.bool want))))) (N (Bx ρ (au d) (.d (.v (.bool !want)))))
   | .je []=>N ρ
   |_=>False
def yKa {ρ:xG} {d:Nat} {v:V} (h:ρ d=v):Bx ρ (au d) v=ρ:=by
 funext i;simp only[Bx];cases hb:aw i d
 ·rfl
 ·have:=ji hb;subst this;exact h.symm
def lE {ops:List ao} {o:ao} {a:Act} {E:Ev} {ρS:xG} (he:lp E ρS (yQ a)) {Y N:xG->Prop} (h:PD ops o.guard ρS Y N):
 if cw o (yielded ops.toArray a.tmps)then Y ρS else N ρS:=by
 unfold PD at h;unfold cw;split at h
 ·rename_i hg;rw[hg];exact h
 ·rename_i j want hg;rw[hg];have hy:=zJj ops a.tmps j;split at h
  ·rename_i hd;rw[hd]at hy;simp only[hy];simpa using h
  ·rename_i d hd;rw[hd]at hy;simp only[hy];have hv:yQ a d=(a.tmps[d]?).getD af:=by simp[yQ,CO]
   have F6:=he d;rw[hv]at F6;split at h<;>first|exact h.elim|skip
   ·rename_i c hc;rw[hc]at F6;simp only[VR,DR]at F6;cases ht:a.tmps[d]? with
    |none=>rw[ht]at F6;exact absurd F6.1 (by simp[af])
    |some v=>
     rw[ht]at F6;simp only[Ae]at F6;rw[F6.1];simp only[];have hs:∀b,c=b->Bx ρS (au d) (.d (.v (.bool b)))=ρS:=λb hb=>yKa (by rw[hc,hb])
     cases c<;>cases want<;>simp only[gd,Bool.not_true,J9]at h<;>rw[hs _ rfl]at h<;>simpa using h
   ·rename_i hc;rw[hc]at F6;simp only[VR,ic]at F6;obtain⟨ys,e1,rfl⟩:=F6;cases ht:a.tmps[d]? with
    |none=>simpa using h
    |some v=>
     rw[ht]at e1;simp only[Ae]at e1;subst e1;simpa using h
def Rn (P:ae) (H:BN) (ops:List ao):List ao->xG->St->(xG->St->Prop)->Prop
 |[],ρ,s,K=>K ρ s
 |o::rest,ρ,s,K=>PD ops o.guard ρ (λρ=>opS P H o ρ s λv s'=>Rn P H ops rest (Bx ρ o.dst v) s' K) (λρ=>Rn P H ops rest (Bx ρ o.dst (.je [])) s K)
def zGh (E:Ev):VR E (.je []) af:=by
 simp only[VR];exact⟨[],rfl,ic.nil⟩
def zOu {H:BN} (hH:I7 P H) {ops:List ao} {n:Nat} {A:Nat->Bool} {e0:Env} {Q:Exit->Act->ab->Prop} {E0:Ev} {K:xG->St->Prop}
 (hQ:∀a w E ρS s,Good n A e0 a->E0.le E->Rel k L E s w->lp E ρS (yQ a)->K ρS s->Q .normal a w):
 ∀(l:List ao) (a:Act) (w:ab) (E:Ev) (ρS:xG) (s:St),JI n A l->Good n A e0 a->E0.le E->Rel k L E s w->lp E ρS (yQ a)->Rn P H ops l ρS s K->wpList P ops.toArray Q l a w
 |[],a,w,E,ρS,s,_,hg,hle,R,he,h=>hQ a w E ρS s hg hle R he h
 |o::l,a,w,E,ρS,s,hf,qx,hle,R,he,h=>by
  have yl:=hf o iY;have hf':JI n A l:=λo' oK=>hf o' (jj _ oK)
  have hg:=lE he h;have nx:∀{v:aa} {w:ab} {E':Ev} {v':V} {s':St},E.le E'->Rel k L E' s' w->VR E' v' v->Rn P H ops l (Bx ρS o.dst v') s' K->wpList P ops.toArray Q l (a.put o.dst v) w:=λ{v w E' v' s'} jr R' hv hh=>
   zOu hH hQ l _ _ E' _ s' hf' (qx.put yl v) (hle.trans jr) R' (by rw[qx.mi yl];exact(he.mono jr).put _ hv) hh
  unfold wpList;split
  ·rename_i hw;rw[fh hw]at hg;left;refine zGf ?_;have:=yMb hH R he hg;rw[vL]at this;refine this.mono ?_;rintro v w' ⟨E',v',s',h1,h2,h3,h4⟩;exact nx h1 h2 h3 h4
  ·rename_i hw;rw[eg hw]at hg;exact nx (Ev.le.refl _) R (zGh E) hg
def zPc {P:ae} {E:Ev} {t sz i f:Nat} {fa:Q_ D} {b o:Nat} {l:List aa} {T:aj} {fr:Nat×Nat} {ds:List D} {v:V} (hu:∀el∈fa,el.length=sz) (h5:BP E.F fa (l.drop o))
 (hp:zC fa i f ds.length=au ds) (hm:Dz P t ds=au v):∃y,VR E v y/\∀w:ab,w.heap[b]? =au (.cells l.toArray T fr)->pX P t ⟨b,o+i*sz+f,av⟩ w y:=by
 obtain⟨xs,r,e,hx⟩:=oX.1 h5;unfold zC at hp;split at hp<;>first|(cases hp;done)|skip
 rename_i el oT;obtain⟨hb,hp⟩:=yZ hp;have hb:=Cj hb;have ug:=kx oT;have hi:i<fa.length:=(jk.1 oT).1;rw[hu el ug]at hb;have nk:=(hx.drop (i*sz+f)).take ds.length;have hfp:=zNa hu oT hb;rw[hfp,cm hp]at nk;have hlen:xs.length=fa.length*sz:=by rw[hx.length,wJ hu]
 have xd:i*sz+sz<=fa.length*sz:=by
  have:=xv sz (show i+1<=fa.length by omega);rwa [Ad]at this
 have om:(l.drop (o+i*sz+f)).take ds.length=(xs.drop (i*sz+f)).take ds.length:=by
  rw[Dq,<- Ds,e,HN X_,zi (by rw[pj];omega)]
 unfold Dz at hm;split at hm
 ·rename_i n hn;obtain⟨hq,hm⟩:=yZ hm;have:=ji hq;cases hm;refine⟨.agg ((xs.drop (i*sz+f)).take ds.length).toArray,by simp only[VR];exact⟨_,rfl,nk.OJ⟩,λw e2=> ?_⟩;refine Wq hn e2 (by rw[<- this];exact om) ?_;rw[nk.length,this]
 ·obtain⟨hq,hm⟩:=yZ hm;split at hm<;>first|(cases hm;done)|skip
  rename_i d;cases hm;simp only[iG,uj,iC]at nk om;obtain⟨y,ys,e4,h4,h5⟩:=nk;subst h5;refine⟨y,by simpa only[VR]using h4,λw e2=>uA hq e2 ?_⟩;have:((l.drop (o+i*sz+f)).take 1)[0]? =au y:=by rw[om,e4];rfl
  rw[IH,fh X_,BA]at this;simpa using this
def Vh (ρ:xG) (s:St):Op->Bool
 | .load _ x=>match lz ρ x with
   | .re _ _ _ _=>bv
   | .el n _ _ _=>match s.get n with
     |some (.kr _ _)=>bv
     |_=>bz
   |_=>bz
 |_=>bz
def yLw {E:Ev} {s:St} {w:ab} (R:Rel k L E s w) {ρS:xG} {ρ:Env} (he:lp E ρS ρ) {o:ao} {K:V->Prop} (lr:Vh ρS s o.op=bv) (h:sr P o ρS s K):
 ∃v y,K v/\VR E v y/\∀(E':Ev) (s':St) (w':ab),E.le E'->Rel k L E' s' w'->(ac (ev ρ) o).run P w'= .ok (.value y) w':=by
 cases ho:o.op<;>rw[ho]at lr<;>first|(cases lr;done)|skip
 case load t x=>
  simp only[sr,ho]at h;simp only[Vh]at lr;have hv:=he.ev x;split at lr<;>first|(cases lr;done)|skip
  ·rename_i sz fa i f hx;rw[hx]at hv h;simp only[VR]at hv;simp only at h;obtain⟨e0,e1,b,oo,l,T,fr,e2,e3,e4⟩:=hv;obtain⟨ds,hp,h⟩:=pT h;obtain⟨v,hm,hk⟩:=zN h;obtain⟨y,hy,hh⟩:=zPc (b:=b) (T:=T) (fr:=fr) e1 e4 hp hm;refine⟨v,y,hk,hy,λE' s' w' hle R'=> ?_⟩;simp only[ac,ho,e2];exact yK (hh w' (R'.frozen _ _ (hle.1 _ _ e3)))
  ·rename_i n sz i f hx;rw[hx]at hv h;simp only[VR]at hv;simp only at h;split at lr<;>first|(cases lr;done)|skip
   rename_i sz0 abn hg;obtain⟨b,oo,m,c,l,e1,e2⟩:=hv;simp only[LA,nZ,hg]at h;obtain⟨⟨oD,fa⟩,hd,h⟩:=zN h;simp only[eU,hg,cg,Prod.mk.injEq]at hd;obtain⟨rfl,rfl⟩:=hd;obtain⟨hb,h⟩:=zM h;have:=ji hb;simp only at this;subst this;obtain⟨ds,v,hp,hm,hk⟩:=zTh h;obtain⟨hd,x',q1,q2,q3⟩:=R.row hg (by simp);rw[e1]at q1;cases q1;simp only[fw,DR]at q2;obtain⟨_,a,c',q4,q5,q6,q7⟩:=q2;cases q4;rcases q7 with rfl|⟨b',o',l',T,fr,q8,q9,q10⟩
   ·simp[zC]at hp
   cases q8;obtain⟨y,hy,hh⟩:=zPc (b:=b) (T:=T) (fr:=fr) q6 q10 hp hm;refine⟨v,y,hk,hy,λE' s' w' hle R'=> ?_⟩;simp only[ac,ho,e2];exact yK (hh w' (R'.frozen _ _ (hle.1 _ _ q9)))
def y9d:V->V->Prop
 | .d (.v x),.d (.v y)=>X5 x y
 | .nm n o,.nm n' o'=>bif aw n n' && aw o o' then True else False
 | .own n,.own n'=>bif aw n n' then True else False
 | .mp n,.mp n'=>bif aw n n' then True else False
 | .el n sz i f,.el n' oD i' f'=>bif aw n n' && aw sz oD && aw f f' then i=i' else False
 |_,_=>False
def fD {E E':Ev} (hle:E.le E') {v v':V} {y y':aa} (h:y9d v' v) (hy:VR E v y) (pz:VR E' v' y'):y'=y:=by
 unfold y9d at h;split at h<;>first|exact h.elim|skip
 ·simp only[VR,DR]at hy pz;rw[hy.1,pz.1,yVo h]
 ·obtain⟨hb,_⟩:=zM h;simp only[lu]at hb;have e1:=ji hb.1;have e2:=ji hb.2;subst e1 e2;simp only[VR]at hy pz;obtain⟨b,oo,l,h1,rfl⟩:=hy;obtain⟨b',oo',l',BK,rfl⟩:=pz;rw[hle.get h1]at BK;cases BK;rfl
 ·obtain⟨hb,_⟩:=zM h;have e1:=ji hb;subst e1;simp only[VR]at hy pz;obtain⟨l,h1,_⟩:=hy;obtain⟨l',BK,_⟩:=pz;rw[hle.get h1]at BK;cases BK;rfl
 ·obtain⟨hb,_⟩:=zM h;have e1:=ji hb;subst e1;simp only[VR]at hy pz;obtain⟨b,l,h1,_⟩:=hy;obtain⟨b',l',BK,_⟩:=pz;rw[hle.get h1]at BK;cases BK;rfl
 ·obtain⟨hb,rfl⟩:=zM h;simp only[lu]at hb;have e1:=ji hb.1.1;have e2:=ji hb.1.2;have e3:=ji hb.2;subst e1 e2 e3;simp only[VR]at hy pz;obtain⟨b,oo,m,c,l,h1,rfl⟩:=hy;obtain⟨b',oo',m',c',l',BK,rfl⟩:=pz;rw[hle.get h1]at BK;cases BK;rfl
mutual
def CP:V->V->Prop
 | .agg l,v=>match v with
   | .agg l'=>Oo l l'
   |_=>False
 | .je l,v=>match v with
   | .je l'=>Oo l l'
   |_=>False
 |u,v=>y9d u v
def Oo:List V->List V->Prop
 |[],l=>match l with
  |[]=>True
  |_=>False
 |u::us,l=>match l with
  |v::vs=>CP u v/\Oo us vs
  |[]=>False
end
mutual
theorem yFl {E E':Ev} (hle:E.le E'):∀{v' v:V} {y y':aa},CP v' v->VR E v y->VR E' v' y'->y'=y
 | .agg l,v,y,y',h,hy,pz=>by
   simp only[CP]at h;split at h<;>first|exact h.elim|skip
   simp only[VR]at hy pz;obtain⟨ys,rfl,h1⟩:=hy;obtain⟨Ee,rfl,h2⟩:=pz;rw[ZR hle h h1 h2]
 | .je l,v,y,y',h,hy,pz=>by
   simp only[CP]at h;split at h<;>first|exact h.elim|skip
   simp only[VR]at hy pz;obtain⟨ys,rfl,h1⟩:=hy;obtain⟨Ee,rfl,h2⟩:=pz;rw[ZR hle h h1 h2]
 | .top,v,y,y',h,hy,pz=>fD hle (by simpa only[CP]using h) hy pz
 | .d _,v,y,y',h,hy,pz=>fD hle (by simpa only[CP]using h) hy pz
 | .nm _ _,v,y,y',h,hy,pz=>fD hle (by simpa only[CP]using h) hy pz
 | .el _ _ _ _,v,y,y',h,hy,pz=>fD hle (by simpa only[CP]using h) hy pz
 | .re _ _ _ _,v,y,y',h,hy,pz=>fD hle (by simpa only[CP]using h) hy pz
 | .own _,v,y,y',h,hy,pz=>fD hle (by simpa only[CP]using h) hy pz
 | .mp _,v,y,y',h,hy,pz=>fD hle (by simpa only[CP]using h) hy pz
 | .sub _ _,v,y,y',h,hy,pz=>fD hle (by simpa only[CP]using h) hy pz
 | .fn _ _ _,v,y,y',h,hy,pz=>fD hle (by simpa only[CP]using h) hy pz
 | .Ai _ _,v,y,y',h,hy,pz=>fD hle (by simpa only[CP]using h) hy pz
theorem ZR {E E':Ev} (hle:E.le E'):∀{v' v:List V} {y y':List aa},Oo v' v->ic E v y->ic E' v' y'->y'=y
 |[],v,y,y',h,hy,pz=>by
  simp only[Oo]at h;split at h<;>first|exact h.elim|skip
  simp only[ic]at hy pz;rw[hy,pz]
 |u::us,v,y,y',h,hy,pz=>by
  simp only[Oo]at h;split at h<;>first|exact h.elim|skip
  simp only[ic]at hy pz;obtain⟨x,xs,rfl,h1,h2⟩:=hy;obtain⟨x',xs',rfl,BK,h2'⟩:=pz;rw[yFl hle h.1 h1 BK,ZR hle h.2 h2 h2']
end
@[reducible] def Fz:=Nat×(St->Prop)
def JK (bf:List Nat) (i:Nat):List Fz->List Fz
 |[]=>[]
 |m::l=>bif Bt bf i m.1 then JK bf i l else m::JK bf i l
def y7z:List Fz->St->Prop->Prop
 |[],_,X=>X
 |m::ms,s,X=>m.2 s/\y7z ms s X
def y8n (P:ae) (ops:List ao) (ρ:xG) (i:Nat):Bool:=
 match ops[i]? with
 |some o=>match kS P ρ o.op with
  |2=>bz
  |_=>bv
 |none=>bv
def W9:Op->Bool
 | .slice _ _ _ _ av=>bv
 |_=>bz
def yBp {o:Op} (h:W9 o=bv):∃t x lo hi,o= .slice t x lo hi av:=by
 unfold W9 at h;split at h
 ·exact⟨_,_,_,_,rfl⟩
 ·cases h
def FG (P:ae) (H:BN) (ops:List ao) (bf:List Nat):Nat->Array Bool->List Fz->xG->St->(xG->St->Prop)->Prop
 |0,fu,_,ρ,s,K=>
  match cx .any ops.toArray fu with
  |[]=>K ρ s
  |_=>False
 |fuel+1,fu,M,ρ,s,K=>
  match cx .any ops.toArray fu with
  |[]=>K ρ s
  |r::rs=>
   match(r::rs).find? (y8n P ops ρ)with
   |some i=>
    match ops[i]? with
    |none=>False
    |some o=>PD ops o.guard ρ
      (λρ'=>match kS P ρ' o.op with
        |0=>sq P o ρ' λv=>FG P H ops bf fuel (fu.setIfInBounds i bv) M (Bx ρ' o.dst v) s K
        |1=>sr P o ρ' s λv=>FG P H ops bf fuel (fu.setIfInBounds i bv) ((i,λs'=>bif Vh ρ' s o.op then True else sr P o ρ' s' λv'=>CP v' v)::M) (Bx ρ' o.dst v) s K
        |_=>False)
      (λρ'=>FG P H ops bf fuel (fu.setIfInBounds i bv) M (Bx ρ' o.dst (.je [])) s K)
   |none=>Xq (r::rs) λi=>
    match ops[i]? with
    |none=>False
    |some o=>PD ops o.guard ρ
      (λρ'=>se P H o ρ' s λv s'=>bif W9 o.op then FG P H ops bf fuel (fu.setIfInBounds i bv) (JK bf i M) (Bx ρ' o.dst v) s' K else y7z (JK bf i M) s' (FG P H ops bf fuel (fu.setIfInBounds i bv) (JK bf i M) (Bx ρ' o.dst v) s' K))
      (λρ'=>FG P H ops bf fuel (fu.setIfInBounds i bv) (JK bf i M) (Bx ρ' o.dst (.je [])) s K)
inductive oC (k:Ko) (L:List HP) (E:Ev):List Fz->List Mon->Prop
 |nil:oC k L E [] []
 |cons {i:Nat} {f:St->Prop} {g:ab->Prop} {M:List Fz} {N:List Mon}:(∀E' s' w',E.le E'->Rel k L E' s' w'->f s'->g w')->oC k L E M N->oC k L E ((i,f)::M) ((i,g)::N)
def oC.mono {E E':Ev} (hle:E.le E') {M:List Fz} {N:List Mon} (h:oC k L E M N):oC k L E' M N:=by
 induction h with
 |nil=>exact .nil
 |cons h _ ih=>exact .cons (λE2 s w a=>h E2 s w (hle.trans a)) ih
def oC.oB {E:Ev} {bf:List Nat} {i:Nat} {M:List Fz} {N:List Mon} (h:oC k L E M N):oC k L E (JK bf i M) (jZ bf i N):=by
 induction h with
 |nil=>exact .nil
 | @cons j f g M N h _ ih=>
   simp only[JK,jZ,Dt]at ih ⊢;cases hb:Bt bf i j
   ·simpa using .cons h ih
   ·simpa using ih
def oC.all {E E':Ev} (hle:E.le E') {M:List Fz} {N:List Mon} (h:oC k L E M N) {s:St} {w:ab} (R:Rel k L E' s w) {X:Prop} (hm:y7z M s X):FA N w/\X:=by
 induction h with
 |nil=>exact⟨λm hm=>(by cases hm),hm⟩
 |cons h _ ih=>
  obtain⟨h1,h2⟩:=hm;obtain⟨h3,h4⟩:=ih h2;refine⟨λm hm=> ?_,h4⟩;rcases j'.1 hm with rfl|hm
  ·exact h _ _ _ hle R h1
  ·exact h3 m hm
def z7n {H:BN} (hH:I7 P H) {ops:List ao} {n:Nat} {A:Nat->Bool} {e0:Env} {Q:Act->ab->Prop} {E0:Ev} {K:xG->St->Prop} (oZ:lL ops (gT ops [])=bv) (hf:JI n A ops)
 (hQ:∀a w E ρS s,Good n A e0 a->E0.le E->Rel k L E s w->lp E ρS (yQ a)->K ρS s->Q a w):
 ∀(fuel:Nat) (fu:Array Bool) (M:List Fz) (N:List Mon) (a:Act) (w:ab) (E:Ev) (ρS:xG) (s:St),eH ops (qV fu)->FA N w->oC k L E M N->Good n A e0 a->E0.le E->Rel k L E s w->lp E ρS (yQ a)->
  FG P H ops (gT ops []) fuel fu M ρS s K->Dl P ops.toArray (gT ops []) Q fuel N fu a w:=by
 intro fuel
 induction fuel with
 |zero=>
  intro fu M N a w E ρS s hc hM F7 qx hle R he h;unfold FG at h;split at h
  ·rename_i hr;exact⟨hr,hQ a w E ρS s qx hle R he h⟩
  ·exact h.elim
 |succ fuel ih=>
  intro fu M N a w E ρS s hc hM F7 qx hle R he h;unfold FG at h;split at h
  ·rename_i hr;exact⟨λ_=>hQ a w E ρS s qx hle R he h,λi hi=>by rw[hr]at hi;cases hi⟩
  ·rename_i r rs hr;have jy:cx .any ops.toArray fu≠[]:=by rw[hr];simp
   split at h
   ·rename_i i Gr;have hi:i∈cx .any ops.toArray fu:=by rw[hr];exact List.mem_of_find?_eq_some Gr
    split at h<;>first|exact h.elim|skip
    rename_i o ho;have zw:∀v,yQ (a.put o.dst v)=Cv.put (yQ a) o.dst v:=λv=>qx.mi (nW hf ho) v
    have hg:=lE he h;have nx:∀{M:List Fz} {N:List Mon} {v:V} {y:aa},FA N w->oC k L E M N->VR E v y->FG P H ops (gT ops []) fuel (fu.setIfInBounds i bv) M (Bx ρS o.dst v) s K->
     Dl P ops.toArray (gT ops []) Q fuel N (fu.setIfInBounds i bv) (a.put o.dst y) w:=λ{M N v y} hM F7 hv hh=>
     ih _ _ _ _ _ _ _ _ (hZ hc hi) hM F7 (qx.put (nW hf ho) _) hle R (by rw[zw];exact he.put _ hv) hh
    by_cases hw:cw o (yielded ops.toArray a.tmps)=bv
    ·rw[fh hw]at hg;split at hg<;>first|exact hg.elim|skip
     ·obtain⟨v,y,hk,hv,ve⟩:=z4l he hg;rw[vL]at ve;have hs:∀w,lN P ops.toArray o y a w:=λw=> .inl ⟨hw,ve w⟩
      exact fW oZ ho fuel N fu a w hc hi (hs w) hM (nR hs fuel _ _ _ (nx hM F7 hv hk))
     ·cases lr:Vh ρS s o.op
      ·obtain⟨v,y,hk,hv,jq⟩:=Zx R he hg;rw[vL]at jq;simp only[lr,cond_false]at hk;have hs:lN P ops.toArray o y a w:= .inl ⟨hw,jq⟩;refine fW oZ ho fuel N fu a w hc hi hs hM (nx ?_ (.cons ?_ F7) hv hk)
       ·intro m hm;rcases j'.1 hm with rfl|hm
        ·exact hs
        ·exact hM m hm
       ·intro E' s' w' jr R' lr;obtain⟨v',y',qc,Kk,K6⟩:=Zx R' (he.mono jr) lr;rw[vL]at K6;have:=yFl jr qc hv Kk;subst this;exact .inl ⟨hw,K6⟩
      ·obtain⟨v,y,hk,hv,jq⟩:=yLw R he lr hg;rw[vL]at jq;simp only[lr,cond_true]at hk;have hs:lN P ops.toArray o y a w:= .inl ⟨hw,jq E s w (Ev.le.refl _) R⟩;refine fW oZ ho fuel N fu a w hc hi hs hM (nx ?_ (.cons ?_ F7) hv hk)
       ·intro m hm;rcases j'.1 hm with rfl|hm
        ·exact hs
        ·exact hM m hm
       ·intro E' s' w' jr R' _;exact .inl ⟨hw,jq E' s' w' jr R'⟩
    ·rw[eg hw]at hg;have hs:∀w,lN P ops.toArray o af a w:=λw=> .inr ⟨i9 hw,rfl⟩
     exact fW oZ ho fuel N fu a w hc hi (hs w) hM (nR hs fuel _ _ _ (nx hM F7 (zGh E) hg))
   ·refine⟨λh0=>absurd h0 jy,λi hi=> ?_⟩;have h1:=Y' h i (by rw[<- hr];exact hi);split at h1<;>first|exact h1.elim|skip
    rename_i o ho;have zw:∀v,yQ (a.put o.dst v)=Cv.put (yQ a) o.dst v:=λv=>qx.mi (nW hf ho) v
    have hg:=lE he h1;unfold EM;simp only[Bj,ho];by_cases hw:cw o (yielded ops.toArray a.tmps)=bv
    ·rw[fh hw]at hg ⊢;cases zc:W9 o.op with
     |true=>
      obtain⟨t,x,lo,O8,oK⟩:=yBp zc;obtain⟨y,Ib,E',v,s',jr,R',hv,hh⟩:=z3u R he oK hg;rw[vL]at Ib;rw[zc]at hh;have DD:FA (jZ (gT ops []) i N) w:=λm hm=>hM m (by simp only[jZ,vi]at hm;exact hm.1)
      exact wX (Ib w) ⟨DD,ih _ _ _ _ _ _ _ _ (hZ hc hi) DD (F7.oB.mono jr) (qx.put (nW hf ho) _) (hle.trans jr) R' (by rw[zw];exact(he.mono jr).put _ hv) hh⟩
     |false=>
     have B5:=z7a hH R he hg;rw[vL]at B5;refine B5.mono ?_;rintro y w' ⟨E',v,s',jr,R',hv,hh⟩;rw[zc]at hh;obtain⟨DD,hh⟩:=(F7.oB (bf:=gT ops []) (i:=i)).all jr R' hh;exact⟨DD,ih _ _ _ _ _ _ _ _ (hZ hc hi) DD (F7.oB.mono jr) (qx.put (nW hf ho) _) (hle.trans jr) R' (by rw[zw];exact(he.mono jr).put _ hv) hh⟩
    ·rw[eg hw]at hg ⊢;have DD:FA (jZ (gT ops []) i N) w:=λm hm=>hM m (by simp only[jZ,vi]at hm;exact hm.1)
     exact⟨DD,ih _ _ _ _ _ _ _ _ (hZ hc hi) DD F7.oB (qx.put (nW hf ho) _) hle R (by rw[zw];exact he.put _ (zGh E)) hg⟩
variable {P:ae} {k:Ko} {L:List HP}
structure gu where
 ι:Type
 du:ι->List (Nat×V)
 rows:ι->List fq
 oB:Nat->Bool:=λ_=>bv
 un:Nat:=0
 o8:ι->List (Nat×V):=λ_=>[]
 mf:ι->List fq:=λ_=>[]
 lits:List (Nat×aa):=[]
 Dy:List Nat:=[]
 fr:Nat->Bool:=λ_=>bz
def gu.qd (x:gu):gu:={x with du:=x.o8,rows:=x.mf}
def OR:Code->Nat
 | .region i _ _=>i
 | .seq a _=>OR a
 | .block _ a=>OR a
 | .loop a=>OR a
 | .cond _ a _=>OR a
 |_=>0
def xIu:Code->Nat
 | .region i _ _=>4*i
 | .cond c a b=>4*OR (.cond c a b)+1
 | .seq a b=>4*OR a+2
 | .block id _=>4*id+3
 |_=>0
def y3n (n:Nat):List (Nat×gu)->Option gu
 |[]=>av
 |(m,x)::l=>bif aw m n then au x else y3n n l
def Xy (t:Nat):List (Nat×V)->Option V
 |[]=>av
 |(u,v)::l=>bif aw u t then au v else Xy t l
def Ps (ρ:xG):List (Nat×V)->List V
 |[]=>[]
 |(t,_)::l=>ρ t::Ps ρ l
def Rt:List (Nat×V)->List V
 |[]=>[]
 |(_,v)::l=>v::Rt l
def XH:fq->Bool
 | .own _ _ _=>bv
 | .AR=>bv
 | .kr _ _=>bv
 | .km _ _ _ _ _ _=>bv
 |_=>bz
def vF (fr:Nat->Bool) (π:NM):Nat->List fq->NM
 |_,[]=>[]
 |p,o::os=>bif XH o then vF fr π (p+1) os else bif fr p then vF fr π (p+1) os else match yD p π with
  |some n=>(p,n)::vF fr π (p+1) os
  |none=>vF fr π (p+1) os
def aY (fr:Nat->Bool) (N:Nat) (π:NM):Nat->List fq->NM
 |_,[]=>[]
 |p,o::os=>bif XH o then(p,N+p)::aY fr N π (p+1) os else bif fr p then(p,N+p)::aY fr N π (p+1) os else match yD p π with
  |some n=>(p,n)::aY fr N π (p+1) os
  |none=>aY fr N π (p+1) os
def Ix (N:Nat) (st:NM):Nat->NM
 |0=>[]
 |p+1=>(p,(yD p st).getD (N+p))::Ix N st p
def Zz {N:Nat} {st:NM} {p q:Nat}:∀{m:Nat},yD p (Ix N st m)=au q->q=N+p\/yD p st=au q
 |0,h=>by cases h
 |m+1,h=>by
  simp only[Ix,yD]at h;cases hb:aw m p
  ·rw[hb]at h;exact Zz h
  ·rw[hb]at h;have:=ji hb;subst this;simp only[cond_true,cg]at h;cases hs:yD m st with
   |none=>rw[hs]at h;exact .inl h.symm
   |some n=>rw[hs]at h;exact .inr (by rw[<- h];rfl)
def sO {fr:Nat->Bool} {π:NM} {p q:Nat}:∀{os:List fq} {p0:Nat},yD p (vF fr π p0 os)=au q->yD p π=au q
 |[],p0,h=>by cases h
 |o::os,p0,h=>by
  simp only[vF]at h;cases ho:XH o<;>rw[ho]at h
  ·cases hf:fr p0<;>rw[hf]at h
   ·simp only[cond_false]at h;split at h
    ·rename_i n hn;simp only[yD]at h;cases hb:aw p0 p
     ·rw[hb]at h;exact sO h
     ·rw[hb]at h;cases h;rw[<- ji hb];exact hn
    ·exact sO h
   ·exact sO h
  ·exact sO h
def NZ {fr:Nat->Bool} {N:Nat} {π:NM} {p q:Nat}:∀{os:List fq} {p0:Nat},yD p (aY fr N π p0 os)=au q->q=N+p\/yD p (vF fr π p0 os)=au q
 |[],p0,h=>by cases h
 |o::os,p0,h=>by
  simp only[aY,vF]at h ⊢;cases ho:XH o<;>rw[ho]at h
  ·cases hf:fr p0<;>rw[hf]at h
   ·simp only[cond_false]at h ⊢;split at h
    ·rename_i n hn;simp only[yD]at h ⊢;cases hb:aw p0 p
     ·rw[hb]at h;exact NZ h
     ·rw[hb]at h;exact .inr h
    ·exact NZ h
   ·simp only[cond_true,cond_false,yD]at h ⊢;cases hb:aw p0 p
    ·rw[hb]at h;exact NZ h
    ·rw[hb]at h;cases h;left;rw[ji hb]
  ·simp only[cond_true,yD]at h ⊢;cases hb:aw p0 p
   ·rw[hb]at h;exact NZ h
   ·rw[hb]at h;cases h;left;rw[ji hb]
def NW (vm:NM) (du:List (Nat×V)) (as:List Nat) (ρ:xG):xG:=λt=>
 match Xy t du with
 |some v=>Bb vm v
 |none=>bif rQ t as then .top else ρ t
mutual
def Ed (N:Nat):V->Bool
 | .nm n _=>ax n N
 | .el n _ _ _=>ax n N
 | .own n=>ax n N
 | .na n _ _=>ax n N
 | .mp n=>ax n N
 | .sub n _=>ax n N
 | .agg l=>JX N l
 | .je l=>JX N l
 | .fn _ a b=>JX N a && JX N b
 | .Ai _ x=>Ed N x
 |_=>bv
def JX (N:Nat):List V->Bool
 |[]=>bv
 |v::l=>Ed N v && JX N l
end
def y8l (N:Nat):fq->Bool
 | .cells vs _=>JX N vs
 | .uq _ _ _ _ _ _ _ (au m)=>ax m N
 |_=>bv
def PW (N:Nat):List (Nat×fq)->Bool
 |[]=>bv
 |(n,o)::l=>ax n N && y8l N o && PW N l
def kZ (oB:Nat->Bool):List (Nat×fq)->List (Nat×fq)
 |[]=>[]
 |(n,o)::l=>bif oB n then(n,o)::kZ oB l else kZ oB l
def Lw:List (Nat×fq)->St->Prop
 |[],_=>True
 |[(n,o)],s=>match s.C8 n with
  |some o'=>o'=o
  |none=>False
 |(n,o)::l,s=>match s.C8 n with
  |some o'=>o'=o/\Lw l (s.del n)
  |none=>False
def Pz (N:Nat) (vm:NM) (rows:List fq) (kept:List (Nat×fq)):St:=⟨k0 vm 0 rows++kept,N+rows.length⟩
def NR (next:xG->St->Prop) (Q:Exit->xG->St->Prop):Exit->xG->St->Prop
 | .normal,ρ,s=>next ρ s
 |e,ρ,s=>Q e ρ s
def yRp (id:Nat) (Q:Exit->xG->St->Prop):Exit->xG->St->Prop
 | .exit FV,ρ,s=>bif aw FV id then Q .normal ρ s else Q (.exit FV) ρ s
 |e,ρ,s=>Q e ρ s
def NP (x:gu) (i:x.ι) (π0:NM) (ρ:xG) (s:St) (K:NM->St->Prop):Prop:=
 El (Rt (x.du i)) (Ps ρ (x.du i)) π0 s λπ s=>IN 0 (x.rows i) π s λπ s=>bif lH (x.rows i).length π then K π s else False
def yPi (f:(Exit->xG->St->Prop)->xG->St->Prop) (Q:Exit->xG->St->Prop):Nat->xG->St->Prop
 |0,_,_=>False
 |n+1,ρ,s=>f (NR (yPi f Q n) Q) ρ s
def PF (n:Nat) (s:St):St:=
 match s.get n with
 |some (.rk _ m iA x)=>bif ay 1 m then⟨(n,(Lt (s.del n) n m (iA x)).1)::(Lt (s.del n) n m (iA x)).2.rows,(Lt (s.del n) n m (iA x)).2.nx⟩else s
 |_=>s
def Vf:List Nat->St->St
 |[],s=>s
 |n::l,s=>Vf l (PF n s)
def zZa {w:ab} {E:Ev} {s:St} (R:Rel k L E s w) (n:Nat):∃E',E.le E'/\Rel k L E' (PF n s) w:=by
 unfold PF;split
 ·rename_i T m iA x hg;cases hb:ay 1 m
  ·exact⟨E,Ev.le.refl _,R⟩
  ·obtain⟨E',h1,h2⟩:=(R.take hg).unfold (Cj hb);refine⟨E',h1,⟨h2.nx,?_⟩⟩;have:=h2.out;simpa using this
 ·exact⟨E,Ev.le.refl _,R⟩
def zHu {w:ab}:∀(l:List Nat) {E:Ev} {s:St} (R:Rel k L E s w),∃E',E.le E'/\Rel k L E' (Vf l s) w
 |[],E,s,R=>⟨E,Ev.le.refl _,R⟩
 |n::l,E,s,R=>by
  obtain⟨E1,h1,h2⟩:=zZa R n;obtain⟨E2,h3,h4⟩:=zHu l h2;exact⟨E2,h1.trans h3,h4⟩
def yBs:List Nat->xG->St->St
 |[],_,s=>s
 |t::ts,ρ,s=>yBs ts ρ (match ρ t with
  | .nm n 0=>PF n s
  |_=>s)
def zZe {w:ab} {ρ:xG}:∀(l:List Nat) {E:Ev} {s:St} (R:Rel k L E s w),∃E',E.le E'/\Rel k L E' (yBs l ρ s) w
 |[],E,s,R=>⟨E,Ev.le.refl _,R⟩
 |t::ts,E,s,R=>by
  obtain⟨E1,h1,h2⟩:∃E',E.le E'/\Rel k L E' (match ρ t with
   | .nm n 0=>PF n s
   |_=>s) w:=by
   split
   ·exact zZa R _
   ·exact⟨E,Ev.le.refl _,R⟩
  obtain⟨E2,h3,h4⟩:=zZe ts h2;exact⟨E2,h1.trans h3,h4⟩
def xCw (t:Nat) (x:aa) (ρ:xG) (s:St) (K:xG->St->Prop):Prop:=bif ax t 1000 then(match ρ t with
 | .d (.v y)=>y=x/\K (λu=>bif aw u t then .d (.v x)else ρ u) s
 |_=>False)else(match ρ (t % 1000)with
 | .nm n o=>match s.get n with
   |some (.cells vs T)=>match vs[o+t / 1000-1]? with
    |some (.d (.v y))=>y=x/\K ρ (s.set n (.cells (vs.set (o+t / 1000-1) (.d (.v x))) T))
    |_=>False
   |_=>False
 |_=>False)
def yBl:List (Nat×aa)->xG->St->(xG->St->Prop)->Prop
 |[],_,_,_=>False
 |(t,x)::l,ρ,s,K=>xCw t x ρ s K\/yBl l ρ s K
def ni (P:ae) (H:BN) (J:List (Nat×gu)):List gu->Code->(Exit->xG->St->Prop)->xG->St->Prop
 |_,.skip,Q,ρ,s=>Q .normal ρ s
 |an,.seq a b,Q,ρ,s=>match y3n (xIu a) J with
  |none=>ni P H J (an.take (nL a)) a (NR (λρ s=>ni P H J (an.drop (nL a)) b Q ρ s) Q) ρ s
  |some x=>match x.Dy with
   |t0::ts=>ni P H J (an.take (nL a)) a (NR (λρ s=>ni P H J (an.drop (nL a)) b Q ρ (yBs (t0::ts) ρ s)) Q) ρ s
   |[]=>match x.lits with
   |l0::ls=>ni P H J (an.take (nL a)) a (NR (λρ s=>yBl (l0::ls) ρ s λρ s=>ni P H J (an.drop (nL a)) b Q ρ s) Q) ρ s
   |[]=>∃i0,NP x.qd i0 [] ρ s λπ s1=>∃(I:x.ι->Prop),(bif PW s1.nx (kZ x.oB s1.rows)then
    ni P H J (an.take (nL a)) a (NR (λρ' s'=>∃i',NP x i' (vF x.fr π 0 (x.mf i0)) ρ' s' λ_ s2=>I i'/\Lw (kZ x.oB s1.rows) s2) Q)
     (NW (Ix s1.nx (vF x.fr π 0 (x.mf i0)) (x.mf i0).length) (x.o8 i0) [] ρ) (Pz s1.nx (Ix s1.nx (vF x.fr π 0 (x.mf i0)) (x.mf i0).length) (x.mf i0) (kZ x.oB s1.rows))/\
    ∀i,I i->ni P H J (an.drop (nL a)) b Q (NW (Ix s1.nx (vF x.fr π 0 (x.mf i0)) (x.rows i).length) (x.du i) (uz a) ρ) (Pz s1.nx (Ix s1.nx (vF x.fr π 0 (x.mf i0)) (x.rows i).length) (x.rows i) (kZ x.oB s1.rows))else False)
 |an,.cond c a b,Q,ρ,s=>
  match lz ρ c with
  | .d (.v (.bool t))=>dp t (ni P H J (an.take (nL a)) a Q ρ s) (ni P H J (an.drop (nL a)) b Q ρ s)
  |_=>False
 |an,.block id a,Q,ρ,s=>ni P H J an a (yRp id Q) ρ s
 |an,.loop a,Q,ρ,s=>
  match an with
  |[]=>False
  |x::rest=>bif ax 0 x.un then yPi (λQ ρ s=>ni P H J rest a Q ρ s) Q x.un ρ s else ∃i0,NP x i0 [] ρ s λπ s1=>∃(I:x.ι->Prop) (μ:x.ι->Nat),I i0/\(bif PW s1.nx (kZ x.oB s1.rows)then
    ∀i,I i->ni P H J rest a (NR (λρ' s'=>∃i',NP x i' (vF x.fr π 0 (x.rows i0)) ρ' s' λ_ s2=>I i'/\μ i'<μ i/\Lw (kZ x.oB s1.rows) s2) Q)
     (NW (aY x.fr s1.nx π 0 (x.rows i0)) (x.du i) (uz a) ρ) (Pz s1.nx (aY x.fr s1.nx π 0 (x.rows i0)) (x.rows i) (kZ x.oB s1.rows))else False)
 |_,.exit id,Q,ρ,s=>Q (.exit id) ρ s
 |_,.ret,Q,ρ,s=>Q .ret ρ s
 |_,.region _ ops d,Q,ρ,s=>bif d then FG P H ops.toList (gT ops.toList []) ops.toList.length (cq ops.toList.length bz) [] ρ s (Q .normal)
    else Rn P H ops.toList ops.toList ρ s (Q .normal)
 |_,_,_,_,_=>False
def XI (k:Ko) (L:List HP) (n:Nat) (A:Nat->Bool) (e0:Env) (E0:Ev) (Q:Exit->xG->St->Prop):Exit->Act->ab->Prop:=λe a w=>
 Good n A e0 a/\∃E ρS s,E0.le E/\Rel k L E s w/\lp E ρS (yQ a)/\Q e ρS s
mutual
theorem VR.low {F:PH} {gl oJ:List Hd} {N:Nat} (h:∀n,n<N->∀hd,gl[n]? =au hd->oJ[n]? =au hd):∀{v:V} {y:aa},Ed N v=bv->VR ⟨F,gl⟩ v y->VR ⟨F,oJ⟩ v y
 | .top,y,hl,e=>by simp only[VR]
 | .d d,y,hl,e=>by simpa only[VR]using e
 | .nm n o,y,hl,e=>by
   simp only[Ed,yx]at hl;simp only[VR]at e ⊢;obtain⟨b,oo,l,h1,h2⟩:=e;exact⟨b,oo,l,h n hl _ h1,h2⟩
 | .el n sz i f,y,hl,e=>by
   simp only[Ed,yx]at hl;simp only[VR]at e ⊢;obtain⟨b,oo,m,c,l,h1,h2⟩:=e;exact⟨b,oo,m,c,l,h n hl _ h1,h2⟩
 | .re sz fa i f,y,hl,e=>by simpa only[VR]using e
 | .na n o i,y,hl,e=>by
   simp only[Ed,yx]at hl;simp only[VR]at e ⊢;obtain⟨b,oo,l,h1,h2⟩:=e;exact⟨b,oo,l,h n hl _ h1,h2⟩
 | .own n,y,hl,e=>by
   simp only[Ed,yx]at hl;simp only[VR]at e ⊢;obtain⟨l,h1,h2⟩:=e;exact⟨l,h n hl _ h1,h2⟩
 | .mp n,y,hl,e=>by
   simp only[Ed,yx]at hl;simp only[VR]at e ⊢;obtain⟨b,l,h1,h2⟩:=e;exact⟨b,l,h n hl _ h1,h2⟩
 | .sub n i,y,hl,e=>by
   simp only[Ed,yx]at hl;simp only[VR]at e ⊢;obtain⟨hd,l,b,oo,h1,h2⟩:=e;exact⟨hd,l,b,oo,h n hl _ h1,h2⟩
 | .agg l,y,hl,e=>by
   simp only[Ed]at hl;simp only[VR]at e ⊢;obtain⟨ys,h1,h2⟩:=e;exact⟨ys,h1,ic.low h hl h2⟩
 | .je l,y,hl,e=>by
   simp only[Ed]at hl;simp only[VR]at e ⊢;obtain⟨ys,h1,h2⟩:=e;exact⟨ys,h1,ic.low h hl h2⟩
 | .fn f a b,y,hl,e=>by
   simp only[Ed,lu]at hl;simp only[VR]at e ⊢;obtain⟨as,bs,h1,h2,h3⟩:=e;exact⟨as,bs,h1,ic.low h hl.1 h2,ic.low h hl.2 h3⟩
 | .Ai t x,y,hl,e=>by
   simp only[Ed]at hl;simp only[VR]at e ⊢;obtain⟨z,h1,h2⟩:=e;exact⟨z,h1,VR.low h hl h2⟩
theorem ic.low {F:PH} {gl oJ:List Hd} {N:Nat} (h:∀n,n<N->∀hd,gl[n]? =au hd->oJ[n]? =au hd):∀{vs:List V} {l:List aa},JX N vs=bv->ic ⟨F,gl⟩ vs l->ic ⟨F,oJ⟩ vs l
 |[],l,hl,e=>by simpa only[ic]using e
 |v::vs,l,hl,e=>by
  simp only[JX,lu]at hl;simp only[ic]at e ⊢;obtain⟨x,xs,h1,h2,h3⟩:=e;exact⟨x,xs,h1,VR.low h hl.1 h2,ic.low h hl.2 h3⟩
end
def fw.low {F:PH} {gl oJ:List Hd} {N:Nat} (h:∀n,n<N->∀hd,gl[n]? =au hd->oJ[n]? =au hd) {o:fq} (hl:y8l N o=bv) {hd:Hd} {x:PH} (e:fw F o gl hd x):fw F o oJ hd x:=by
 cases o<;>first|exact e.gl rfl|skip
 ·simp only[fw]at e ⊢;obtain⟨b,l,h1,h2,h3⟩:=e;exact⟨b,l,h1,h2.low h hl,h3⟩
 ·rename_i q t sz fa i f b m;simp only[fw]at e ⊢;obtain⟨a,k,ys,xs,h1,h2,h3,h4,h5⟩:=e;refine⟨a,k,ys,xs,h1,h2,h3,?_,h5⟩;cases m with
  |none=>exact h4
  |some m=>
   simp only[y8l,yx]at hl;obtain⟨y,l,e1,e2⟩:=h4;exact⟨y,l,h m hl _ e1,e2⟩
def zYd {E:Ev} {ρS:xG} {ρ:Env} (he:lp E ρS ρ):∀l:List (Nat×V),ic E (Ps ρS l) (l.map λp=>ρ p.1)
 |[]=>by simp[Ps,ic]
 |(t,v)::l=>by simp only[Ps,jg,ic];exact⟨_,_,rfl,he t,zYd he l⟩
def z7w {F:PH} {tl:List Hd} {ρ:Env}:∀{l:List (Nat×V)},ic ⟨F,tl⟩ (Rt l) (l.map λp=>ρ p.1)->∀{t:Nat} {v:V},Xy t l=au v->VR ⟨F,tl⟩ v (ρ t)
 |[],_,t,v,h=>by cases h
 |(u,x)::l,hv,t,v,h=>by
  simp only[Rt,jg,ic]at hv;obtain⟨y,ys,e,h1,h2⟩:=hv;cases e;simp only[Xy]at h;cases hb:aw u t
  ·rw[hb]at h;exact z7w h2 h
  ·rw[hb]at h;cases h;rw[<- ji hb];exact h1
def z1d {w:ab} {E3 E4:Ev} (hF:E3.F=E4.F) {N:Nat} (C5:∀n,n<N->∀hd,E3.gl[n]? =au hd->E4.gl[n]? =au hd):∀{kept:List (Nat×fq)} {s:St} {M:List HP},Lw kept s->PW N kept=bv->
 Hp k w (s.rows.map (ie E3)++M)->Hp k w (kept.map (ie E4)++M)
 |[],s,M,_,_,H=>by
  have:∀(l:List (Nat×fq)),Hp k w (l.map (ie E3)++M)->Hp k w M:=by
   intro l
   induction l with
   |nil=>intro H;exact H
   |cons a l ih=>intro H;exact ih H.drop
  exact this _ H
 |(n,o)::kept,s,M,hk,hl,H=>by
  simp only[PW,lu,yx]at hl;have kq:s.get n=au o/\Lw kept (s.del n):=by
   cases kept with
   |nil=>
    simp only[Lw]at hk;split at hk<;>first|exact hk.elim|skip
    rename_i o' ho;subst hk;exact⟨(Ws ho).1,Y_⟩
   |cons a l=>
    simp only[Lw]at hk;split at hk<;>first|exact hk.elim|skip
    rename_i o' ho;obtain⟨rfl,hk⟩:=hk;exact⟨(Ws ho).1,hk⟩
  have H1:Hp k w (ie E3 (n,o)::((s.del n).rows.map (ie E3)++M)):=by
   refine H.perm ?_;have:=((uH kq.1).1.map (ie E3)).append_right M;simpa[St.del]using this
  have H2:Hp k w ((s.del n).rows.map (ie E3)++(ie E3 (n,o)::M)):=H1.perm mu.symm;have H3:=z1d hF C5 kq.2 hl.2 H2;refine(H3.perm mu).imp λx hx=> ?_
  rcases hx with⟨e,e2⟩|⟨hd,h1,h2⟩
  ·exact .inl ⟨e,e2⟩
  ·exact .inr ⟨hd,C5 n hl.1.1 _ h1,hF▸h2.low C5 hl.1.2⟩
def VK {w:ab} {x:gu} {i:x.ι} {π0:NM} {ρS:xG} {ρ:Env} {s:St} {K:NM->St->Prop} {E:Ev} (h:NP x i π0 ρS s K) (R:Rel k L E s w) (he:lp E ρS ρ) (Sf:AM π0 E.gl):
 ∃E3 s3 π3,E.le E3/\K π3 s3/\Ext π0 π3/\AM π3 E3.gl/\E3.gl.length=s3.nx/\∀(E1:Ev) (kept:List (Nat×fq)) (N:Nat) (ρ0:xG) (as:List Nat) (vm:NM),(∀p q,yD p vm=au q->q=N+p\/(yD p π3=au q/\q<N))->E1.gl.length=N->yd E1.F E3.F->E1.gl<+:E3.gl->(∀E4:Ev,E3.F=E4.F->E1.le E4->(∀n,n<N->∀hd,E3.gl[n]? =au hd->E4.gl[n]? =au hd)->∀M,Hp k w (s3.rows.map (ie E3)++M)->Hp k w (kept.map (ie E4)++M))->(∀t,rQ t as=bz->VR E1 (ρ0 t) (ρ t))->
  ∃E4,E1.le E4/\Rel k L E4 (Pz N vm (x.rows i) kept) w/\lp E4 (NW vm (x.du i) as ρ0) ρ:=by
 unfold NP at h;obtain⟨E2,π2,s2,q1,q2,q3⟩:=JT h R Sf (zYd he _);obtain⟨E3,π3,s3,r1,r2⟩:=W2 q3 q1.rel q1.wf;obtain⟨gr,hk⟩:=zM r2;have gr:=nH gr;refine⟨E3,s3,π3,q1.le.trans r1.le,hk,q1.ext.trans r1.ext,r1.wf,r1.rel.nx,?_⟩;intro E1 kept N ρ0 as vm hre hN hF MS B4 EF
 let m:=(x.rows i).length
 let tl:List Hd:=(az m).map λp=>(E3.gl[(yD p π3).getD 0]?).getD (af,[])
 have tm:Loc π3 E3.gl tl:=by
  intro p n hp;obtain⟨hd,h'⟩:=r1.wf p n hp;refine⟨hd,h',?_⟩;show((az m).map _)[p]? =_;rw[ra,Mh (gr p n hp)];simp only[wz,hp,Ae,h']
 have IQ:tl.length=m:=by simp[tl]
 let E4:Ev:=⟨E3.F,E1.gl++tl⟩
 have rm:E1.le E4:=⟨hF,Kd _ _⟩
 have K7:∀n,n<N->∀hd,E3.gl[n]? =au hd->E4.gl[n]? =au hd:=by
  intro n hn hd e;have h1:E1.gl[n]? =au hd:=by
   rw[vl X_];have:E3.gl[n]? =au (E1.gl[n]' X_):=U5 MS (vl X_);rw[this]at e;exact e
  exact rm.get h1
 have AT:∀p n hd,yD p vm=au n->tl[p]? =au hd->E4.gl[n]? =au hd:=by
  intro p n hd hp ht;rcases hre p n hp with rfl|⟨h1,h2⟩
  ·show(E1.gl++tl)[N+p]? =au hd;rw[<- hN,Ck X_,show E1.gl.length+p-E1.gl.length=p by omega];exact ht
  ·obtain⟨oU,e1,e2⟩:=tm p n h1;rw[ht]at e2;cases e2;exact K7 n h2 _ e1
 refine⟨E4,rm,⟨by show(E1.gl++tl).length=N+m;rw[ix,IQ,hN],?_⟩,?_⟩
 ·have H:=r1.rel.AY;have H1:=vD (g:=ie ⟨E3.F,tl⟩) (λr y hy=>by
   rcases hy with⟨e1,e2⟩|⟨n,h1,h2⟩
   ·exact .inl ⟨e1,e2⟩
   ·right;obtain⟨hd,h3,h4⟩:=h2 E3 π3 (Ev.le.refl _) (Ext.refl _) tl tm;obtain⟨oU,h5,h6⟩:=tm _ _ h1;rw[h3]at h5;cases h5;exact⟨hd,h6,h4⟩) H
  have H2:=rH (E:=⟨E3.F,tl⟩) (E2:=E4) rfl AT H1;have H3:Hp k w (s3.rows.map (ie E3)++((k0 vm 0 (x.rows i)).map (ie E4)++fz E3.F::L)):=by
   refine H2.perm ?_;rw[<- jd,<- jd];exact BC.append_right _
  have H4:=B4 E4 rfl rm K7 _ H3;refine H4.perm ?_;show(kept.map (ie E4)++((k0 vm 0 (x.rows i)).map (ie E4)++fz E3.F::L)).Perm ((k0 vm 0 (x.rows i)++kept).map (ie E4)++fz E4.F::L);rw[<- jd,jh];exact BC.append_right _
 ·intro t;have zc:ic ⟨E3.F,tl⟩ (Rt (x.du i)) ((x.du i).map λp=>ρ p.1):=q2 E3 π3 r1.le r1.ext tl tm;unfold NW;split
  ·rename_i v hv;exact(z7w zc hv).vm AT
  ·cases hb:rQ t as
   ·exact(EF t hb).mono rm
   ·simp only[cond_true,VR]
def V6 {w:ab} {E:Ev} {oB:Nat->Bool}:∀{l:List (Nat×fq)} {M:List HP},Hp k w (l.map (ie E)++M)->Hp k w ((kZ oB l).map (ie E)++M)
 |[],M,H=>H
 |(n,o)::l,M,H=>by
  simp only[kZ];cases oB n
  ·exact V6 H.drop
  ·have H1:Hp k w (l.map (ie E)++(ie E (n,o)::M)):=H.perm mu.symm;exact(V6 H1).perm mu
def zYs {n:Nat} {o:fq}:∀{l:List (Nat×fq)},sN n l=au o->rR n o l=l
 |[],h=>by cases h
 |(m,p)::l,h=>by
  simp only[sN,rR]at h ⊢;cases hb:aw m n
  ·rw[hb]at h;rw[cond_false,zYs (l:=l) h]
  ·rw[hb]at h;cases h;rfl
def zWz {E:Ev} {env:Env} {K:xG->St->Prop} {s:St}:∀{l:List (Nat×aa)} {ρ:xG},yBl l ρ s K->lp E ρ env->∃ρ',lp E ρ' env/\K ρ' s
 |[],ρ,h,_=>h.elim
 |(t,x)::l,ρ,h,he=>by
  rcases h with h|h
  ·unfold xCw at h;cases Pb:ax t 1000
   ·rw[Pb,cond_false]at h;split at h<;>first|exact h.elim|skip
    split at h<;>first|exact h.elim|skip
    rename_i n o hn _ vs T hg;split at h<;>first|exact h.elim|skip
    rename_i y hy;obtain⟨rfl,hk⟩:=h;obtain⟨h1,h2⟩:=jk.1 hy;rw[<- h2,List.set_getElem_self]at hk;refine⟨ρ,he,?_⟩;have:s.set n (.cells vs T)=s:=by rw[St.set,zYs hg]
    rwa [this]at hk
   ·rw[Pb,cond_true]at h;split at h<;>first|exact h.elim|skip
    rename_i y hy;obtain⟨rfl,hk⟩:=h;refine⟨_,λu=> ?_,hk⟩;have:=he u;cases hb:aw u t
    ·exact this
    ·rw[ji hb]at this ⊢;rw[hy]at this;exact this
  ·exact zWz h he
def z7b {H:BN} (hH:I7 P H) (hm:P.follows .mixedOrders=bv) {J:List (Nat×gu)} {n:Nat}:∀(c:Code) (an:List gu) (Q:Exit->xG->St->Prop) (A:Nat->Bool) (e0:Env) (E0 E:Ev) (a:Act) (w:ab) (ρS:xG) (s:St),
 xx n c=bv->(∀t∈uz c,A t=bv)->Good n A e0 a->E0.le E->Rel k L E s w->lp E ρS (yQ a)->ni P H J an c Q ρS s->c.wp P (XI k L n A e0 E0 Q) a w:=by
 intro c
 induction c with
 |skip=>intro an Q A e0 E0 E a w ρS s _ _ hg hle R he h;exact wp_skip ⟨hg,E,ρS,s,hle,R,he,h⟩
 |region id ops d=>
  intro an Q A e0 E0 E a w ρS s hc hA hg hle R he h;simp only[xx,lu]at hc;have yl:=z4t (A:=A) hc.1 hA;cases d
  ·refine wp_region_list ?_;exact zOu (Q:=XI k L n A e0 E0 Q) (E0:=E0) (K:=Q .normal) hH (λa w E ρS s hg hle R he h=>⟨hg,E,ρS,s,hle,R,he,h⟩) ops.toList a w E ρS s yl hg hle R he h
  ·refine wp_region_any hm ?_;have oZ:lL ops.toList (gT ops.toList [])=bv:=hc.2;have rp:lp E ρS (yQ a):=he;have R':Rel k L E s w.drew:=⟨R.nx,R.hp.drew⟩
   refine fF (Q:=λa w=>XI k L n A e0 E0 Q .normal a w) (λ_ _ h=>h) ops.size _ _ _ (M:=[]) (bf:=gT ops.toList []) ?_;have A5:eH ops.toList (qV (cq ops.toList.length bz)):=by
    intro i o ho hi;exfalso;unfold qV at hi;simp[CO]at hi;rw[XU]at hi;split at hi<;>simp at hi
   have:=z7n (P:=P) (K:=Q .normal) (E0:=E0) (Q:=λa w=>XI k L n A e0 E0 Q .normal a w) hH oZ yl (λa w E ρS s hg hle R he h=>⟨hg,E,ρS,s,hle,R,he,h⟩) ops.toList.length _ [] [] a _ E ρS s A5 (λm hm=>by cases hm) .nil hg hle R' rp h;simpa using this
 |seq x y E9 E8=>
  intro an Q A e0 E0 E a w ρS s hc hA hg hle R he h;simp only[xx,lu,uz,oH]at hc hA;simp only[ni]at h;split at h
  ·refine wp_seq (ak (E9 _ _ A e0 E0 E a w ρS s hc.1 (λt ht=>hA t (.inl ht)) hg hle R he h) ?_);rintro e a' w' ⟨qo,E',ρ',s',jr,R',rp,h'⟩;cases e<;>first|exact E8 _ _ A e0 E0 E' a' w' ρ' s' hc.2 (λt ht=>hA t (.inr ht)) qo jr R' rp h'|exact⟨qo,E',ρ',s',jr,R',rp,h'⟩
  rename_i jn hjn;split at h
  ·rename_i t0 ts hts;refine wp_seq (ak (E9 _ _ A e0 E0 E a w ρS s hc.1 (λt ht=>hA t (.inl ht)) hg hle R he h) ?_);rintro e a' w' ⟨qo,E',ρ',s',jr,R',rp,h'⟩;cases e<;>first|exact⟨qo,E',ρ',s',jr,R',rp,h'⟩|skip
   obtain⟨E2,uh,R2⟩:=zZe (ρ:=ρ') (t0::ts) R';exact E8 _ _ A e0 E0 E2 a' w' ρ' _ hc.2 (λt ht=>hA t (.inr ht)) qo (jr.trans uh) R2 (rp.mono uh) h'
  split at h
  ·rename_i l0 ls Sv;refine wp_seq (ak (E9 _ _ A e0 E0 E a w ρS s hc.1 (λt ht=>hA t (.inl ht)) hg hle R he h) ?_);rintro e a' w' ⟨qo,E',ρ',s',jr,R',rp,h'⟩;cases e<;>first|exact⟨qo,E',ρ',s',jr,R',rp,h'⟩|skip
   obtain⟨ρ2,O9,h2⟩:=zWz h' rp;exact E8 _ _ A e0 E0 E' a' w' ρ2 s' hc.2 (λt ht=>hA t (.inr ht)) qo jr R' O9 h2
  ·obtain⟨i0,h⟩:=h;obtain⟨E1,s1,π1,xq,⟨I,ui⟩,_,Gc,Kq,hmk⟩:=VK (x:=jn.qd) h R he (λp n e=>by cases e);obtain⟨C5,UA,B1⟩:=zM ui;have C4:∀p q,yD p (vF jn.fr π1 0 (jn.mf i0))=au q->yD p π1=au q/\q<s1.nx:=λp q e=>by
    have h1:=sO e;obtain⟨hd,h2⟩:=Gc p q h1;exact⟨h1,by rw[<- Kq];exact(jk.1 h2).1⟩
   have DQ:∀t,rQ t []=bz->VR E1 (ρS t) (yQ a t):=λt _=>(he t).mono xq
   obtain⟨E2,uh,R2,O9⟩:=hmk E1 (kZ jn.oB s1.rows) s1.nx ρS [] (Ix s1.nx (vF jn.fr π1 0 (jn.mf i0)) (jn.mf i0).length) (λp q e=>(Zz e).imp_right (C4 p q)) Kq (yd.refl _) (Ka _) (λE4 _ rm _ M H=>vD (λr y=>ie.mono rm r) (V6 H)) DQ;have SE:Good n (λt=>A t && rQ t (uz x)) (yQ a) a:=⟨hg.size,hg.defers,λ_ _=>rfl⟩
   refine wp_seq (ak (E9 _ _ (λt=>A t && rQ t (uz x)) (yQ a) E2 E2 a w _ _ hc.1 (λt ht=>by rw[hA t (.inl ht),ss.2 ht];rfl) SE (Ev.le.refl _) R2 O9 UA) ?_);rintro e a2 w2 ⟨AI,E3,ρ3,s3,AV,R3,SJ,h2⟩;have Ku:Good n A e0 a2:=⟨AI.size,AI.defers,λt ht=>by rw[AI.same t (by simp[ht]),hg.same t ht]⟩
   have Gl:E0.le E3:=hle.trans (xq.trans (uh.trans AV));cases e<;>first|exact⟨Ku,E3,ρ3,s3,Gl,R3,SJ,h2⟩|skip
   obtain⟨i',h2⟩:=h2;have Yc:AM (vF jn.fr π1 0 (jn.mf i0)) E3.gl:=λp q e=>by
    obtain⟨hd,h2⟩:=Gc p q (C4 p q e).1;exact⟨hd,(uh.trans AV).get h2⟩
   obtain⟨E4,s4,π4,rm,⟨Gp,B4⟩,Gs,_,hn4,MV⟩:=VK h2 R3 SJ Yc;have DP:∀t,rQ t (uz x)=bz->VR E1 (ρS t) (yQ a2 t):=λt ht=>by rw[AI.same t (by simp[ht])];exact(he t).mono xq
   obtain⟨E5,MX,R5,he5⟩:=MV E1 (kZ jn.oB s1.rows) s1.nx ρS (uz x) (Ix s1.nx (vF jn.fr π1 0 (jn.mf i0)) (jn.rows i').length) (λp q e=>(Zz e).imp_right λh=>⟨Gs p q h,(C4 p q h).2⟩) Kq (uh.trans (AV.trans rm)).1 (uh.trans (AV.trans rm)).2
    (λE6 hF _ hl M H=>z1d (E3:=E4) (E4:=E6) hF hl B4 C5 H) DP
   exact E8 _ _ A e0 E0 E5 a2 w2 _ _ hc.2 (λt ht=>hA t (.inr ht)) Ku (hle.trans (xq.trans MX)) R5 he5 (B1 i' Gp)
 |cond c x y E9 E8=>
  intro an Q A e0 E0 E a w ρS s hc hA hg hle R he h;simp only[xx,lu,uz,oH]at hc hA;simp only[ni]at h;split at h<;>first|exact h.elim|skip
  rename_i t ht;have hv:=he.ev c;rw[ht]at hv;simp only[VR,DR]at hv;have CR:=hv.1;rw[vL]at CR;refine wp_cond_split CR (λe=> ?_) (λe=> ?_)
  ·subst e;exact E9 _ _ A e0 E0 E a w ρS s hc.1 (λt ht=>hA t (.inl ht)) hg hle R he h
  ·subst e;exact E8 _ _ A e0 E0 E a w ρS s hc.2 (λt ht=>hA t (.inr ht)) hg hle R he h
 |block id x ih=>
  intro an Q A e0 E0 E a w ρS s hc hA hg hle R he h;refine wp_block (ak (ih an _ A e0 E0 E a w ρS s hc hA hg hle R he h) ?_);rintro e a' w' ⟨qo,E',ρ',s',jr,R',rp,h'⟩;cases e<;>first|exact⟨qo,E',ρ',s',jr,R',rp,h'⟩|skip
  rename_i FV;simp only[Exit.inBlock];simp only[yRp]at h';split
  ·rename_i heq;subst heq;rw[Nat.beq_refl]at h';exact⟨qo,E',ρ',s',jr,R',rp,h'⟩
  ·rename_i jy;have hb:aw FV id=bz:=by
    cases hb:aw FV id with
    |false=>rfl
    |true=>exact absurd (ji hb) jy
   rw[hb]at h';exact⟨qo,E',ρ',s',jr,R',rp,h'⟩
 |loop x ih=>
  intro an Q A e0 E0 E a w ρS s hc hA hg hle R he h;cases an with
  |nil=>exact h.elim
  |cons an rest=>
   have hh:=cO h;clear h;rcases hh with⟨_,h⟩|⟨_,h⟩
   ·refine wp_loop_rounds an.un ?_;revert h;generalize an.un=m;intro h
    induction m generalizing a w E ρS s with
    |zero=>exact h.elim
    |succ m ihm=>
     rw[rounds_succ];simp only[yPi]at h;refine ak (ih rest _ A e0 E0 E a w ρS s hc hA hg hle R he h) ?_;rintro e a' w' ⟨qo,E',ρ',s',jr,R',rp,h'⟩;cases e<;>first|exact ihm E' a' w' ρ' s' qo jr R' rp h'|exact⟨qo,E',ρ',s',jr,R',rp,h'⟩
   obtain⟨i0,h⟩:=h;obtain⟨E1,s1,π1,xq,⟨I,μ,Uu,ui⟩,_,Gc,Kq,hmk⟩:=VK h R he (λp n e=>by cases e);obtain⟨C5,ui⟩:=zM ui;have C4:∀p q,yD p (vF an.fr π1 0 (an.rows i0))=au q->yD p π1=au q/\q<s1.nx:=λp q e=>by
    have h1:=sO e;obtain⟨hd,h2⟩:=Gc p q h1;exact⟨h1,by rw[<- Kq];exact(jk.1 h2).1⟩
   have DQ:∀t,rQ t (uz x)=bz->VR E1 (ρS t) (yQ a t):=λt _=>(he t).mono xq
   obtain⟨E2,uh,R2,O9⟩:=hmk E1 (kZ an.oB s1.rows) s1.nx ρS (uz x) (aY an.fr s1.nx π1 0 (an.rows i0)) (λp q e=>(NZ e).imp_right (C4 p q)) Kq (yd.refl _) (Ka _) (λE4 _ rm _ M H=>vD (λr y=>ie.mono rm r) (V6 H)) DQ;refine wp_loop_ghost (λm a' w'=>Good n A e0 a'/\(∀t,rQ t (uz x)=bz->yQ a' t=yQ a t)/\∃i E',E1.le E'/\I i/\Rel k L E' (Pz s1.nx (aY an.fr s1.nx π1 0 (an.rows i0)) (an.rows i) (kZ an.oB s1.rows)) w'/\
    lp E' (NW (aY an.fr s1.nx π1 0 (an.rows i0)) (an.du i) (uz x) ρS) (yQ a')/\μ i=m) (μ i0) ⟨hg,λ_ _=>rfl,i0,E2,uh,Uu,R2,O9,rfl⟩ ?_
   rintro m a' w' ⟨qo,EF,i,E',jr,hinv,R',rp,rfl⟩;have h1:=ui i hinv;have SE:Good n (λt=>A t && rQ t (uz x)) (yQ a') a':=⟨qo.size,qo.defers,λ_ _=>rfl⟩
   refine ak (ih rest _ (λt=>A t && rQ t (uz x)) (yQ a') E' E' a' w' _ _ hc (λt ht=>by rw[hA t ht,ss.2 ht];rfl) SE (Ev.le.refl _) R' rp h1) ?_;rintro e a2 w2 ⟨AI,E3,ρ3,s3,AV,R3,SJ,h2⟩;have Ku:Good n A e0 a2:=⟨AI.size,AI.defers,λt ht=>by rw[AI.same t (by simp[ht]),qo.same t ht]⟩
   have Gl:E0.le E3:=hle.trans (xq.trans (jr.trans AV));cases e<;>first|exact⟨Ku,E3,ρ3,s3,Gl,R3,SJ,h2⟩|skip
   obtain⟨i',h2⟩:=h2;have Yc:AM (vF an.fr π1 0 (an.rows i0)) E3.gl:=λp q e=>by
    obtain⟨hd,h2⟩:=Gc p q (C4 p q e).1;exact⟨hd,(jr.trans AV).get h2⟩
   obtain⟨E4,s4,π4,rm,⟨Gp,hμ,B4⟩,Gs,_,hn4,MV⟩:=VK h2 R3 SJ Yc;have DP:∀t,rQ t (uz x)=bz->yQ a2 t=yQ a t:=λt ht=>by rw[AI.same t (by simp[ht]),EF t ht]
   obtain⟨E5,MX,R5,he5⟩:=MV E1 (kZ an.oB s1.rows) s1.nx ρS (uz x) (aY an.fr s1.nx π1 0 (an.rows i0)) (λp q e=>(NZ e).imp_right λh=>⟨Gs p q h,(C4 p q h).2⟩) Kq (jr.trans (AV.trans rm)).1 (jr.trans (AV.trans rm)).2
    (λE6 hF _ hl M H=>z1d (E3:=E4) (E4:=E6) hF hl B4 C5 H) (λt ht=>by rw[DP t ht];exact DQ t ht)
   exact⟨_,hμ,Ku,DP,i',E5,MX,Gp,R5,he5,rfl⟩
 |exit id=>intro an Q A e0 E0 E a w ρS s _ _ hg hle R he h;exact wp_exit ⟨hg,E,ρS,s,hle,R,he,h⟩
 |ret=>intro an Q A e0 E0 E a w ρS s _ _ hg hle R he h;exact wp_ret ⟨hg,E,ρS,s,hle,R,he,h⟩
 |rangeFunc f ps x y E9 E8=>intro an Q A e0 E0 E a w ρS s _ _ hg hle R he h;exact h.elim
 |scope x ih=>intro an Q A e0 E0 E a w ρS s _ _ hg hle R he h;exact h.elim
 |label l=>intro an Q A e0 E0 E a w ρS s _ _ hg hle R he h;exact h.elim
 |goto l=>intro an Q A e0 E0 E a w ρS s _ _ hg hle R he h;exact h.elim
 |refuse t=>intro an Q A e0 E0 E a w ρS s _ _ hg hle R he h;exact h.elim
variable {P:ae} {k:Ko} {L:List HP}
def Iv (P:ae) (ρ:xG) (s:St):List ResultVar->Option (List V)
 |[]=>au []
 | .tmp t::rs=>match Iv P ρ s rs with
   |some vs=>au (ρ t::vs)
   |none=>av
 | .cell a t::rs=>match ρ a with
   | .nm n off=>match s.get n with
     |some (.cells vs _)=>match XE P t vs off with
      |some v=>match Iv P ρ s rs with
       |some us=>au (v::us)
       |none=>av
      |none=>av
     |_=>av
   |_=>av
def NL:List V->V
 |[v]=>v
 |vs=> .je vs
def zGm {E:Ev} {s:St} {w:ab} (R:Rel k L E s w) {ρS:xG} {a:Act} (he:lp E ρS (yQ a)):∀{rs:List ResultVar} {vs:List V},Iv P ρS s rs=au vs->∃ys,(rs.mapM (IC a.tmps)).run P w= .ok ys w/\ic E vs ys
 |[],vs,h=>by
  simp only[Iv,cg]at h;subst h;exact⟨[],rfl,ic.nil⟩
 | .tmp t::rs,vs,h=>by
   simp only[Iv]at h;split at h<;>first|(cases h;done)|skip
   rename_i us Sk;cases h;obtain⟨ys,h1,h2⟩:=zGm R he Sk;refine⟨yQ a t::ys,?_,by simp only[ic];exact⟨_,_,rfl,he t,h2⟩⟩;simp only[be,IC,bind,pure,run_bind,cu,ct]at h1 ⊢;rw[h1]
 | .cell c t::rs,vs,h=>by
   simp only[Iv]at h;split at h<;>first|(cases h;done)|skip
   rename_i n off hc;split at h<;>first|(cases h;done)|skip
   rename_i cs T hg;split at h<;>first|(cases h;done)|skip
   rename_i v hp;split at h<;>first|(cases h;done)|skip
   rename_i us Sk;cases h;obtain⟨ys,h1,h2⟩:=zGm R he Sk;have hv:=he c;rw[hc]at hv;simp only[VR]at hv;obtain⟨b,oo,l,e1,e2⟩:=hv;obtain⟨b',l',sub,q1,q2,q3⟩:=R.cells hg;rw[e1]at q1;cases q1;obtain⟨y,hy,hh⟩:=zOm q2 q3 hp;refine⟨y::ys,?_,by simp only[ic];exact⟨_,_,rfl,hy,h2⟩⟩;rw[nt]at e2;have e2':a.tmps.getD c af= .pointer (au ⟨b,off,av⟩):=e2;unfold pX at hh;simp only[be,IC,bind,pure,run_bind,cu,ct,e2',asAddr,hh]at h1 ⊢;rw[h1]
def Yx (P:ae) (fn:Func) (K:V->St->Prop):Exit->xG->St->Prop
 | .normal,ρ,s=>iF (Iv P ρ s fn.results.toList) λvs=>K (NL vs) s
 | .ret,ρ,s=>iF (Iv P ρ s fn.results.toList) λvs=>K (NL vs) s
 |_,_,_=>False
def RE:List V->Nat->V
 |[],_=> .top
 |v::_,0=>v
 |_::l,n+1=>RE l n
def PB (args:List V):xG:=λt=>RE args t
def yGh {E:Ev}:∀{vs:List V} {ys:List aa},ic E vs ys->∀t,VR E (RE vs t) (ys.getD t af)
 |[],ys,h,t=>by simp only[RE,VR]
 |v::vs,ys,h,t=>by
  simp only[ic]at h;obtain⟨x,xs,rfl,h1,h2⟩:=h;cases t with
  |zero=>exact h1
  |succ t=>simpa[RE]using yGh h2 t
def mZ {f:ap} {args:Array aa} {w:ab} {K:aa->ab->Prop} (hb:gJ P f=bv) (h:Calls P f args w λe w'=>∃v,e= .returned v/\K v w'):nq P (ag f args) w K:=by
 unfold gJ at hb;split at hb
 ·rename_i fn F3;simp only[lu,Dv,Bool.not_eq_eq_eq_not,Bool.not_true]at hb;unfold nq;have:(ag f args).run P w= .ok (.enter f args) w:=by
   simp only[ag,bind,pure,run_bind,program,ct,cu,F3,hb.1,hb.2,oS,if_false]
  rw[this];exact h
 ·cases hb
def zBw {H:BN} (hH:I7 P H) (hm:P.follows .mixedOrders=bv) {f:ap} {fn:Func} {c:Code} (hf:P.funcs[f]? =au fn) (hb:fn.body=au c) (oZ:xx fn.ntmps c=bv) (J:List (Nat×gu)) (an:List gu)
 {args:List V} (pn:ay args.length fn.ntmps=bv) {K:V->St->Prop} {s:St} (h:ni P H J an c (Yx P fn K) (PB args) s) {E:Ev} {w:ab} {ys:List aa} (R:Rel k L E s w) (hv:ic E args ys):
 Calls P f ys.toArray w λe w'=>∃v,e= .returned v/\py k L E K v w':=by
 refine calls_of_wp hf hb ?_;have pn:=Cj pn;have hlen:=hv.length;have hg:Good fn.ntmps (λ_=>bv) (gF ys) {tmps:=ys.toArray++cq (fn.ntmps-ys.toArray.size) af,defers:=[]}:=
  ⟨by simp;omega,rfl,λs hs=>by cases hs⟩
 have MY:yQ {tmps:=ys.toArray++cq (fn.ntmps-ys.toArray.size) af,defers:=[]}=gF ys:=by
  funext i;simp only[yQ,gF,CO,mz,Array.getElem?_append];split
  ·simp
  ·rename_i gr;simp at gr;rw[uv gr,XU];split<;>rfl
 have he:lp E (PB args) (yQ {tmps:=ys.toArray++cq (fn.ntmps-ys.toArray.size) af,defers:=[]}):=by
  rw[MY];intro t;exact yGh hv t
 refine ak (z7b hH hm c an _ (λ_=>bv) (gF ys) E E _ w _ s oZ (λ_ _=>rfl) hg (Ev.le.refl _) R he h) ?_;have fin:∀{a':Act} {w':ab} {E':Ev} {ρ':xG} {s':St},Good fn.ntmps (λ_=>bv) (gF ys) a'->E.le E'->Rel k L E' s' w'->lp E' ρ' (yQ a')->(iF (Iv P ρ' s' fn.results.toList) λvs=>K (NL vs) s')->
  ∃v,(results fn a'.tmps).run P w'= .ok v w'/\∃v',Ending.returned v= .returned v'/\py k L E K v' w':=by
  intro a' w' E' ρ' s' qo jr R' rp h';obtain⟨vs,hvs,hk⟩:=zN h';obtain⟨zs,h1,h2⟩:=zGm R' rp hvs;refine⟨Iq zs,?_,_,rfl,E',NL vs,s',jr,R',?_,hk⟩
  ·unfold results;rw[Array.mapM_eq_mapM_toList,map_eq_pure_bind,bind_assoc];exact zOs h1 _ (λr=>by cases r<;>rfl)
  ·rcases vs with _|⟨v,_|⟨u,vs⟩⟩
   ·simp only[ic]at h2;subst h2;simp only[NL,Iq,VR];exact⟨[],rfl,ic.nil⟩
   ·simp only[ic]at h2;obtain⟨x,xs,rfl,h3,rfl⟩:=h2;exact h3
   ·have h20:=h2;simp only[ic]at h2;obtain⟨x,xs,rfl,h3,y,Ee,rfl,h4,h5⟩:=h2;simp only[NL,Iq,VR];exact⟨_,rfl,h20⟩
 rintro e a' w' ⟨qo,E',ρ',s',jr,R',rp,h'⟩;cases e<;>first|exact h'.elim|skip
 ·obtain⟨v,h1,h2⟩:=fin qo jr R' rp h';exact⟨qo.defers,v,h1,h2⟩
 ·obtain⟨v,h1,h2⟩:=fin qo jr R' rp h';exact⟨qo.defers,v,h1,h2⟩
def zFf {H:BN} (hH:I7 P H) (hm:P.follows .mixedOrders=bv) {f:ap} {fn:Func} {c:Code} (hf:P.funcs[f]? =au fn) (hb:fn.body=au c) (BJ:gJ P f=bv) (oZ:xx fn.ntmps c=bv) (J:List (Nat×gu)) (an:List gu)
 {args:List V} (pn:ay args.length fn.ntmps=bv) {K:V->St->Prop} {s:St} (h:ni P H J an c (Yx P fn K) (PB args) s) {E:Ev} {w:ab} {ys:List aa} (R:Rel k L E s w) (hv:ic E args ys):
 nq P (ag f ys.toArray) w (py k L E K):=mZ BJ (zBw hH hm hf hb oZ J an pn h R hv)
def E0 (w:ab):Ev:=⟨λb=>w.heap[b]?,[]⟩
def xIf (w:ab) (hG:EJ λb=>w.heap[b]?):Rel (Cv.ko w) [] (E0 w) ⟨[],0⟩ w:=⟨rfl,(Hp.start w).imp λx hx=>⟨hx,hG⟩⟩
def xFr (f:Nat):List (Nat×gh)->Option gh
 |[]=>av
 |(g,C)::l=>bif aw g f then au C else xFr f l
def zq (P:ae):List (Nat×gh)->Prop
 |[]=>True
 |(f,C)::l=>C.ok P f/\zq P l
def Rv (f:Nat):List (Nat×gh)->Bool
 |[]=>bz
 |(g,_)::l=>bif aw g f then bv else Rv f l
def NK (f:Nat) (args:List V) (s:St) (K:V->St->Prop):List (Nat×gh)->Prop
 |[]=>False
 |(g,C)::l=>bif aw g f then(bif Rv f l then C.call args s K\/NK f args s K l else C.call args s K)else NK f args s K l
def Wt {f:Nat} {args:List V} {s:St} {K:V->St->Prop}:∀{G:List (Nat×gh)},zq P G->NK f args s K G->∃C:gh,C.ok P f/\C.call args s K
 |[],_,h=>h.elim
 |(g,C)::l,hG,h=>by
  simp only[NK]at h;cases hb:aw g f with
  |false=>rw[hb]at h;exact Wt hG.2 h
  |true=>
   rw[hb]at h;have e:=ji hb;subst e;cases hl:Rv g l with
   |false=>rw[hl]at h;exact⟨C,hG.1,h⟩
   |true=>
    rw[hl]at h;rcases h with h|h
    ·exact⟨C,hG.1,h⟩
    ·exact Wt hG.2 h
def rj (P:ae) (G:List (Nat×gh)):Nat->BN
 |0,f,args,s,K=>match Rv f G with
  |true=>NK f args s K G
  |false=>False
 |d+1,f,args,s,K=>match Rv f G with
  |true=>NK f args s K G
  |false=>match P.funcs[f]? with
   |some fn=>match fn.body with
    |some c=>bif gJ P f && xx fn.ntmps c && ay args.length fn.ntmps then ni P (rj P G d) [] [] c (Yx P fn K) (PB args) s else False
    |none=>False
   |none=>False
def yUl (hm:P.follows .mixedOrders=bv) {G:List (Nat×gh)} (hG:zq P G):∀d,I7 P (rj P G d):=by
 intro d
 induction d with
 |zero=>
  intro f args s K h k L E w ys R hv;simp only[rj]at h;split at h<;>first|exact h.elim|skip
  obtain⟨C,h1,h2⟩:=Wt hG h;exact gh.yw h1 h2 R hv
 |succ d ih=>
  intro f args s K h k L E w ys R hv;simp only[rj]at h;split at h
  ·obtain⟨C,h1,h2⟩:=Wt hG h;exact gh.yw h1 h2 R hv
  ·split at h<;>first|exact h.elim|skip
   rename_i fn F3;split at h<;>first|exact h.elim|skip
   rename_i c hc;obtain⟨hb,h⟩:=zM h;simp only[lu]at hb;exact zFf ih hm F3 hc hb.1.1 hb.1.2 [] [] hb.2 h R hv
def L3:Nat->NM
 |0=>[]
 |m+1=>(m,m)::L3 m
def z7o:∀{m p:Nat},p<m->yD p (L3 m)=au p
 |m+1,p,h=>by
  simp only[L3,yD];cases hb:aw m p
  ·have:m≠p:=λe=>by subst e;simp at hb
   exact z7o X_
  ·rw[<- ji hb];rfl
def zJz:∀{m p q:Nat},yD p (L3 m)=au q->p<m/\q=p
 |0,p,q,h=>by cases h
 |m+1,p,q,h=>by
  simp only[L3,yD]at h;cases hb:aw m p
  ·rw[hb]at h;obtain⟨h1,h2⟩:=zJz h;exact⟨X_,h2⟩
  ·rw[hb]at h;have:=ji hb;simp only[cond_true,cg]at h;exact⟨X_,X_⟩
def Xi (m:Nat) (v:V) (s:St) (a:Alt):Prop:=
 ∃o,Cm (a.res o) v (L3 m) s λπ s=>IN 0 (a.post o) π s λπ _=>bif lH (a.post o).length π && ay m (a.post o).length then a.rel o else False
def Xo (m:Nat) (v:V) (s:St):List Alt->Prop
 |[]=>False
 |[a]=>Xi m v s a
 |a::l=>Xi m v s a\/Xo m v s l
def Vq {m:Nat} {v:V} {s:St}:∀{l:List Alt},Xo m v s l->∃a∈l,Xi m v s a
 |[a],h=>⟨a,by simp,h⟩
 |a::b::l,h=>by
  rcases h with h|h
  ·exact⟨a,by simp,h⟩
  ·obtain⟨c,h1,h2⟩:=Vq h;exact⟨c,jj _ h1,h2⟩
def z0u {w:ab} {m:Nat} {v:V} {s:St} {a:Alt} {E0 E:Ev} (h:Xi m v s a) (hn:E0.gl.length=m) (hle:E0.le E) (R:Rel k L E s w) {y:aa} (hv:VR E v y):
 ∃o,a.rel o/\∃E',E0.le E'/\VR E' (a.res o) y/\Rel k L E' ⟨g9 0 (a.post o),(a.post o).length⟩ w:=by
 obtain⟨o,h⟩:=h;have Bn:AM (L3 m) E.gl:=λp n e=>by
  obtain⟨h1,rfl⟩:=zJz e;exact⟨E0.gl[n]' X_,hle.get (vl X_)⟩
 obtain⟨E1,π1,s1,q1,q2,q3⟩:=yBc h R Bn hv;obtain⟨E2,π2,s2,r1,r2⟩:=W2 q3 q1.rel q1.wf;obtain⟨hb,MP⟩:=zM r2;simp only[lu]at hb;have gr:=nH hb.1;have hmq:=Cj hb.2
 let q:=(a.post o).length
 let tl:List Hd:=(az q).map λp=>(E2.gl[(yD p π2).getD 0]?).getD (af,[])
 have kq:∀p,p<q->tl[p]? =au ((E2.gl[(yD p π2).getD 0]?).getD (af,[])):=λp hp=>by
  show((az q).map _)[p]? =_;rw[ra,Mh hp];rfl
 have tm:Loc π2 E2.gl tl:=by
  intro p n hp;obtain⟨hd,h'⟩:=r1.wf p n hp;refine⟨hd,h',?_⟩;rw[kq p (gr p n hp)];simp only[hp,Ae,h']
 have uh:E0.le E2:=hle.trans (q1.le.trans r1.le);have MS:E0.gl<+:tl:=by
  refine⟨tl.drop m,?_⟩;apply Du;intro p;by_cases hp:p<m
  ·rw[Ek X_];have zm:yD p π2=au p:=r1.ext _ _ (q1.ext _ _ (z7o hp));have e1:E0.gl[p]? =au (E0.gl[p]' X_):=vl X_;rw[kq p X_,zm,Ae,uh.get e1,e1];rfl
  ·rw[Ck X_,BA,hn,show m+(p-m)=p by omega]
 refine⟨o,MP,⟨E2.F,tl⟩,⟨uh.1,MS⟩,q2 E2 π2 r1.le r1.ext tl tm,⟨by simp[tl,q],?_⟩⟩;have H:=r1.rel.AY;have H1:=vD (g:=ie ⟨E2.F,tl⟩) (λr x hx=>by
  rcases hx with⟨e1,e2⟩|⟨n,h1,h2⟩
  ·exact .inl ⟨e1,e2⟩
  ·right;obtain⟨hd,h3,h4⟩:=h2 E2 π2 (Ev.le.refl _) (Ext.refl _) tl tm;obtain⟨oU,h5,h6⟩:=tm _ _ h1;rw[h3]at h5;cases h5;exact⟨hd,h6,h4⟩) H
 have H2:Hp k w (s2.rows.map (ie E2)++((g9 0 (a.post o)).map (ie ⟨E2.F,tl⟩)++fz E2.F::L)):=by
  refine H1.perm ?_;rw[<- jd,<- jd];exact BC.append_right _
 have Ux:∀(l:List (Nat×fq)) {M:List HP},Hp k w (l.map (ie E2)++M)->Hp k w M:=by
  intro l
  induction l with
  |nil=>intro M H;exact H
  |cons a l ih=>intro M H;exact ih H.drop
 exact Ux _ H2
def walk (P:ae) (G:List (Nat×gh)) (d:Nat) (J:List (Nat×gu)) (an:List gu) (op:List Nat) (fn:Func) (c:Code) (args:List V) (rows:List fq) (alts:List Alt):Prop:=
 ni P (rj P G d) J an c (Yx P fn λv s=>Xo rows.length v s alts) (PB args) (Vf op ⟨g9 0 rows,rows.length⟩)
def qY (hm:P.follows .mixedOrders=bv) {f:ap} {fn:Func} {c:Code} {C:gh} (G:List (Nat×gh)) (hG:zq P G) (d:Nat) (J:C.ι->List (Nat×gu)) (an:C.ι->List gu) (op:List Nat) (hf:P.funcs[f]? =au fn) (hb:fn.body=au c) (BJ:gJ P f=bv) (oZ:xx fn.ntmps c=bv)
 (pn:∀i,ay (C.pat i).length fn.ntmps=bv) (h:∀i,C.dp i->walk P G d (J i) (an i) op fn c (C.pat i) (C.pre i) (C.alts i)):C.ok P f:=by
 intro i hc k L E w ys R hv;obtain⟨E1,hle,R1⟩:=zHu op R;refine(zFf (yUl hm hG d) hm hf hb BJ oZ (J i) (an i) (pn i) (h i hc) R1 (hv.mono hle)).mono ?_;rintro y w' ⟨E',v,s',jr,R',Kk,hk⟩;obtain⟨a,ha,Gd⟩:=Vq hk;obtain⟨o,h1,E2,h2,h3,h4⟩:=z0u Gd R.nx (hle.trans jr) R' Kk;exact⟨a,ha,o,h1,E2,h2,h3,h4⟩
def vZ (t:aj):gh where
 ι:=List (aa×List D)
 pat:=λ_=>[.Ai t (.mp 0)]
 pre:=λes=>[.map es]
 dp:=λ_=>True
 alts:=λes=>[{o:=Unit,res:=λ_=> .Ai t (.mp 1),post:=λ_=>[.map es,.map es],rel:=λ_=>True}]
def yCf {f : FuncId} {fn : Func} (hf : P.funcs[f]? = some fn) (B2 : (fn.name == "runtime.NumGoroutine") = false) (hb : fn.body.isNone = true) (hn : Extern.findNext fn = none) (he : Extern.find fn = some Extern.MapsClone.clone) (t : TypeId) : (vZ t).ok P f := by
 intro es _ k L E w ys R hv;simp only[vZ,ic,VR]at hv;obtain⟨y,_,rfl,⟨z,rfl,b,sub,e1,rfl⟩,rfl⟩:=hv;have hg:(⟨g9 0 [.map es],1⟩:St).get 0=au (.map es):=rfl;obtain⟨hd,x,q1,q2,q3⟩:=R.row hg (by simp);rw[e1]at q1;cases q1;simp only[fw]at q2;obtain⟨b',fy,ck,e4,e5,e6,rfl⟩:=q2;cases e4;have hm:=q3 b _ (by simp[one];rfl);have jq:(Extern.MapsClone.clone #[.iface t (.map (au b))]).run P w= .ok (.iface t (.map (au w.heap.size))) (w.alloc (.map fy.toArray ck)):=by
  have e:Extern.MapsClone.clone #[.iface t (.map (au b))]=(getObj b>>=λo=>match o with
   | .map entries clock=>(newObj (.map entries clock)>>=λn=>pure (.iface t (.map (au n))))
   | _ => stuck "maps.clone: a map expected") := rfl
  rw[e];simp only[bind,run_bind,kA hm trivial];rfl
 unfold nq;rw[run_callFunc_extern hf B2 hb hn he,jq];simp only[Result.andThen];have Nq:fw E.F (.map es) (E.gl++[(.map (au w.heap.size),[])]) (.map (au w.heap.size),[]) (one w.heap.size (.map fy.toArray ck)):=by
  simp only[fw];exact⟨_,fy,ck,rfl,e5,e6,rfl⟩
 obtain⟨h1,h2,h3⟩:=R.new Nq;refine⟨_,tq.2 rfl,(),Y_,_,h1,by simp only[VR];exact⟨_,rfl,_,_,h3,rfl⟩,⟨h2.nx,h2.hp.perm ?_⟩⟩;exact .swap _ _ _
def z0c {E:Ev} {s:St} {w w':ab} (hle:(E0 w).le E) (R:Rel (Cv.ko w) [] E s w'):Below w.heap.size w w':=by
 have Ib:=R.frozen;obtain⟨h1,h2,h3⟩:=R.hp.1;have TE:∀b,b<w.heap.size->w'.heap[b]? =w.heap[b]? :=λb hb=>by
  have:w.heap[b]? =au w.heap[b]:=RU hb;rw[this];exact Ib b _ (hle.1 b _ this)
 refine⟨h1,h2,h3,?_,TE⟩;rcases vh w'.heap.size w.heap.size with gr|Ms
 ·have:=TE w'.heap.size gr;rw[HM (jx _),RU gr]at this;cases this
 ·exact Ms
def Ab (hm:P.follows .mixedOrders=bv) {f:ap} {fn:Func} {c:Code} (G:List (Nat×gh)) (hG:zq P G) (d:Nat) (J:List (Nat×gu)) (an:List gu) (hf:P.funcs[f]? =au fn) (hb:fn.body=au c) (oZ:xx fn.ntmps c=bv)
 {args:List V} {alts:List Alt} (pn:ay args.length fn.ntmps=bv) (h:walk P G d J an [] fn c args [] alts) {w:ab} (hG0:EJ λb=>w.heap[b]?) {ys:List aa} (hv:ic (E0 w) args ys):
 Calls P f ys.toArray w λe w'=>∃y,e= .returned y/\Below w.heap.size w w'/\∃a∈alts,∃o,a.rel o/\∃E',VR E' (a.res o) y:=by
 refine(zBw (yUl hm hG d) hm hf hb oZ J an pn h (xIf w hG0) hv).mono ?_;rintro e w' ⟨y,he,E',v,s',hle,R,Si,hk⟩;obtain⟨a,ha,Gd⟩:=Vq hk;obtain⟨o,h1,E2,h2,h3,h4⟩:=z0u Gd rfl hle R Si;exact⟨y,he,z0c hle R,a,ha,o,h1,E2,h3⟩
@[reducible] def zB (n:Int):V:= .d (.v (.int .i64 n))
@[reducible] def A8 (n:Int):V:= .d (.v (.int .u64 n))
@[reducible] def XQ (n:Int):V:= .d (.v (.int .u32 n))
@[reducible] def yM (b:Bool):V:= .d (.v (.bool b))
@[reducible] def ox (sz:Nat) (fa:Q_ D):V:= .d (.ro sz fa)
def pW:V:= .je []
@[reducible] def fp (ι:Type) (pat:ι->List V) (pre:ι->List fq) (dp:ι->Prop) (res:ι->V) (post:ι->List fq):gh where
 ι:=ι
 pat:=pat
 pre:=pre
 dp:=dp
 alts:=λi=>[{o:=Unit,res:=λ_=>res i,post:=λ_=>post i,rel:=λ_=>True}]
def bE (l:i4):Q_ D:=l.map λb=>[.v (.int .u8 b.toNat)]
@[simp] theorem W3 (a b:i4):bE (a++b)=bE a++bE b:=by simp[bE]
@[simp] theorem xIc:bE []=[]:=rfl
@[simp] theorem yV (a:i4):(bE a).length=a.length:=by simp[bE]
def eV (a:i4) (n:Nat):bE (a.take n)=(bE a).take n:=by simp[bE]
def lK (a:i4) (n:Nat):bE (a.drop n)=(bE a).drop n:=by simp[bE]
def zYq (s:ByteArray):j6 s=bE s.data.toList:=rfl
def iZ (n:Int):UInt8:=UInt8.ofNat (n % 256).toNat
def le (n:Int):Nat->i4
 |0=>[]
 |k+1=>iZ n::le (n / 256) k
def xA (k:Nat):∀n:Int,(le n k).length=k:=by
 induction k with
 |zero=>intro n;rfl
 |succ k ih=>intro n;simp[le,ih]
def le_succ (k:Nat):∀n:Int,le n (k+1)=le n k++[iZ (n / 256 ^ k)]:=by
 induction k with
 |zero=>intro n;simp[le]
 |succ k ih=>
  intro n;have:n / 256 / 256 ^ k=n / 256 ^ (k+1):=by
   rw[Int.ediv_ediv_of_nonneg X_,IE,Ef]
  rw[le,ih,le,this,uu]
def U' (n:Int):da.wrap n=((iZ n).toNat:Int):=by
 have:(da.wrap n)=n % 256:=rfl;rw[this];unfold iZ;have h1:(n % 256).toNat<256:=X_
 rw[UInt8.toNat_ofNat_of_lt' (i9 h1)];omega
def iw {x:Int} (h: -9223372036854775808<=x/\x<=9223372036854775807):db.wrap x=x:=Cv.wrap_i64 h.1 h.2
def Ch {x:Int} (h:0<=x/\x<18446744073709551616):cy.wrap x=x:=by
 have:cy.wrap x=x % 18446744073709551616:=rfl;rw[this];omega
def xGh {x:Int} (h:0<=x/\x<4294967296):cz.wrap x=x:=by
 have:cz.wrap x=x % 4294967296:=rfl;rw[this];omega
def PI (k:IntKind) (a:Int) (b:Nat) (h:b<=k.bits):aO k a b=a / 2 ^ b:=by
 unfold aO;rw[show min (Int.toNat (b:Int)) k.bits=b by simp;omega];rw[Int.fdiv_eq_ediv_of_nonneg];exact Int.pow_nonneg X_
def zH {p:Prop} [Decidable p] {A B:Prop} (h1:p->A) (h2:¬p->B):dp (decide p) A B:=W_ (λh=>h1 (su h)) (λh=>h2 (Mg h))
def fk {P:ae}:zq P []:=trivial
def dw {P:ae} {f:Nat} {C:gh} {l:List (Nat×gh)} (h:C.ok P f) (hl:zq P l):zq P ((f,C)::l):=⟨h,hl⟩
end Sx
