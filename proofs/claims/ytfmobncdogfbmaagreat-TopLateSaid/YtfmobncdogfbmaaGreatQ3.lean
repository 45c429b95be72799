/- Texts of ours. No condition. -/
import Derived.Laws.Externs
import Derived.Lib.ConvBytes
import Derived.LoopN
import Derived.MapKept
import Derived.Test.YtfmobncdogfbmaaGreatQ2
set_option linter.all false
open Go renaming Value->ab,World->ac,execOp->ae,Program->af,undef->ag,callFunc->aj,TypeId->ak,wp_mono->am,grownCap->ao,Oper->ap,FuncId->aq,MapEntry->ar,Operand->au
open Option renaming some->av,none->aw
open Nat renaming beq->ax,blt->ay,ble->az
open List renaming range->ba,replicate->bc,map->be,mapM_cons->bg,range'->bo
open Go.Lib renaming bytesCells->bu,bytesWorld->bv
open Bool renaming true->bz,false->cd
open List.Perm renaming append_left->ce,append_right->cf,cons->cg
open Option.some renaming injEq->cm,inj->co
open Go.Value renaming pointer->cp,int->cq
open Array renaming replicate->cr,ext'->ct
open Go.Sem renaming run->cu,bind->cw
open Go.Region renaming wanted->cx,ready->cy
open Go.IntKind renaming u64->cz,u32->da,u8->db,i64->dc
namespace Sx
open Go Go.RowKit Cv
variable {P:af} {k:Ko} {L:List HP} {E:Ev} {s:St} {w:ac}
def Ev.le.app {E:Ev} (hd:Hd):E.le ⟨E.F,E.gj++[hd]⟩:=⟨xp.refl _,J4 _ _⟩
def Rel.su (R:Rel k L E s w) {n t sz:Nat} {fa:Q_ D} (h:s.get n=av (.own t sz fa)):
 ∃a c xs sub,E.gj[n]? =av (.slice a fa.length c,sub)/\iB E.F fa.flatten xs/\(∀el∈fa,el.length=sz)/\Hp k w (ou t sz a fa.length c xs::((uC n s.rows).map (ic E)++fz E.F::L)):=by
 obtain⟨hk,hs,hh⟩:=R.focus h;cases hh with
 |cons ha jb hd hr=>
  rcases ha with⟨e,_⟩|⟨⟨hv,sub⟩,h1,h2⟩
  ·cases e
  ·simp only[fw]at h2;obtain⟨a,c,xs,rfl,q1,q2,q3⟩:=h2;exact⟨a,c,xs,sub,h1,q1,q2,hk,_,.cons q3 jb hd hr⟩
def aN {rows:List (Nat×fq)} {nx t sz:Nat} {fa:Q_ D} {a:Option Addr} {c:Nat} {xs:List ab} (hn:E.gj.length=nx) (hx:iB E.F fa.flatten xs) (hu:∀el∈fa,el.length=sz)
 (H:Hp k w (ou t sz a fa.length c xs::(rows.map (ic E)++fz E.F::L))):
 ∃E',E.le E'/\Rel k L E' ⟨(nx,.own t sz fa)::rows,nx+1⟩ w/\VR E' (.own nx) (.slice a fa.length c):=by
 have hle:E.le ⟨E.F,E.gj++[(.slice a fa.length c,[])]⟩:=⟨xp.refl _,J4 _ _⟩
 have km:(E.gj++[((.slice a fa.length c,[]):Hd)])[nx]? =av (.slice a fa.length c,[]):=by rw[<- hn];simp
 refine⟨⟨E.F,E.gj++[(.slice a fa.length c,[])]⟩,hle,⟨by simp[hn],?_⟩,by simp only[VR];exact⟨[],km,_,_,_,rfl⟩⟩;have H1:Hp k w (rows.map (ic E)++(ou t sz a fa.length c xs::fz E.F::L)):=H.perm (mo (l₁:=rows.map (ic E))).symm;have H2:=vH (λr x=>ic.mono hle r) H1;have H3:Hp k w (ou t sz a fa.length c xs::(rows.map (ic ⟨E.F,E.gj++[(.slice a fa.length c,[])]⟩)++fz E.F::L)):=H2.perm mo;exact H3.imp λx HQ=> .inr ⟨_,km,by simp only[fw];exact⟨a,c,xs,rfl,hx,hu,HQ⟩⟩
def VO (R:Rel k L E s w) {o:fq} {O:Obj} {hd:Hd} {K:V->St->Prop} {v:V} {y:ab} (h:fw E.F o (E.gj++[hd]) hd (one w.heap.size O)) (hv:(E.gj++[hd])[s.nx]? =av hd->VR ⟨E.F,E.gj++[hd]⟩ v y) (hk:K v (s.new o)):
 ph k L E K y (w.alloc O):=by
 obtain⟨h1,h2,h3⟩:=R.new h;exact⟨_,v,_,h1,h2,hv h3,hk⟩
def Rel.setCells (R:Rel k L E s w) {n:Nat} {vs Av:List V} {T:ak} (h:s.get n=av (.cells vs T)) {b:Nat} {sub:List ab} (ht:E.gj[n]? =av (.pointer (av ⟨b,0,aw⟩),sub)) {l':List ab} (hv:ib E Av l'):
 Rel k L E (s.set n (.cells Av T)) (World.ja w b (.cells l'.toArray T)):=by
 obtain⟨hk,hs,hh⟩:=R.focus h;cases hh with
 |cons ha jb hd hr=>
  rcases ha with⟨e,_⟩|⟨oT,h1,h2⟩
  ·cases e
  ·rw[ht]at h1;cases h1;simp only[fw]at h2;obtain⟨b',l,e1,e2,rfl⟩:=h2;cases e1;have H:Hp k w (pt b (.cells l.toArray T)::((uC n s.rows).map (ic E)++fz E.F::L)):=⟨hk,_,.cons rfl jb hd hr⟩
   refine R.oe h ((H.yz (.cells l'.toArray T)).imp λx hx=> .inr ⟨_,ht,?_⟩);simp only[fw];exact⟨b,l',rfl,hv,hx⟩
def Rel.MW (R:Rel k L E s w) {n:Nat} {ds DC:List D} {T:ak} (h:s.get n=av (.vec ds T)) {b:Nat} {sub:List ab} (ht:E.gj[n]? =av (.pointer (av ⟨b,0,aw⟩),sub)) {l':List ab} (hv:iB E.F DC l'):
 Rel k L E (s.set n (.vec DC T)) (World.ja w b (.cells l'.toArray T)):=by
 obtain⟨hk,hs,hh⟩:=R.focus h;cases hh with
 |cons ha jb hd hr=>
  rcases ha with⟨e,_⟩|⟨oT,h1,h2⟩
  ·cases e
  ·rw[ht]at h1;cases h1;simp only[fw]at h2;obtain⟨b',l,e1,e2,rfl⟩:=h2;cases e1;have H:Hp k w (pt b (.cells l.toArray T)::((uC n s.rows).map (ic E)++fz E.F::L)):=⟨hk,_,.cons rfl jb hd hr⟩
   refine R.oe h ((H.yz (.cells l'.toArray T)).imp λx hx=> .inr ⟨_,ht,?_⟩);simp only[fw];exact⟨b,l',rfl,hv,hx⟩
def Rel.Gw (R:Rel k L E s w) {n:Nat} {es DB:List (ab×List D)} (h:s.get n=av (.map es)) {b:Nat} {sub:List ab} (ht:E.gj[n]? =av (.map (av b),sub)):
 ∃fy ck,MR E.F es fy/\w.heap[b]? =av (.map fy.toArray ck)/\uO fy ck/\∀iQ tf,MR E.F DB iQ->uO iQ tf->Rel k L E (s.set n (.map DB)) (World.ja w b (.map iQ.toArray tf)):=by
 obtain⟨hk,hs,hh⟩:=R.focus h;cases hh with
 |cons ha jb hd hr=>
  rcases ha with⟨e,_⟩|⟨oT,h1,h2⟩
  ·cases e
  ·rw[ht]at h1;cases h1;simp only[fw]at h2;obtain⟨b',fy,ck,e1,e2,e3,rfl⟩:=h2;cases e1;have H:Hp k w (pt b (.map fy.toArray ck)::((uC n s.rows).map (ic E)++fz E.F::L)):=⟨hk,_,.cons rfl jb hd hr⟩
   refine⟨fy,ck,e2,H.get,e3,λiQ tf hm Sz=>R.oe h ((H.yz (.map iQ.toArray tf)).imp λx hx=> .inr ⟨_,ht,?_⟩)⟩;simp only[fw];exact⟨b,iQ,tf,rfl,hm,Sz,hx⟩
def Rel.Jf (R:Rel k L E s w) {n:Nat} {es DB:List (ab×List D)} {kv:ab} (h:s.get n=av (.map es)) {b:Nat} {sub:List ab} (ht:E.gj[n]? =av (.map (av b),sub)):
 ∃fy ck,MR E.F es fy/\w.heap[b]? =av (.map fy.toArray ck)/\uO fy ck/\∀iQ tf x,MR E.F DB iQ->uO iQ tf->UR iQ kv x->Rel k L E (s.set n (.CT DB kv x)) (World.ja w b (.map iQ.toArray tf)):=by
 obtain⟨hk,hs,hh⟩:=R.focus h;cases hh with
 |cons ha jb hd hr=>
  rcases ha with⟨e,_⟩|⟨oT,h1,h2⟩
  ·cases e
  ·rw[ht]at h1;cases h1;simp only[fw]at h2;obtain⟨b',fy,ck,e1,e2,e3,rfl⟩:=h2;cases e1;have H:Hp k w (pt b (.map fy.toArray ck)::((uC n s.rows).map (ic E)++fz E.F::L)):=⟨hk,_,.cons rfl jb hd hr⟩
   refine⟨fy,ck,e2,H.get,e3,λiQ tf x hm Sz lp=>R.oe h ((H.yz (.map iQ.toArray tf)).imp λy hy=> .inr ⟨_,ht,?_⟩)⟩;simp only[fw];exact⟨b,iQ,tf,rfl,hm,Sz,lp,hy⟩
def Rel.Je (R:Rel k L E s w) {n:Nat} {es DB:List (ab×List D)} {kv:ab} {x:Int} (h:s.get n=av (.CT es kv x)) {b:Nat} {sub:List ab} (ht:E.gj[n]? =av (.map (av b),sub)):
 ∃fy ck,MR E.F es fy/\w.heap[b]? =av (.map fy.toArray ck)/\uO fy ck/\UR fy kv x/\∀iQ tf,MR E.F DB iQ->uO iQ tf->Rel k L E (s.set n (.map DB)) (World.ja w b (.map iQ.toArray tf)):=by
 obtain⟨hk,hs,hh⟩:=R.focus h;cases hh with
 |cons ha jb hd hr=>
  rcases ha with⟨e,_⟩|⟨oT,h1,h2⟩
  ·cases e
  ·rw[ht]at h1;cases h1;simp only[fw]at h2;obtain⟨b',fy,ck,e1,e2,e3,e4,rfl⟩:=h2;cases e1;have H:Hp k w (pt b (.map fy.toArray ck)::((uC n s.rows).map (ic E)++fz E.F::L)):=⟨hk,_,.cons rfl jb hd hr⟩
   refine⟨fy,ck,e2,H.get,e3,e4,λiQ tf hm Sz=>R.oe h ((H.yz (.map iQ.toArray tf)).imp λy hy=> .inr ⟨_,ht,?_⟩)⟩;simp only[fw];exact⟨b,iQ,tf,rfl,hm,Sz,hy⟩
def yKi {l:List ar} (hn:(l.map (·.born)).Nodup):∀{q:Nat} {m:ar},l[q]? =av m->l.findIdx? (λe=>((e.born:Nat):Int)==((m.born:Nat):Int))=av q:=by
 induction l with
 |nil=>intro q m h;simp at h
 |cons a l ih=>
  intro q m h;simp only[jf,ym]at hn;cases q with
  |zero=>simp at h;subst h;simp[J3]
  |succ q=>
   simp only[Bd]at h;have jy:a.born≠m.born:=λe=>hn.1 (e▸np.2 ⟨m,lh h,rfl⟩)
   have I8:¬((a.born:Nat):Int)=((m.born:Nat):Int):=by omega
   rw[J3,ez (i9 I8),ih hn.2 h];rfl
def yKh {F:PH} {P:af} {t:ak} {ds:List D} {v:V} (h:Nx P t=av ds) (hm:HM P t ds=av v):∃z ys,pZ P t=av z/\iB F ds ys/\z=sN ys:=by
 unfold Nx at h;split at h
 ·rename_i cs hz;split at h<;>first|(cases h;done)|skip
  rename_i n hn;obtain⟨hb,h⟩:=y4 h;cases h;simp only[HM,hn]at hm;obtain⟨ni,hm⟩:=y4 hm;simp only[lr,Dp]at ni;have h1:=jg ni.1;refine⟨_,cs.toList,hz,ySq hb,?_⟩;unfold sN;split
  ·rename_i y hy;rw[hy]at h1;simp only[jf,Bs,iF,tz]at h1;rw[<- h1]at ni;exact absurd ni.2 (by decide)
  ·rfl
 ·rename_i z jy hz;split at h<;>first|(cases h;done)|skip
  rename_i hn;obtain⟨hb,h⟩:=y4 h;cases h;exact⟨z,[z],hz,by simp only[iB,DR];exact⟨_,_,rfl,⟨rfl,hb⟩,rfl⟩,rfl⟩
 ·cases h
def YC {F:PH} {x:ab} {ds:List D} {ys:List ab} (hd:iB F ds ys) {e:ar} (h1:e.key=x) (h2:e.val=sN ys):∀{es:List (ab×List D)} {fy:List ar},MR F es fy->MR F (es++[(x,ds)]) (fy++[e])
 |[],fy,h=>by
  simp only[MR]at h;subst h;simp only[we,MR];exact⟨e,[],rfl,h1,⟨ys,hd,h2⟩,rfl⟩
 |(y,d)::es,fy,h=>by
  simp only[MR]at h;obtain⟨m,ms,rfl,q1,q2,q3⟩:=h;simp only[uh,MR];exact⟨m,_,rfl,q1,q2,YC hd h1 h2 q3⟩
def zHy {kd:TypeDesc} {x:ab} (hk:JM kd x):Instr.sameBits 10000 x x=bz:=by
 rcases hk with⟨ik,k,n,rfl,rfl⟩|⟨s,rfl,rfl⟩<;>simp only[Instr.sameBits]
 ·simp
 ·rw[yGj];simp
def z5a {E:Ev} {v:V} (hv:W5 v=bz) {y:ab} (h:VR E v y) {ys:List ab} (hc:y.cells=ys.toArray):y=sN ys:=by
 cases v<;>simp only[W5,oR]at hv
 ·rename_i d;simp only[VR]at h;have h1:y.oq=bz:=iB.one (F:=E.F) (vs:=[d]) (l:=[y]) (by simp only[iB];exact⟨_,_,rfl,h,rfl⟩) y (by simp);have hcy:y.cells= #[y]:=by cases y<;>first|rfl|cases h1
  rw[hcy]at hc;have:ys=[y]:=by
   have:=congrArg Array.toList hc;simpa using this.symm
  rw[this];rfl
 ·rename_i l;simp only[VR]at h;obtain⟨zs,rfl,h2⟩:=h;simp only[Value.cells]at hc;have:ys=zs:=by
   have:=congrArg Array.toList hc;simpa using this.symm
  subst this;have hl:=h2.length;unfold sN;split
  ·simp only[iF,tz]at hl;rw[<- hl]at hv;exact absurd hv (by decide)
  ·rfl
def yRs {P:af} {w:ac} {b:Nat} {l:List ab} {T t:ak} (hb:w.heap[b]? =av (.cells l.toArray T)) (ht:P.underlying t=av (.slice T)) (he:P.underlying T=av (.int .u8)) (n c:Nat):
 (convert t t (.slice (av ⟨b,0,aw⟩) n c)).run P w= .ok (.slice (av ⟨b,0,aw⟩) n c) (World.ja w b (.cells l.toArray T (l.length,l.length+1))):=by
 have OI:w.shape? b=av (T,l.length):=by
  unfold World.shape?;rw[hb];simp
 have HV:w.freeze ⟨b,l.length,aw⟩ 1=World.ja w b (.cells l.toArray T (l.length,l.length+1)):=by
  unfold World.freeze World.ja;rw[ez (by decide)];congr 1;apply Rx;intro i;rw[Array.getElem?_modify,RJ];by_cases c:b=i
  ·subst c;have gu:b<w.heap.size:=(Array.getElem?_eq_some_iff.1 hb).1;rw[fh rfl,fh rfl,fh gu,hb];rfl
  ·rw[ez c,ez c]
 simp[convert,Go.run_underlying ht,Go.run_underlying he,markStringish,OI];exact HV
def Rel.setIter (R:Rel k L E s w) {n pos pos':Nat} {str:ByteArray} (h:s.get n=av (.iter str pos)) {b:Nat} {sub:List ab} (ht:E.gj[n]? =av (.pointer (av ⟨b,0,aw⟩),sub)):
 w.heap[b]? =av (.stringIter str pos)/\Rel k L E (s.set n (.iter str pos')) (World.ja w b (.stringIter str pos')):=by
 obtain⟨hk,hs,hh⟩:=R.focus h;cases hh with
 |cons ha jb hd hr=>
  rcases ha with⟨e,_⟩|⟨oT,h1,h2⟩
  ·cases e
  ·rw[ht]at h1;cases h1;simp only[fw]at h2;obtain⟨b',e1,rfl⟩:=h2;cases e1;have H:Hp k w (pt b (.stringIter str pos)::((uC n s.rows).map (ic E)++fz E.F::L)):=⟨hk,_,.cons rfl jb hd hr⟩
   refine⟨H.get,R.oe h ((H.yz (.stringIter str pos')).imp λx hx=> .inr ⟨_,ht,?_⟩)⟩;simp only[fw];exact⟨b,rfl,hx⟩
def Rel.MX (R:Rel k L E s w) {n T sz i f:Nat} {fa:Q_ D} {ds:List D} (h:s.get n=av (.own T sz fa)) (hi:i<fa.length) (hf:f+ds.length<=sz) {b oo m c:Nat} {sub:List ab}
 (ht:E.gj[n]? =av (.slice (av ⟨b,oo,aw⟩) m c,sub)) {ys:List ab} (hy:iB E.F ds ys):
 ∃l:List ab,w.heap[b]? =av (.cells l.toArray T)/\oo+i*sz+f+ys.length<=l.length/\Rel k L E (s.set n (.own T sz (zK fa i f ds))) (World.ja w b (.cells (kx l (oo+i*sz+f) ys).toArray T)):=by
 obtain⟨a,c',xs,Ex,h1,hx,hu,H⟩:=R.su h;rw[ht]at h1;cases h1;rcases H.oE with⟨e,_⟩|⟨b',r,e,h2,h3,h4,H1⟩
 ·cases e
 cases e;obtain⟨BC,RZ⟩:=nO i f ds hu hi hf;have wu:i*sz+sz<=fa.length*sz:=by
  have:=xj sz (show i+1<=fa.length by omega);rwa [zr]at this
 have Dv:=hy.length;refine⟨xs++r,H1.get,by rw[iv];omega,R.oe h ((H1.yz (.cells (kx (xs++r) (0+i*sz+f) ys).toArray T)).imp λx HQ=> .inr ⟨_,ht,?_⟩)⟩;simp only[fw];have hlen:(zK fa i f ds).length=fa.length:=by simp[zK]
 have CV:kx (xs++r) (0+i*sz+f) ys=kx xs (i*sz+f) ys++r:=by
  simp only[kx,nq];rw[yp (by omega),HI (by omega)];simp
 refine⟨_,c,kx xs (i*sz+f) ys,by rw[hlen],?_,RZ,.inr ⟨b,r,rfl,by rw[HQ,CV],?_,?_,by rw[hlen];exact h4⟩⟩
 ·rw[BC];exact PL hx hy _
 ·rw[hlen,<- h2];simp only[kx,iv,nn,pd];omega
 ·rw[<- h3];simp only[kx,iv,nn,pd];omega
def yHr {l vs:List ab} {o:Nat} (h:o+vs.length<=l.length) (j:Nat):(kx l o vs)[j]? =if j<o then l[j]? else if j<o+vs.length then vs[j-o]? else l[j]? :=by
 unfold kx;have h1:(l.take o++vs).length=o+vs.length:=by simp;omega
 split
 ·rename_i hj;rw[Eg (by omega),Eg (by simp;omega),J5,fh hj]
 ·split
  ·rw[Eg (by omega),Ch (by simp;omega),nn,FG (by omega)]
  ·rw[Ch (by omega),h1,Bu];congr 1;omega
def UK {l vs:List ab} {o p:Nat} {y:ab} (h:o+vs.length<=l.length) (hp:o+vs.length<=p\/p<o):kx (l.set p y) o vs=(kx l o vs).set p y:=by
 apply Dn;intro j;have hlen:(kx l o vs).length=l.length:=by simp[kx];omega
 rw[yHr (by rw[qm];exact h),Ce,Ce,yHr h,hlen];by_cases hj:p=j
 ·subst hj;rw[fh rfl,fh rfl];split
  ·rfl
  ·rw[ez (by omega)]
 ·rw[ez hj,ez hj]
def Rel.D5 (R:Rel k L E s w) {n:Nat} {x:py} (h:nH s n=av x):
 ∃a c ys xs sub,E.gj[n]? =av (.slice a x.fa.length c,sub)/\iB E.F x.fa.flatten ys/\(∀el∈x.fa,el.length=x.sz)/\zn E.gj (x.i*x.sz+x.f) x.b ys xs x.m/\Hp k w (ou x.T x.sz a x.fa.length c xs::((uC n s.rows).map (ic E)++fz E.F::L)):=by
 obtain⟨hk,hs,hh⟩:=R.focus (tY h);cases hh with
 |cons ha jb hd hr=>
  rcases ha with⟨e,_⟩|⟨⟨hv,sub⟩,h1,h2⟩
  ·cases e
  ·simp only[fw]at h2;obtain⟨a,c,ys,xs,rfl,q1,q2,q3,q4⟩:=h2;exact⟨a,c,ys,xs,sub,h1,q1,q2,q3,hk,_,.cons q4 jb hd hr⟩
def yPv {gj:List Hd} {p o:Nat} {b:Bool} {ys xs vs:List ab} (hl:o+vs.length<=ys.length) (hp:b=bz->o+vs.length<=p\/p<o):∀{m:Option Nat},zn gj p b ys xs m->zn gj p b (kx ys o vs) (kx xs o vs) m:=by
 have key:∀{y:ab},xs=(bif b then ys.set p y else ys)->kx xs o vs=bif b then(kx ys o vs).set p y else kx ys o vs:=by
  intro y h;cases b with
  |false=>rw[h];rfl
  |true=>rw[h,cond_true,cond_true];exact UK hl (hp rfl)
 intro m;cases m with
 |none=>rintro⟨y,e,h⟩;exact⟨y,e,key h⟩
 |some m=>rintro⟨y,l,e1,e2,h⟩;exact⟨y,l,e1,e2,key h⟩
def Rel.MZ (R:Rel k L E s w) {n i f:Nat} {x:py} {ds:List D} (h:nH s n=av x) (hi:i<x.fa.length) (hf:f+ds.length<=x.sz) (wv:x.clear i f ds.length) {b oo m c:Nat} {sub:List ab}
 (ht:E.gj[n]? =av (.slice (av ⟨b,oo,aw⟩) m c,sub)) {ys:List ab} (hy:iB E.F ds ys):
 ∃l:List ab,w.heap[b]? =av (.cells l.toArray x.T)/\oo+i*x.sz+f+ys.length<=l.length/\Rel k L E (s.set n (.uf x.q x.T x.sz (zK x.fa i f ds) x.i x.f x.b x.m)) (World.ja w b (.cells (kx l (oo+i*x.sz+f) ys).toArray x.T)):=by
 obtain⟨a,c',zs,xs,Ex,h1,hz,hu,hx,H⟩:=R.D5 h;rw[ht]at h1;cases h1;rcases H.oE with⟨e,_⟩|⟨b',r,e,h2,h3,h4,H1⟩
 ·cases e
 cases e;obtain⟨BC,RZ⟩:=nO i f ds hu hi hf;have wu:i*x.sz+x.sz<=x.fa.length*x.sz:=by
  have:=xj x.sz (show i+1<=x.fa.length by omega);rwa [zr]at this
 have Dv:=hy.length;have Du:=Y7 hx;refine⟨xs++r,H1.get,by rw[iv];omega,R.oe (tY h) ((H1.yz (.cells (kx (xs++r) (0+i*x.sz+f) ys).toArray x.T)).imp λz RU=> .inr ⟨_,ht,?_⟩)⟩;simp only[fw];have hlen:(zK x.fa i f ds).length=x.fa.length:=by simp[zK]
 have CV:kx (xs++r) (0+i*x.sz+f) ys=kx xs (i*x.sz+f) ys++r:=by
  simp only[kx,nq];rw[yp (by omega),HI (by omega)];simp
 refine⟨_,c,kx zs (i*x.sz+f) ys,kx xs (i*x.sz+f) ys,by rw[hlen],?_,RZ,yPv (by omega) (λhb=> ?_) hx,.inr ⟨b,r,rfl,by rw[RU,CV],?_,?_,by rw[hlen];exact h4⟩⟩
 ·rw[BC];exact PL hz hy _
 ·rw[Dv];exact yHj hf wv.1 (wv.2 hb)
 ·rw[hlen,<- h2];simp only[kx,iv,nn,pd];omega
 ·rw[<- h3];simp only[kx,iv,nn,pd];omega
def Rel.Jk (R:Rel k L E s w) {n c0:Nat} {q:Bool} {x:py} (h:nH s n=av x) (hi:x.i<x.fa.length) (hf:x.f<x.sz) {b oo m c:Nat} {sub:List ab}
 (ht:E.gj[n]? =av (.slice (av ⟨b,oo,aw⟩) m c,sub)) {y:ab} {ly:List ab} (hc:E.gj[c0]? =av (y,ly)) (hs:∃a n c,y= .slice a n c):
 ∃l:List ab,w.heap[b]? =av (.cells l.toArray x.T)/\oo+x.i*x.sz+x.f+1<=l.length/\Rel k L E (s.set n (.uf q x.T x.sz x.fa x.i x.f bz (av c0))) (World.ja w b (.cells (kx l (oo+x.i*x.sz+x.f) [y]).toArray x.T)):=by
 obtain⟨a,c',zs,xs,Ex,h1,hz,hu,hx,H⟩:=R.D5 h;rw[ht]at h1;cases h1;rcases H.oE with⟨e,_⟩|⟨b',r,e,h2,h3,h4,H1⟩
 ·cases e
 cases e;have wu:x.i*x.sz+x.sz<=x.fa.length*x.sz:=by
  have:=xj x.sz (show x.i+1<=x.fa.length by omega);rwa [zr]at this
 have Du:=Y7 hx;refine⟨xs++r,H1.get,by rw[iv];omega,R.oe (tY h) ((H1.yz (.cells (kx (xs++r) (0+x.i*x.sz+x.f) [y]).toArray x.T)).imp λz RU=> .inr ⟨_,ht,?_⟩)⟩;simp only[fw];have CV:kx (xs++r) (0+x.i*x.sz+x.f) [y]=xs.set (x.i*x.sz+x.f) y++r:=by
  simp only[kx,nq];rw[yp (by omega),HI (by simp;omega),Ov,fh (by omega)];simp
 have qj:xs.set (x.i*x.sz+x.f) y=zs.set (x.i*x.sz+x.f) y:=by
  have key:∀{z:ab},xs=(bif x.b then zs.set (x.i*x.sz+x.f) z else zs)->xs.set (x.i*x.sz+x.f) y=zs.set (x.i*x.sz+x.f) y:=by
   intro z h;cases hb:x.b with
   |false=>rw[h,hb];rfl
   |true=>rw[h,hb,cond_true,Ec]
  revert hx;cases x.m with
  |none=>rintro⟨z,_,h⟩;exact key h
  |some m=>rintro⟨z,l,_,_,h⟩;exact key h
 refine⟨_,c,zs,xs.set (x.i*x.sz+x.f) y,rfl,hz,hu,⟨y,ly,hc,hs,by rw[cond_true,qj]⟩,.inr ⟨b,r,rfl,by rw[RU,CV],by rw[qm,h2],by rw[<- h3];simp,h4⟩⟩
def z5n {P:af} (R:Rel k L E s w) {t n sz i f:Nat} {x:py} {v:V} {K:V->St->Prop} (hx:nH s n=av x) (h:Zd P t x n sz i f v s K) {yv:ab} (hv:VR E v yv)
 {b oo m c:Nat} {l:List ab} (e1:E.gj[n]? =av (.slice (av ⟨b,oo,aw⟩) m c,l)):∃w',Hw P (storeVar t ⟨b,oo+i*sz+f,aw⟩ yv) w w'/\ph k L E K ag w':=by
 unfold Zd at h;obtain⟨hb,h⟩:=zM h;have e:=jg hb;subst e;have S1:∀{E':Ev},VR E' (.je []) ag:=λ{E'}=>by simp only[VR];exact⟨[],rfl,ib.nil⟩
 have gen:∀{s':St} {ds:List D} {mm:Nat},IP P s t v=av (ds,s')->nH s' n=av x->pT P t=av mm->ds.length=mm->i<x.fa.length->f+mm<=x.sz->x.clear i f mm->K (.je []) (s'.set n (.uf x.q x.T x.sz (zK x.fa i f ds) x.i x.f x.b x.m))->
  ∃w',Hw P (storeVar t ⟨b,oo+i*x.sz+f,aw⟩ yv) w w'/\ph k L E K ag w':=by
  intro s' ds mm hd hh hm hl hi hf wv hk;obtain⟨E',ys,q1,q2,q3,q4,q5,q6⟩:=NF R hd hv;obtain⟨ll,r1,r2,r3⟩:=q3.MZ (ds:=ds) (i:=i) (f:=f) hh hi (by omega) (by rw[hl];exact wv) (q1.get e1) q6;have lp:=gC (P:=P) (o:=oo+i*x.sz+f) hm q5 (by rw[q6.length,hl]) (by rw[q6.length,hl]at r2;exact r2) q6.one r1;exact⟨_,lp,E',_,_,q1,r3,S1,hk⟩
 split at h
 ·rename_i c0 vv tt hs;clear hs;split at h<;>first|exact h.elim|skip
  rename_i t2 vj lv hg;have aaF:=zN h;clear h;obtain⟨mm,hm,Ts⟩:=aaF;have OU:=zM Ts;clear Ts;obtain⟨hb,⟨hi,hf⟩,hq⟩:=OU;simp only[lr]at hb;have qd:=jg hb.1;subst qd;simp only[VR]at hv;obtain⟨lc,hc,ha⟩:=hv;have wv:yv.cells=[yv].toArray/\∀z∈[yv],z.oq=bz:=by
   obtain⟨a,b,c,rfl⟩:=ha;exact⟨rfl,λz hz=>by rw[ua.1 hz];rfl⟩
  have S4:∀{q:Bool},i=x.i->f=x.f->K (.je []) (s.set n (.uf q x.T x.sz x.fa x.i x.f bz (av c0)))->∃w',Hw P (storeVar t ⟨b,oo+i*x.sz+f,aw⟩ yv) w w'/\ph k L E K ag w':=by
   intro q h1 h2 hk;subst h1 h2;obtain⟨ll,r1,r2,r3⟩:=R.Jk (q:=q) hx hi hf e1 hc ha;exact⟨_,gC (P:=P) (o:=oo+x.i*x.sz+x.f) hm wv.1 rfl r2 wv.2 r1,E,_,_,Ev.le.refl _,r3,S1,hk⟩
  split at hq
  ·obtain⟨⟨h1,h2⟩,hk⟩:=hq;exact S4 h1 h2 hk
  ·obtain⟨hp,xv,hn⟩:=hq;by_cases xf:i=x.i/\f=x.f
   ·exact S4 xf.1 xf.2 (hp xf.1 xf.2)
   ·have hn:=hn xf;split at hn<;>first|exact hn.elim|skip
    rename_i ds s' hd;split at hn<;>first|exact hn.elim|skip
    rename_i y hy;obtain⟨ni,rfl,hk⟩:=zM hn;exact gen hd hy hm (jg ni) hi (by omega) ⟨xv,λ_ OQ=>by
     have:¬f=y.f:=λe=>xf ⟨OQ,e⟩
     omega⟩ hk
 ·split at h<;>first|exact h.elim|skip
  rename_i ds s' hd;split at h<;>first|exact h.elim|skip
  rename_i y hy;obtain⟨mm,hm,h⟩:=zN h;obtain⟨ni,⟨rfl,hi,hf,wv⟩,hk⟩:=zM h;exact gen hd hy hm (jg ni) hi hf wv hk
def Rel.MY (R:Rel k L E s w) {n T i:Nat} {fa:Q_ D} {ds:List D} (h:s.get n=av (.HL T fa)) (hi:i<fa.length) (hf:ds.length=1) {b oo m c:Nat} {sub:List ab}
 (ht:E.gj[n]? =av (.slice (av ⟨b,oo,aw⟩) m c,sub)) {y:ab} (hy:iB E.F ds [y]):
 ∃l:List ab,w.heap[b]? =av (.cells l.toArray T (l.length,l.length+1))/\i<l.length/\Rel k L E (s.set n (.HL T (zK fa i 0 ds))) (World.ja w b (.cells (l.set (oo+i) y).toArray T (l.length,l.length+1)))/\oo=0:=by
 obtain⟨hk,hs,hh⟩:=R.focus h;obtain⟨b',c',xs,r,q1,q2,q3,q4,H⟩:∃b' c' xs r,(Value.slice (av ⟨b,oo,aw⟩) m c)= .slice (av ⟨b',0,aw⟩) fa.length c'/\iB E.F fa.flatten xs/\(∀el∈fa,el.length=1)/\fa.length<=c'/\Hp k w (pt b' (.cells (xs++r).toArray T ((xs++r).length,(xs++r).length+1))::(((uC n s.rows).map (ic E))++fz E.F::L)):=by
  cases hh with
  |cons ha jb HW hr=>
   rcases ha with⟨e,_⟩|⟨hv,h1,h2⟩
   ·cases e
   ·rw[ht]at h1;cases h1;simp only[fw]at h2;obtain⟨b',c',xs,r,e1,e2,e3,e4,rfl⟩:=h2;exact⟨b',c',xs,r,e1,e2,e3,e4,hk,_,.cons rfl jb HW hr⟩
 cases q1;obtain⟨BC,RZ⟩:=nO i 0 ds q3 hi (by omega);have CK:xs.length=fa.length*1:=by rw[q2.length,wE q3]
 have hlen:(zK fa i 0 ds).length=fa.length:=by simp[zK]
 refine⟨xs++r,H.get,by rw[iv];omega,R.oe h ((H.yz (.cells ((xs++r).set (0+i) y).toArray T ((xs++r).length,(xs++r).length+1))).imp λx HQ=> .inr ⟨_,ht,?_⟩),rfl⟩;simp only[fw];have qj:(xs++r).set (0+i) y=xs.set i y++r:=by rw[nq,List.set_append_left _ _ (by omega)]
 refine⟨b,c,xs.set i y,r,by rw[hlen],?_,RZ,by rw[hlen];exact q4,?_⟩
 ·rw[BC];have e:xs.set i y=kx xs (i*1+0) [y]:=by
   rw[Ov,fh (by omega)];simp[kx]
  rw[e];exact PL q2 hy _
 ·rw[qj]at HQ;rw[HQ];simp
def zZc (F:PH):∀l:i4,iB F (l.map λb=>[D.v (.int .u8 b.toNat)]).flatten (l.map λb=>cq .u8 b.toNat)
 |[]=>by simp[iB]
 |b::l=>by
  simp only[jf,A9,uh,we,iB,DR];exact⟨_,_,rfl,⟨rfl,rfl⟩,zZc F l⟩
def yLp {a b:ac} (h1:a.heap=b.heap) (h2:a.tape=b.tape) (h3:a.drawn=b.drawn) (h4:a.os=b.os) (h5:a.output=b.output):a=b:=by
 cases a;cases b;simp only at h1 h2 h3 h4 h5;subst h1 h2 h3 h4 h5;rfl
def zVv (w:ac) (e:ak) (s:ByteArray):bv w e s=World.ja (w.drew.alloc (.cells (bu w e s) e)) w.heap.size (.cells (bu w e s) e ((bu w e s).size,(bu w e s).size+1)):=by
 have hh:(bv w e s).heap=(World.ja (w.drew.alloc (.cells (bu w e s) e)) w.heap.size (.cells (bu w e s) e ((bu w e s).size,(bu w e s).size+1))).heap:=by
  apply Rx;intro j;have pg:(w.drew.alloc (.cells (bu w e s) e)).heap.size=w.heap.size+1:=by simp[World.alloc,World.drew,-World.alloc_eq,-World.drew_eq]
  simp only[World.ja];rw[RJ];by_cases hj:w.heap.size=j
  ·subst hj;rw[fh rfl,fh (by omega),Lib.bytesWorld_at_new]
  ·rw[ez hj];rcases uz j w.heap.size with h|h
   ·rw[Lib.bytesWorld_at_old w e s j h];have:(w.drew.alloc (.cells (bu w e s) e)).heap[j]? =w.heap[j]? :=by
     simp[World.alloc,World.drew,-World.alloc_eq,-World.drew_eq,Array.getElem?_push,Ne.symm hj]
    rw[this]
   ·rw[HH (by rw[Lib.bytesWorld_size];omega),HH (by omega)]
 refine yLp hh ?_ ?_ ?_ ?_<;>(unfold bv World.freeze World.ja;rw[ez (by omega)])
def yAm (R:Rel k L E s w) (b:ByteArray) (e:ak) {K:V->St->Prop} (hk:K (.own s.nx) (s.new (.HL e (j6 b)))):
 ph k L E K (.slice (av ⟨w.heap.size,0,aw⟩) b.size (ao w b.size 0 e)) (bv w e b):=by
 have hl:(j6 b).length=b.size:=by simp[j6]
 have I':b.size<=ao w b.size 0 e:=grownCap_ge w b.size 0 e;have H:=((R.hp.drew).new (.cells (bu w e b) e)).yz (.cells (bu w e b) e ((bu w e b).size,(bu w e b).size+1));have hs:w.drew.heap.size=w.heap.size:=rfl;rw[hs,<- zVv]at H;obtain⟨hd,hhd⟩:∃hd:Hd,hd=(.slice (av ⟨w.heap.size,0,aw⟩) b.size (ao w b.size 0 e),[]):=⟨_,rfl⟩
 have hle:E.le ⟨E.F,E.gj++[hd]⟩:=Ev.le.app _;have km:(E.gj++[hd])[s.nx]? =av hd:=by rw[<- R.nx];simp
 refine⟨⟨E.F,E.gj++[hd]⟩,.own s.nx,_,hle,⟨by simp[St.new,R.nx],?_⟩,?_,hk⟩
 ·have H1:Hp k (bv w e b) (s.rows.map (ic E)++(pt w.heap.size (.cells (bu w e b) e ((bu w e b).size,(bu w e b).size+1))::fz E.F::L)):=H.perm (mo (l₁:=s.rows.map (ic E))).symm;have H2:=vH (λr x=>ic.mono hle r) H1;have H3:Hp k (bv w e b) (pt w.heap.size (.cells (bu w e b) e ((bu w e b).size,(bu w e b).size+1))::(s.rows.map (ic ⟨E.F,E.gj++[hd]⟩)++fz E.F::L)):=H2.perm mo;refine H3.imp λx hx=> .inr ⟨hd,km,?_⟩
  simp only[fw];refine⟨w.heap.size,ao w b.size 0 e,b.data.toList.map λ(c:UInt8)=>cq .u8 c.toNat,bc (ao w b.size 0 e-b.size) (cq .u8 0),by rw[hhd,hl],?_,?_,by rw[hl];exact I',?_⟩
  ·exact zZc _ _
  ·simp[j6]
  ·have hx:x=one w.heap.size _:=hx;rw[hx];have ec:bu w e b=(b.data.toList.map (λ(c:UInt8)=>cq .u8 c.toNat)++bc (ao w b.size 0 e-b.size) (cq .u8 0)).toArray:=by
    apply ct;simp[bu]
   rw[ec];simp
 ·simp only[VR];exact⟨[],by rw[km,hhd],_,_,_,rfl⟩
def z9r (R:Rel k L E s w) {sz:Nat} {v:V} {fa:Q_ D} (h:z2q s sz v=av fa) {y:ab} (hv:VR E v y):
 ∃ys,Src sz w y fa.length ys/\iB E.F fa.flatten ys/\∀el∈fa,el.length=sz:=by
 unfold z2q at h;split at h
 ·cases h;simp only[VR,DR]at hv;obtain⟨rfl,_⟩:=hv;exact⟨[],.inl ⟨aw,0,rfl,pe,.inl ⟨rfl,rfl,rfl⟩,Sub.pe w⟩,by simp[iB],by simp⟩
 ·rename_i b;obtain⟨hb,h⟩:=pC h;have:=jg hb;subst this;cases h;simp only[VR,DR]at hv;obtain⟨rfl,_⟩:=hv;refine⟨b.data.toList.map λb=> .int .u8 b.toNat,.inr ⟨b,rfl,rfl,by simp[j6],rfl⟩,?_,?_⟩
  ·unfold j6;generalize b.data.toList=l
   induction l with
   |nil=>simp[iB]
   |cons a l ih=>simp only[jf,A9,uh,we,iB,DR];exact⟨_,_,rfl,⟨rfl,rfl⟩,ih⟩
  ·intro el oS;unfold j6 at oS;obtain⟨x,_,rfl⟩:=np.1 oS;rfl
 ·split at h<;>first|(cases h;done)|skip
  rename_i oB ln hd;obtain⟨hb,hh⟩:=pC h;clear h;have:=jg hb;subst this;cases hh;obtain⟨a,c,xs,rfl,h2,h3,h4,h5⟩:=mP R hv hd;exact⟨xs,.inl ⟨a,c,rfl,h5⟩,h3,h4⟩
def zVp (R:Rel k L E s w) {t1 t2 rt:Nat} {x y:V} {xr yr:ab} (hx:VR E x xr) (hy:VR E y yr) {K:V->St->Prop} (h:YH P t1 t2 s x y K):
 ∃v w',fJ P (Builtin.append_ #[t1,t2] rt #[xr,yr]) w v w'/\ph k L E K v w':=by
 unfold YH at h;obtain⟨i,hi,h⟩:=zN h;obtain⟨hb,h⟩:=zM h;simp only[lr]at hb;obtain⟨ln,EA,h⟩:=zN h;obtain⟨z,q1,q2,q3,q4⟩:=dZ hi;obtain⟨ys,KX,HO,huy⟩:=z9r R EA hy;have Fh:0<i.oD:=by simpa[yk]using hb.2
 split at h<;>first|exact h.elim|skip
 ·obtain⟨hlen,hk⟩:=h;simp only[VR,DR]at hx;obtain⟨rfl,_⟩:=hx;obtain⟨a',c',w',jr,H⟩:=(R.hp.nil i.e i.sz).append (P:=P) (rt:=rt) q1 hb.1 KX HO.one (by rw[q2]) Fh (i9 hlen);simp only[nq,we]at jr H;obtain⟨E',r1,r2,r3⟩:=aN R.nx HO huy H;exact⟨_,w',jr,E',_,_,r1,r2,r3,hk⟩
 ·rename_i n;split at h<;>first|exact h.elim|skip
  rename_i T sz fa hg;obtain⟨ni,hlen,hk⟩:=zM h;simp only[lr]at ni;have e1:=jg ni.1;have e2:=jg ni.2;subst e1 e2;obtain⟨a,c,xs,sub,h1,wk,hu,H⟩:=R.su hg;simp only[VR]at hx;obtain⟨l,hx,_⟩:=hx;rw[h1]at hx;cases hx;obtain⟨a',c',w',jr,H⟩:=H.append (P:=P) (rt:=rt) q1 hb.1 KX HO.one (by rw[q2]) Fh hlen;obtain⟨E',r1,r2,r3⟩:=aN (fa:=fa++ln) R.nx (by rw[Oo];exact wk.append HO) (λel oS=>by
   rcases oK.1 oS with h|h
   ·exact hu el h
   ·exact huy el h) (by rw[iv];exact H)
  rw[iv]at r3;exact⟨_,w',jr,E',_,_,r1,r2,r3,hk⟩
def Rel.M7 {E:Ev} {s:St} (R:Rel k L E s w) {sz:Nat} {fa:Q_ D} {y:ab} (h:DR E.F (.ro sz fa) y):∃E',E.le E'/\Rel k L E' (s.new (.kq sz fa)) w/\E'.gj[s.nx]? =av (y,[]):=by
 have hle:E.le ⟨E.F,E.gj++[(y,[])]⟩:=Ev.le.app _;have km:(E.gj++[((y,[]):Hd)])[s.nx]? =av (y,[]):=by rw[<- R.nx];simp
 refine⟨_,hle,⟨by simp[St.new,R.nx],?_⟩,km⟩;have H2:=vH (λr x=>ic.mono hle r) R.hp;have:=(@gV k w True _).2 ⟨trivial,H2⟩;exact this.imp λx hx=> .inr ⟨_,km,by simp only[fw];exact⟨hx.2,h⟩⟩
def Vl:∀{vs:List V} {s:St} {K:List V->St->Prop} {E:Ev} {l:List ab},Nu vs s K->Rel k L E s w->ib E vs l->∃E' Av s',E.le E'/\Rel k L E' s' w/\ib E' Av l/\K Av s'
 |[],s,K,E,l,h,R,hv=>⟨E,[],s,Ev.le.refl _,R,hv,h⟩
 |v::vs,s,K,E,l,h,R,hv=>by
  simp only[Nu]at h;simp only[ib]at hv;obtain⟨x,xs,rfl,h1,h2⟩:=hv;split at h
  ·rename_i sz fa;simp only[VR]at h1;obtain⟨E1,q1,q2,q3⟩:=R.M7 h1;obtain⟨E2,Av,s',r1,r2,r3,r4⟩:=Vl h q2 (h2.mono q1);refine⟨E2,_,s',q1.trans r1,r2,?_,r4⟩;simp only[ib,VR];simp only[DR]at h1;obtain⟨a,c,e,_⟩:=h1;exact⟨x,xs,rfl,⟨[],r1.get q3,a,_,c,e⟩,r3⟩
  ·obtain⟨E2,Av,s',r1,r2,r3,r4⟩:=Vl h R h2;exact⟨E2,_,s',r1,r2,by simp only[ib];exact⟨x,xs,rfl,h1.mono r1,r3⟩,r4⟩
def ph.up {E E':Ev} (h:E.le E') {K:V->St->Prop} {y:ab} {w':ac}:ph k L E' K y w'->ph k L E K y w':=λ⟨E2,v,s',h1,h2⟩=>⟨E2,v,s',h.trans h1,h2⟩
def z6w {H:BH} (hH:IW P H) (R:Rel k L E s w) {f:aq} {args:List V} {ys:List ab} {K:V->St->Prop} (h:yNg H f args s K) (hv:ib E args ys):nk P (aj f ys.toArray) w (ph k L E K):=by
 unfold yNg at h;split at h
 ·rename_i n i rest;split at h<;>first|exact h.elim|skip
  rename_i t T m iz l hg;obtain⟨x,hx,h⟩:=h;simp only[ib]at hv;obtain⟨y,ys,rfl,h1,h2⟩:=hv;have BE:=h1;obtain⟨E1,hle,R1,Be,l0,ht⟩:=R.Jd hg hx h1;have OH:ib E1 (.nm s.nx 0::rest) (y::ys):=by simp only[ib];exact⟨_,_,rfl,Be,h2.mono hle⟩
  refine(hH f _ _ _ h k L E1 w _ R1 OH).mono ?_;rintro r w' ⟨E',v,s',jt,R',RY,hk⟩;unfold y2p at hk;split at hk<;>first|exact hk.elim|skip
  rename_i o ha;split at hk<;>first|exact hk.elim|skip
  rename_i t' T' m' aa5 l' j hn;obtain⟨x',rfl,rfl,hi,hk⟩:=hk;simp only[VR]at BE;obtain⟨hd,aa6,b,oo,e1,e2,e3⟩:=BE;have e1':=(hle.trans jt).get e1;have R2:=R'.Jj ha hn hi (jt.get ht) (λv sub hs=>by rw[e1']at hs;cases hs;exact e2);exact⟨E',v,_,hle.trans jt,R2,RY,hk⟩
 ·exact hH f _ s K h k L E w _ R hv
def z1i {E:Ev} {ps:List (Nat×V)} {qs:List (Nat×ab)} {m:Nat} (h:z2a ps=av m) (hp:Cr E ps qs):∃y,qs=[(0,y)]/\VR E (.nm m 0) y:=by
 unfold z2a at h;split at h<;>first|(cases h;done)|skip
 cases h;simp only[Cr]at hp;obtain⟨y,ys,rfl,h1,rfl⟩:=hp;exact⟨y,rfl,h1⟩
def zZv (R:Rel k L E s w) {t:ak} {i:SlI} (hi:pV P t=av i) (pg:i.sz=1) {m:Nat} {T:Type} {mm:Nat} {iz:T->Nat->fq} {x:T} (hg:s.get m=av (.rh T mm iz x)) {qs:List (Nat×ab)}
 (hp:∃y,qs=[(0,y)]/\VR E (.nm m 0) y) {K:V->St->Prop} (hk:K (.own s.nx) ((s.del m).new (.kj i.e T mm iz [x] aw))):
 ∃v w',(Instr.buildSlice t 1 qs.toArray).run P w= .ok v w'/\ph k L E K v w':=by
 obtain⟨y,rfl,hv⟩:=hp;simp only[VR]at hv;obtain⟨b,oo,l0,e1,rfl⟩:=hv;obtain⟨z,q1,q2,q3,q4⟩:=dZ hi;obtain⟨inf,zv,p1,p2,p3,p4,p5,p6⟩:=jI q1;have ML:Mp P t 1 #[(0,cp (av ⟨b,oo+0,aw⟩))]=av (i.e,#[cp (av ⟨b,oo,aw⟩)]):=by
  unfold Mp;simp only[p1,p2];rw[ez (by rw[p3,pg];omega)];have hz:(if 1*inf.size=0 then av #[]else inf.zero.map Value.cells)=av z:=by
   rw[ez (by rw[p3,pg];omega),p5,wg,p6]
  rw[hz];simp only;have AK:Hz z (1*inf.size)=z:=by
   rw[p3,pg];have L8:z.size=1:=by rw[q2,pg]
   apply ct;have:=eJ (z:=z.toList) 1;rw[Rz,show z.toList.length=1 by simp[L8]]at this;simpa using this
  rw[AK,p3,pg];have L8:z.toList.length=1:=by simp[q2,pg]
  obtain⟨z0,hz0⟩:∃z0,z= #[z0]:=by
   match Du:z.toList,L8 with
   |[a],_=>exact⟨a,by apply ct;simpa using Du⟩
  subst hz0;simp[Instr.fill,Value.cells]
 refine⟨_,_,nK ML w,?_⟩;have R1:=R.take hg;have H:=(R1.hp.new (.cells #[cp (av ⟨b,oo,aw⟩)] i.e)).lit (l:=[cp (av ⟨b,oo,aw⟩)]) (sz:=1) (n:=1) rfl;have H1:Hp k (w.alloc (.cells #[cp (av ⟨b,oo,aw⟩)] i.e)) (ic E (m,.rh T mm iz x)::ou i.e 1 (av ⟨w.heap.size,0,aw⟩) 1 1 [cp (av ⟨b,oo,aw⟩)]::((s.del m).rows.map (ic E)++fz E.F::L)):=by
  refine H.perm ?_;refine(cg _ ?_).trans (.swap _ _ _);exact(ce _ (.swap _ _ _)).trans mo
 have H2:=(H1.imp λq hq=>zOc e1 hq).swap;have H3:Hp k (w.alloc (.cells #[cp (av ⟨b,oo,aw⟩)] i.e)) (ou i.e 1 (av ⟨w.heap.size,0,aw⟩) [x].length 1 [cp (av ⟨b,oo,aw⟩)]::((ba [x].length).map (x9 E.F T mm iz [x] [cp (av ⟨b,oo,aw⟩)] aw)++((s.del m).rows.map (ic E)++fz E.F::L))):=by
  have H3:=H2.swap.imp (B:=x9 E.F T mm iz [x] [cp (av ⟨b,oo,aw⟩)] aw 0) λq hq=>by
   unfold x9;rw[ez (by simp)];exact⟨x,_,l0,rfl,rfl,hq⟩
  exact H3.swap
 obtain⟨E2,t1,t2,t3⟩:=zLv (l:=[x]) (by simpa[St.del]using R.nx) rfl (λp hp=>by rw[ua.1 hp];exact⟨_,_,rfl⟩) H3;exact⟨E2,_,_,t1,t2,t3,hk⟩
def zTb (R:Rel k L E s w) {t1 t2 rt:Nat} {x y:V} {xr yr:ab} (hx:VR E x xr) (hy:VR E y yr) {K:V->St->Prop} (h:ZG P t1 t2 s x y K):
 ∃v w',(Builtin.append_ #[t1,t2] rt #[xr,yr]).run P w= .ok v w'/\ph k L E K v w':=by
 unfold ZG at h;split at h<;>first|exact h.elim|skip
 rename_i n2;split at h<;>first|exact h.elim|skip
 rename_i t2' T2 m2 vu l2 Az;obtain⟨i,hi,h⟩:=zN h;obtain⟨hb,h⟩:=zM h;simp only[lr]at hb;have Fh:0<i.oD:=by simpa[yk]using hb.1.2
 have pg:=jg hb.2;obtain⟨z,q1,q2,q3,q4⟩:=dZ hi;rw[pg]at q1 q2;obtain⟨a2,c2,tb,g1,g2,g3,H⟩:=VB R Az;simp only[VR]at hy;obtain⟨ly,hy,_⟩:=hy;rw[g1]at hy;cases hy;have EA:Src 1 w (.slice a2 l2.length c2) l2.length tb:= .inl ⟨a2,c2,rfl,by obtain⟨q,hq,hs⟩:=H.sat;exact⟨q,nA hq,hs⟩⟩;have EB:∀v∈tb,v.oq=bz:=λv hv=>by obtain⟨_,_,rfl⟩:=g3 v hv;rfl
 split at h<;>first|exact h.elim|skip
 ·obtain⟨hlen,hk⟩:=h;simp only[VR,DR]at hx;obtain⟨rfl,_⟩:=hx;obtain⟨a',c',w',jr,H1⟩:=(H.nil i.e 1).append (P:=P) (rt:=rt) q1 hb.1.1 EA EB q2 Fh (i9 hlen);simp only[nq,we]at jr H1;have H2:=H1.swap.drop;obtain⟨E',r1,r2,r3⟩:=zLv (rows:=uC n2 s.rows) R.nx g2 g3 H2;exact⟨_,w',jr,E',_,_,r1,r2,r3,hk⟩
 ·rename_i n OI aa7;split at h<;>first|exact h.elim|skip
  rename_i t1' T1 m1 SS l1 hg1;obtain⟨za,he1,hlen,hk⟩:=h;rw[he1]at hg1;have R1:=R.take Az;obtain⟨a1,c1,BL,f1,f2,f3,H1⟩:=VB R1 hg1;simp only[VR]at hx;obtain⟨lx,hx,_⟩:=hx;rw[f1]at hx;cases hx;obtain⟨a',c',w',jr,H2⟩:=H1.append (P:=P) (rt:=rt) q1 hb.1.1 EA EB q2 Fh hlen;have p1:(be (x9 E.F T2 m2 vu za BL aw) (ba za.length)++(be (ic E) (uC n (s.del n2).rows)++fz E.F::ic E (n2,fq.kj t2' T2 m2 vu l2 aw)::L)).Perm
   (ic E (n2,fq.kj t2' T2 m2 vu l2 aw)::(be (x9 E.F T2 m2 vu za BL aw) (ba za.length)++(be (ic E) (uC n (s.del n2).rows)++fz E.F::L))):=
   (ce _ ((ce _ (.swap _ _ _)).trans mo)).trans mo
  have H3:=(H2.cons p1).swap;have H4:Hp k w' (SB (ou t2' 1 a2 l2.length c2 tb) (hS ((ba l2.length).map (x9 E.F T2 m2 vu l2 tb aw)))::ou i.e 1 a' (za.length+l2.length) c' (BL++tb)::(be (x9 E.F T2 m2 vu za BL aw) (ba za.length)++(be (ic E) (uC n (s.del n2).rows)++fz E.F::L))):=
   H3.imp λq hq=>by
    rcases hq with⟨e,_⟩|⟨hd,h1,h2⟩
    ·cases e
    ·rw[g1]at h1;cases h1;obtain⟨a3,c3,e3,_,_,e4⟩:=qx.1 h2;cases e3;exact e4
  have H5:=qw.1 (uw.1 H4).drop;have H6:Hp k w' (ou i.e 1 a' (za++l2).length c' (BL++tb)::((ba (za++l2).length).map (x9 E.F T2 m2 vu (za++l2) (BL++tb) aw)++((uC n (s.del n2).rows).map (ic E)++fz E.F::L))):=by
   have H7:Hp k w' ((ba za.length).map (x9 E.F T2 m2 vu za BL aw)++((ba l2.length).map (x9 E.F T2 m2 vu l2 tb aw)++(ou i.e 1 a' (za.length+l2.length) c' (BL++tb)::((uC n (s.del n2).rows).map (ic E)++fz E.F::L)))):=by
    refine H5.perm ?_;refine(ce _ (mo.symm)).trans ?_;rw[<- jd,<- jd];exact cf _ Bw
   have H8:=ySg f2 H7;rw[iv]at H8 ⊢;exact H8.perm mo
  obtain⟨E',r1,r2,r3⟩:=zLv (rows:=uC n (s.del n2).rows) (by simpa[St.del]using R1.nx) (by rw[iv,iv,f2,g2]) (λp hp=>by
   rcases oK.1 hp with h|h
   ·exact f3 p h
   ·exact g3 p h) H6
  rw[iv]at r3;exact⟨_,w',jr,E',_,_,r1,r2,r3,hk⟩
def z3e {H:BH} {E:Ev} {s:St} {w:ac} (R:Rel k L E s w) {ρS:xF} {ρ:Env} (he:lj E ρS ρ) {o:ap} {K:V->St->Prop} {t:ak} {x:au} {lo hi:Option au} (ho:o.op= .slice t x lo hi aw) (h:se P H o ρS s K):
 ∃y,Fx P (ae (ev ρ) o) y/\ph k L E K y w:=by
 simp only[se,ho]at h;split at h<;>first|exact h.elim|skip
 rename_i n wk;have hx:=he.ev x;rw[wk]at hx;have ro:∀{E':Ev} {s':St} {sz:Nat} {fa:Q_ D} {l u:Option Int} {K':V->Prop},E.le E'->Rel k L E' s' w->DR E'.F (.ro sz fa) (ev ρ x)->g9 P t=av sz->Ht ρS lo=av l->Ht ρS hi=av u->Ob sz fa l u K'->(∀v,K' v->K v s')->
  ∃y,Fx P (ae (ev ρ) o) y/\ph k L E K y w:=by
  intro E' s' sz fa l u K' hle R' hdr hs h1 h2 yt hk;obtain⟨a,c,v,e1,IL,aaR⟩:=hdr.Gx yt;have hp:bR P o ρ (λy=>VR E' v y):=by
   simp only[bR,ho,e1,hs,dG he h1,dG he h2,EN];exact z7w (λp n c hh=>hh E' rfl) aaR
  obtain⟨y,hy,hf⟩:=fX hp;exact⟨y,hf,E',v,s',hle,R',hy,hk v IL⟩
 split at h<;>first|exact h.elim|skip
 ·rename_i T sz fa hg;obtain⟨oB,hs,h⟩:=zN h;obtain⟨hb,hh⟩:=zM h;clear h;have e:=jg hb;subst e;obtain⟨l,u,h1,h2,h⟩:=rR hh;clear hh;cases l with
  |none=>
   obtain⟨a,c,xs,sub,q1,q2,q3,H⟩:=R.su hg;have XY:=hx;simp only[VR]at hx;obtain⟨Ex,hx,_⟩:=hx;rw[q1]at hx;have hev:ev ρ x= .slice a fa.length c:=((Prod.mk.inj (co hx)).1).symm;have hnc:fa.length<=c:=H.len.2;cases u with
   |none=>
    have hp:bR P o ρ (λy=>VR E (.own n) y):=by
     simp only[bR,ho,hev,hs,dG he h1,dG he h2,EN,tp];exact⟨hnc,by rw[hev]at XY;exact XY⟩
    obtain⟨y,hy,hf⟩:=fX hp;exact⟨y,hf,E,_,s,Ev.le.refl _,R,hy,h⟩
   |some u=>
    obtain⟨⟨h3,h4⟩,hk⟩:=h;have hux:(fa.take u.toNat).length=u.toNat:=by rw[nn];omega
    have H2:Hp k w (ou T sz a (fa.take u.toNat).length c (xs.take (u.toNat*sz))::((uC n s.rows).map (ic E)++fz E.F::L)):=by
     refine H.imp λz hz=> ?_
     rw[hux];rcases hz with⟨rfl,z1,rfl,rfl,rfl⟩|⟨b,r,rfl,rfl,z2,z3,z4⟩
     ·left;exact⟨rfl,by omega,rfl,by simp,rfl⟩
     ·right;have hle:u.toNat*sz<=fa.length*sz:=xj _ (by omega);refine⟨b,xs.drop (u.toNat*sz)++r,rfl,?_,?_,?_,by omega⟩
      ·rw[<- jd,Bb]
      ·rw[nn];omega
      ·rw[<- jd,Bb];exact z3
    obtain⟨E',r1,r2,r3⟩:=aN (fa:=fa.take u.toNat) R.nx (by rw[<- rY _ q3];exact q2.take _) (λel oS=>q3 el (Ot oS)) H2;have hp:bR P o ρ (λy=>VR E' (.own s.nx) y):=by
     simp only[bR,ho,hev,hs,dG he h1,dG he h2,EN,tp];rw[hux]at r3;exact⟨⟨h3,by omega⟩,r3⟩
    obtain⟨y,hy,hf⟩:=fX hp;exact⟨y,hf,E',_,_,r1,r2,hy,hk⟩
  |some l=>
   have HV:=Ps R (v:= .own n) (d:= .ro sz fa) (s':=s.set n (.kq sz fa)) (by simp only[LN,hg]) hx;obtain⟨E',r1,r2,r3,r4,r5⟩:=HV;exact ro r1 r3 r5 hs h1 h2 h (λv hv=>hv)
 ·rename_i sz fa hg;obtain⟨oB,hs,h⟩:=zN h;obtain⟨hb,hh⟩:=zM h;clear h;have e:=jg hb;subst e;obtain⟨l,u,h1,h2,h⟩:=rR hh;clear hh;have HV:=Ps R (v:= .own n) (d:= .ro sz fa) (s':=s) (by simp only[LN,hg]) hx;obtain⟨E',r1,r2,r3,r4,r5⟩:=HV;exact ro r1 r3 r5 hs h1 h2 h (λv hv=>hv)
def z4o {H:BH} (hH:IW P H) (R:Rel k L E s w) {ρS:xF} {ρ:Env} (he:lj E ρS ρ) {o:ap} {K:V->St->Prop} (h:se P H o ρS s K):nk P (ae (ev ρ) o) w (ph k L E K):=by
 cases ho:o.op
 case alloc e=>
  simp only[se,ho]at h;obtain⟨z,hz,h⟩:=zN h;obtain⟨hb,hk⟩:=zM h;obtain⟨l,hl,hv⟩:=VR.cells (E:=E) hb (Pl E z);simp only[ae,ho];refine yG (v:= .pointer (av ⟨w.heap.size,0,aw⟩)) (w':=w.alloc (.cells z.cells e)) ?_ ?_
  ·simp only[Instr.alloc,bind,pure,run_bind,me (bT hz),cu,zTa]
  ·refine VO (hd:=(.pointer (av ⟨w.heap.size,0,aw⟩),[])) R ?_ (λhg=> ?_) hk
   ·simp only[fw];exact⟨_,l,rfl,ib.mono (Ev.le.app _) hv,by rw[hl]⟩
   ·simp only[VR];exact⟨_,0,_,hg,rfl⟩
 case box e x=>
  simp only[se,ho]at h;obtain⟨hb,hk⟩:=zM h;obtain⟨l,hl,hv⟩:=VR.cells (E:=E) hb (he.ev x);obtain⟨E1,us,s1,xg,R1,hv,hk⟩:=Vl hk R hv;simp only[ae,ho];refine yG (v:= .pointer (av ⟨w.heap.size,0,aw⟩)) (w':=w.alloc (.cells (ev ρ x).cells e)) rfl (ph.up xg ?_);refine VO (hd:=(.pointer (av ⟨w.heap.size,0,aw⟩),[])) R1 ?_ (λhg=> ?_) hk
  ·simp only[fw];exact⟨_,l,rfl,ib.mono (Ev.le.app _) hv,by rw[hl]⟩
  ·simp only[VR];exact⟨_,0,_,hg,rfl⟩
 case buildSlice t len ps=>
  simp only[se,ho]at h;split at h
  ·rename_i m hm;split at h<;>first|exact h.elim|skip
   rename_i T mm iz x hg;obtain⟨i,hi,h⟩:=zN h;obtain⟨hb,hk⟩:=zM h;simp only[lr]at hb;have qd:=jg hb.1;have ni:=jg hb.2;subst ni;obtain⟨v,w',hr,xy⟩:=zZv R hi qd hg (hp:=z1i hm (VW he ps.toList)) hk;simp only[ae,ho];refine yG ?_ xy;have Ck:(ps.map λ(x:Nat×au)=>(x.1,ev ρ x.2))=(ps.toList.map λp=>(p.1,ev ρ p.2)).toArray:=by apply ct;simp
   rw[Ck];exact hr
  obtain⟨i,hi,h⟩:=zN h;obtain⟨hb,h⟩:=zM h;split at h<;>first|exact h.elim|skip
  rename_i fa s' hf;obtain⟨z,q1,q2,q3,q4⟩:=dZ hi;obtain⟨inf,zv,p1,p2,p3,p4,p5,p6⟩:=jI q1;have OT:iB E.F (bc len i.z).flatten (Hz z (len*i.sz)).toList:=by
   rw[<- q2,show z.size=z.toList.length by simp];have:=eJ (z:=z.toList) len;rw[Rz]at this;rw[this];exact z1m (q4 E.F) len
  obtain⟨E',CN,r1,r2,r3,r4,r5,r6,r7,r8⟩:=z4r R hf (VW he ps.toList) (PM q3) OT;have ML:Mp P t len (ps.map λ(i,x)=>(i,ev ρ x))=av (i.e,CN.toArray):=by
   unfold Mp;simp only[p1,p2];rw[ez (by rw[p3];have:=Cg hb;omega)];have hz:(if len*inf.size=0 then av #[]else inf.zero.map Value.cells)=av (if len*inf.size=0 then #[]else z):=by
    split
    ·rfl
    ·rw[p5,wg,p6]
   have AK:Hz (if len*inf.size=0 then #[]else z) (len*inf.size)=Hz z (len*i.sz):=by
    rw[p3];by_cases h0:len*i.sz=0
    ·rw[fh h0,h0];rfl
    ·rw[ez h0]
   rw[hz];simp only;rw[AK];simp only[p3];rw[Rz]at r8;have Ck:(ps.map λ(x:Nat×au)=>(x.1,ev ρ x.2)).toList=ps.toList.map λp=>(p.1,ev ρ p.2):=by simp
   rw[Ck,r8];rfl
  simp only[ae,ho];refine yG (nK ML w) ?_;have hlen:fa.length=len:=by rw[r6,HF]
  have CK:CN.length=fa.length*i.sz:=by rw[r7.length,wE r5]
  have H:=(r3.hp.new (.cells CN.toArray i.e)).lit CK;obtain⟨E2,t1,t2,t3⟩:=aN r3.nx r7 r5 H;rw[hlen]at t3;exact⟨E2,_,_,r1.trans t1,t2,t3,h⟩
 case makeMap t r=>
  cases r with
  |some r=>simp only[se,ho]at h
  |none=>
   simp only[se,ho]at h;simp only[ae,ho];refine yG (v:= .map (av w.heap.size)) (w':=w.alloc (.map #[] 0)) rfl ?_;refine VO (hd:=(.map (av w.heap.size),[])) R ?_ (λhg=> ?_) h
   ·simp only[fw];exact⟨_,[],0,rfl,by simp only[MR],yRf,rfl⟩
   ·simp only[VR];exact⟨_,_,hg,rfl⟩
 case makeSlice t l c=>
  simp only[se,ho]at h;split at h<;>first|exact h.elim|skip
  rename_i kl l' kc c' hl hc;obtain⟨i,hi,BD,hk⟩:=zN h;obtain⟨z,q1,q2,q3,q4⟩:=dZ hi;have el:=he.ev l;have ec:=he.ev c;rw[hl]at el;rw[hc]at ec;simp only[ae,ho,el.Ez,ec.Ez];refine yG (zRi q1 BD w) ?_;have AK:(madeCells z (c'.toNat*i.sz)).toList=(bc c'.toNat z.toList).flatten:=by
   have:=eJ (z:=z.toList) c'.toNat;rw[Rz,show z.toList.length=i.sz by simp[q2]]at this;rw[<- this,<- YL];rfl
  have o6:bc c'.toNat z.toList=bc l'.toNat z.toList++bc (c'.toNat-l'.toNat) z.toList:=by
   rw[List.replicate_append_replicate];congr 1;omega
  have hx:iB E.F (bc l'.toNat i.z).flatten (bc l'.toNat z.toList).flatten:=z1m (q4 E.F) _;have Du:z.toList.length=i.sz:=by simp[q2]
  have H:=R.hp.new (.cells (madeCells z (c'.toNat*i.sz)) i.e);have F':madeCells z (c'.toNat*i.sz)=((bc l'.toNat z.toList).flatten++(bc (c'.toNat-l'.toNat) z.toList).flatten).toArray:=by
   apply ct;rw[AK,o6,Oo]
  rw[F']at H ⊢;have H2:=H.AH (n:=l'.toNat) (c:=c'.toNat) (sz:=i.sz) (by rw[wE (PM Du),HF]) (by
   rw[iv,wE (PM Du),wE (PM Du),HF,HF,<- zq];congr 1;omega) (by omega)
  obtain⟨E2,t1,t2,t3⟩:=aN (fa:=bc l'.toNat i.z) R.nx hx (PM q3) (by rw[HF];exact H2);rw[HF]at t3;exact⟨E2,_,_,t1,t2,t3,hk⟩
 case store t x v=>
  simp only[se,ho]at h;have hx:=he.ev x;split at h<;>first|exact h.elim|skip
  ·rename_i n off wk;rw[wk]at hx;simp only[VR]at hx;obtain⟨b,oo,sub,e1,e2⟩:=hx;obtain⟨X9,h⟩:=zM h;obtain⟨lv,El,RX⟩:=VR.cells X9 (he.ev v);obtain⟨E1,us,s1,xg,R1,RX,h⟩:=Vl h R RX;have e1:=xg.get e1;split at h<;>first|exact h.elim|skip
   rename_i vs T hg;obtain⟨m,hm,h⟩:=zN h;obtain⟨hb,hk⟩:=zM h;simp only[lr]at hb;obtain⟨⟨qd,ni⟩,Dw⟩:=hb;have qd:=jg qd;have ni:=Cg ni;obtain⟨b',l,Ex,q1,q2,q3⟩:=R1.cells hg;rw[e1]at q1;cases q1;have h1:=q2.length;have h2:=RX.length;have lp:=gC (P:=P) (o:=0+off) hm El (by rw[h2,qd]) (by omega) (z5m Dw RX) q3;simp only[ae,ho,e2];refine vF lp ⟨E1,_,_,xg,R1.setCells hg e1 (Av:=vs.take off++(us++vs.drop (off+m))) ?_,?_,hk⟩
   ·unfold kx;rw[jd,nq,h2,qd];exact(q2.take off).append (RX.append (q2.drop _))
   ·simp only[VR];exact⟨[],rfl,ib.nil⟩
  ·rename_i n sz i f wk;split at h
   ·rename_i xh hxh;rw[wk]at hx;simp only[VR]at hx;obtain⟨b,oo,mm,c,sub,e1,e2⟩:=hx;obtain⟨w',lp,oG⟩:=z5n R hxh h (he.ev v) e1;simp only[ae,ho,e2];exact vF lp oG
   split at h<;>first|exact h.elim|skip
   rename_i ds s' hd;split at h<;>first|exact h.elim|skip
   rename_i T oB fa hg;obtain⟨m,hm,h⟩:=zN h;obtain⟨hb,hi,hk⟩:=zM h;simp only[lr]at hb;obtain⟨⟨qd,ni⟩,Dw⟩:=hb;have e:=jg qd;subst e;have ni:=jg ni;have Dw:=Cg Dw;obtain⟨E',ys,q1,q2,q3,q4,q5,q6⟩:=NF R hd (he.ev v);rw[wk]at hx;simp only[VR]at hx;obtain⟨b,oo,mm,c,sub,e1,e2⟩:=hx;obtain⟨l,r1,r2,r3⟩:=q3.MX (ds:=ds) (f:=f) hg hi (by omega) (q1.get e1) q6;have lp:=gC (P:=P) (o:=oo+i*sz+f) hm q5 (by rw[q6.length,ni]) (by rw[q6.length,ni]at r2;exact r2) q6.one r1;simp only[ae,ho,e2];exact vF lp ⟨E',_,_,q1,r3,by simp only[VR];exact⟨[],rfl,ib.nil⟩,hk⟩;rename_i T fa hg;obtain⟨m,hm,h⟩:=zN h;obtain⟨hb,hi,hk⟩:=zM h;simp only[lr]at hb;obtain⟨⟨⟨qd,ni⟩,Dw⟩,Yd⟩:=hb;have qd:=jg qd;have ni:=jg ni;have Dw:=jg Dw;have Yd:=jg Yd;subst qd Dw Yd;obtain⟨E',ys,q1,q2,q3,q4,q5,q6⟩:=NF R hd (he.ev v);rw[wk]at hx;simp only[VR]at hx;obtain⟨b,oo,mm,c,sub,e1,e2⟩:=hx;have Dv:=q6.length;obtain⟨y,rfl⟩:∃y,ys=[y]:=List.length_eq_one_iff.1 (by omega);obtain⟨l,r1,r2,r3,r4⟩:=q3.MY (ds:=ds) hg hi ni (q1.get e1) q6;have lp:=zVn (P:=P) (o:=oo+i) hm q5 (by rw[r4];simpa using r2) (q6.one y iX) r1;simp only[ae,ho,e2];have ea:oo+i*1+0=oo+i:=by omega
   rw[ea];exact vF lp ⟨E',_,_,q1,r3,by simp only[VR];exact⟨[],rfl,ib.nil⟩,hk⟩
  ·rename_i n off i wk;rw[wk]at hx;simp only[VR]at hx;obtain⟨b,oo,sub,e1,e2⟩:=hx;have X1:=he.ev v;split at h<;>first|exact h.elim|skip
   rename_i u hu;rw[hu]at X1;have Be:=X1;simp only[VR,DR]at Be;obtain⟨Be,E9⟩:=Be;split at h<;>first|exact h.elim|skip
   rename_i vs T hg;obtain⟨m,hm,h⟩:=zN h;obtain⟨hb,hi,hk⟩:=zM h;have hb:=jg hb;subst hb;rw[pd]at hi;obtain⟨b',l,Ex,q1,q2,q3⟩:=R.cells hg;rw[e1]at q1;cases q1;have h1:=q2.length;have El:(ev ρ v).cells=[u].toArray:=by
    rw[Be];cases u<;>first|rfl|cases E9
   have lp:=gC (P:=P) (o:=0+(off+i)) hm El rfl (by omega) (by intro z hz;rw[ua.1 hz];exact E9) q3;simp only[ae,ho,e2];refine vF lp ⟨E,_,_,Ev.le.refl _,R.setCells hg e1 (Av:=vs.take off++(vs.drop off).set i (.d (.v u))) ?_,?_,hk⟩
   ·have e:vs.take off++(vs.drop off).set i (.d (.v u))=vs.take (off+i)++([.d (.v u)]++vs.drop (off+i+1)):=by
     rw[Ov,fh (by rw[pd];omega),Dl,List.take_add,jd];rfl
    rw[e];unfold kx;rw[jd,nq];exact(q2.take _).append ((ib.one (by simp only[VR,DR];exact⟨trivial,E9⟩)).append (q2.drop _))
   ·simp only[VR];exact⟨[],rfl,ib.nil⟩
   rename_i vs T hg;obtain⟨m,hm,h⟩:=zN h;obtain⟨hb,hi,hk⟩:=zM h;have hb:=jg hb;subst hb;rw[pd]at hi;obtain⟨b',l,Ex,q1,q2,q3⟩:=R.vec hg;rw[e1]at q1;cases q1;have h1:=q2.length;have El:(ev ρ v).cells=[u].toArray:=by
    rw[Be];cases u<;>first|rfl|cases E9
   have lp:=gC (P:=P) (o:=0+(off+i)) hm El rfl (by omega) (by intro z hz;rw[ua.1 hz];exact E9) q3;simp only[ae,ho,e2];refine vF lp ⟨E,_,_,Ev.le.refl _,R.MW hg e1 (DC:=vs.take off++(vs.drop off).set i (.v u)) ?_,?_,hk⟩
   ·have e:vs.take off++(vs.drop off).set i (.v u)=vs.take (off+i)++([.v u]++vs.drop (off+i+1)):=by
     rw[Ov,fh (by rw[pd];omega),Dl,List.take_add,jd];rfl
    rw[e];unfold kx;rw[jd,nq];exact(q2.take _).append ((show iB E.F [.v u] [u]from(by simp only[iB,DR];exact⟨_,_,rfl,⟨rfl,E9⟩,rfl⟩)).append (q2.drop _))
   ·simp only[VR];exact⟨[],rfl,ib.nil⟩
 case convert st d x=>
  simp only[se,ho]at h;split at h<;>first|exact h.elim|skip
  ·rename_i b hx;obtain⟨hb,h⟩:=zM h;obtain⟨e,rl,hk⟩:=zN h;obtain⟨u1,u2⟩:=zYs rl;have hv:=he.ev x;rw[hx]at hv;simp only[VR,DR]at hv;simp only[ae,ho,hv.1];have jr:=Lib.run_convert_string_bytes (P:=P) w st d e b (rD hb) u1 u2;refine yG jr ?_;exact yAm R b e hk
  ·rename_i n hx;split at h<;>first|exact h.elim|skip
   rename_i T sz fa hg;obtain⟨hb,h⟩:=zM h;simp only[lr]at hb;have lp:=jg hb.1;have pg:=jg hb.2;obtain⟨e,rl,h2⟩:=zN h;obtain⟨hTb,xf,hk⟩:=zM h2;have hT:=jg hTb;subst lp pg hT;obtain⟨u1,u2⟩:=zYs rl;have hv:=he.ev x;rw[hx]at hv;simp only[VR]at hv;obtain⟨l0,e1,a0,m0,c0,e2⟩:=hv;obtain⟨a,c,xs,sub,q1,q2,q3,H⟩:=R.su hg;rw[q1]at e1;rcases H.oE with⟨_,h0,_⟩|⟨b,r,rfl,r1,r2,r3,H1⟩
   ·omega
   have jr:=yRs (P:=P) (w:=w) (b:=b) (l:=xs++r) (T:=T) (t:=st) H1.get u1 u2 fa.length c;have H2:=H1.yz (.cells (xs++r).toArray T ((xs++r).length,(xs++r).length+1));have H3:Hp k (World.ja w b (.cells (xs++r).toArray T ((xs++r).length,(xs++r).length+1))) (pt b (.cells (xs++r).toArray T ((xs++r).length,(xs++r).length+1))::fz E.F::((uC n s.rows).map (ic E)++L)):=H2.cons mo;obtain⟨y,hy,hd,jb,H4⟩:=z1p H3;have hle:E.le ⟨un y E.F,E.gj⟩:=⟨yAf hd,J1 _⟩
   have H5:=vH (λr x=>ic.mono hle r) (H4.perm (mo (l₁:=(uC n s.rows).map (ic E)) (l₂:=L) (a:=fz (un y E.F))).symm);have H6:Hp k (World.ja w b (.cells (xs++r).toArray T ((xs++r).length,(xs++r).length+1))) (ic ⟨un y E.F,E.gj⟩ (n,.kq 1 fa)::((uC n s.rows).map (ic ⟨un y E.F,E.gj⟩)++fz (un y E.F)::L)):=by
    have:=(@gV k _ True _).2 ⟨trivial,H5⟩;refine this.imp λz hz=> .inr ⟨_,q1,?_⟩
    simp only[fw];refine⟨hz.2,?_⟩;simp only[DR];refine⟨_,c,rfl,r3,q3,.inr ⟨b,0,xs++r,T,((xs++r).length,(xs++r).length+1),rfl,?_,oW.2 ⟨xs,r,rfl,q2.mono hle.1⟩⟩⟩;rw[show y=one b _ from hy];simp[un,one]
   have R2:Rel k L ⟨un y E.F,E.gj⟩ (s.set n (.kq 1 fa)) (World.ja w b (.cells (xs++r).toArray T ((xs++r).length,(xs++r).length+1))):=by
    refine⟨by simpa[St.set]using R.nx,H6.perm ?_⟩;have:=(((uI hg).2 (.kq 1 fa)).map (ic ⟨un y E.F,E.gj⟩)).append_right (fz (un y E.F)::L);simpa[St.set]using this.symm
   have e3:ev ρ x= .slice (av ⟨b,0,aw⟩) fa.length c:=(congrArg Prod.fst (co e1)).symm;simp only[ae,ho];rw[e3];exact yG jr ⟨_,_,_,hle,R2,by simp only[VR];exact⟨_,q1,_,_,_,rfl⟩,hk⟩
 case slice t x lo hi mx=>
  cases mx with
  |some m=>simp only[se,ho]at h
  |none=>
   obtain⟨y,hf,xy⟩:=z3e R he ho h;exact wU (hf w) xy
 case mapUpdate t x i v=>
  simp only[se,ho]at h;split at h<;>first|exact h.elim|skip
  rename_i n hx;obtain⟨ke,Cl,h⟩:=zN h;obtain⟨kv,IL,h⟩:=zN h;obtain⟨hb,h⟩:=zM h;simp only[lr]at hb;split at h<;>first|exact h.elim|skip
  rename_i ds s1 hd;split at h<;>first|exact h.elim|skip
  rename_i es hg;obtain⟨Cn,hk⟩:=h;obtain⟨E1,ys,q1,q2,q3,q4,q5,q6⟩:=NF R hd (he.ev v);have FP:=he.ev x;rw[hx]at FP;simp only[VR]at FP;obtain⟨bm,sub,e1,e2⟩:=FP;have e1:=q1.get e1;rw[e2]at e1;obtain⟨fy,ck,r1,r2,rb,r3⟩:=q3.Gw (DB:=gW kv ds es) hg e1;have hi:ev ρ i=kv:=lX IL (he.ev i);obtain⟨kd,hu,zc⟩:=Wi hb.1;have zg:=z5a hb.2 (he.ev v) q5;have run:∃iQ tf,MR E1.F (gW kv ds es) iQ/\uO iQ tf/\(Instr.mapUpdate t (.map (av bm)) kv (ev ρ v)).run P w= .ok () (World.ja w bm (.map iQ.toArray tf)):=by
   rcases NK zc 0 r1 Cn with⟨t1,t2,t3,t4,_⟩|⟨q,m,DC,Ea,t1,t2,t3,t4,t5,t6,t7,t8,_⟩
   ·refine⟨fy++[{key:=kv,val:=ev ρ v,born:=ck}],ck+1,by rw[t3];exact YC q6 (e:={key:=kv,val:=ev ρ v,born:=ck}) rfl zg r1,zYn rb rfl,?_⟩;simp only[Instr.mapUpdate,bind,run_bind,Cv.run_underlying (gG Cl),qX r2 trivial,pure,cu,wI hu zc,vP hu t1];rw[uZ r2 trivial];simp
   ·refine⟨fy.set q {m with key:=kv,val:=ev ρ v},ck,t7 _ _ _ q6 rfl zg,Y2 rb t2 rfl,?_⟩;have hq:(fy.toArray[0+q]?).map (·.key)=av kv:=by simp[t2,t3]
    simp only[Instr.mapUpdate,bind,run_bind,Cv.run_underlying (gG Cl),qX r2 trivial,pure,cu,wI hu zc,vP hu t1,hq,zt,Instr.keyThatStays,zHy zc,if_true];rw[uZ r2 trivial];congr 4;rw[List.modify_toArray];congr 1;rw[nq,List.modify_eq_set,t2];rfl
  obtain⟨iQ,tf,u1,ub,u2⟩:=run;simp only[ae,ho,e2,hi];exact vF u2 ⟨E1,.je [],_,q1,r3 iQ tf u1 ub,by simp only[VR];exact⟨[],rfl,ib.nil⟩,hk⟩
 case mapEntry t x i=>
  simp only[se,ho]at h;split at h<;>first|exact h.elim|skip
  rename_i n hx;obtain⟨ke,Cl,h⟩:=zN h;obtain⟨kv,IL,h⟩:=zN h;obtain⟨Sm,h⟩:=zM h;obtain⟨z,hz,h⟩:=zN h;split at h<;>first|exact h.elim|skip
  rename_i es hg;obtain⟨Cn,b,h⟩:=h;obtain⟨ds,h⟩:=pM h;obtain⟨Sk,h⟩:=h;obtain⟨v,hm,hk⟩:=zN h;have FP:=he.ev x;rw[hx]at FP;simp only[VR]at FP;obtain⟨bm,sub,e1,e2⟩:=FP;rw[e2]at e1;obtain⟨fy,ck,r1,r2,rb,r3⟩:=R.Jf (DB:=gW kv ds es) (kv:=kv) hg e1;have hi:ev ρ i=kv:=lX IL (he.ev i);obtain⟨kd,hu,zc⟩:=Wi Sm;have run:∃iQ tf y born,MR E.F (gW kv ds es) iQ/\uO iQ tf/\UR iQ kv born/\VR E v y/\(Instr.mapEntry t (.map (av bm)) kv).run P w= .ok (.tuple #[y,.int .i64 born]) (World.ja w bm (.map iQ.toArray tf)):=by
   rcases NK zc 0 r1 Cn with⟨t1,t2,t3,t4,t5⟩|⟨q,m,DC,Ea,t1,t2,t3,t4,t5,t6,t7,t8,t9⟩
   ·rcases Sk with⟨l1,l2⟩|⟨l1,l2,l3⟩
    ·rw[t2]at l1;cases l1
    ·subst l2 l3;obtain⟨zv,ys,z1,z2,z3⟩:=yKh (F:=E.F) hz hm;refine⟨fy++[{key:=kv,val:=zv,born:=ck}],ck+1,zv,ck,by rw[t3];exact YC z2 (e:={key:=kv,val:=zv,born:=ck}) rfl z3 r1,zYn rb rfl,⟨kd,zc,fy.length,_,by have:=t5 {key:=kv,val:=zv,born:=ck} rfl;rwa [nq]at this,by simp,rfl⟩,by rw[z3];exact z0p hm z2,?_⟩;simp only[Instr.mapEntry,bind,run_bind,Cv.run_underlying (gG Cl),qX r2 trivial,pure,cu,wI hu zc,vP hu t1,me (bT z1)];rw[uZ r2 trivial];simp[goInt]
   ·rcases Sk with⟨l1,l2⟩|⟨l1,l2,l3⟩
    ·rw[t4]at l1;cases l1;refine⟨fy.set q {m with key:=kv},ck,m.val,m.born,t7 _ _ _ t5 rfl t6,Y2 rb t2 rfl,⟨kd,zc,q,{m with key:=kv},by have:=t9 {m with key:=kv} rfl;rwa [nq]at this,by
      rw[List.getElem?_set_self (jm.1 t2).1],rfl⟩,by rw[t6];exact z0p hm t5,?_⟩
     have hq:(fy.toArray[0+q]?).map (·.key)=av kv:=by simp[t2,t3]
     have Sa:((fy.toArray[0+q]?).map λx=>((x.born:Nat):Int))=av (m.born:Int):=by simp[t2]
     simp only[Instr.mapEntry,bind,run_bind,Cv.run_underlying (gG Cl),qX r2 trivial,pure,cu,wI hu zc,vP hu t1,hq,Sa,zt,Instr.keyThatStays,zHy zc,if_true];rw[uZ r2 trivial];simp only[goInt,Sa,zt];congr 3;rw[List.modify_toArray];congr 1;rw[nq,List.modify_eq_set,t2];rfl
    ·rw[t4]at l1;cases l1
  obtain⟨iQ,tf,y,born,u1,ub,us,uy,u2⟩:=run;simp only[ae,ho,e2,hi];exact yG u2 ⟨E,.je [v,.d (.v (.int .i64 born))],_,Ev.le.refl _,r3 iQ tf born u1 ub us,by simp only[VR,ib,DR];exact⟨_,rfl,_,_,rfl,uy,_,_,rfl,⟨rfl,rfl⟩,rfl⟩,hk born⟩
 case entryStore t x st v=>
  simp only[se,ho]at h;split at h<;>first|exact h.elim|skip
  rename_i n hx;split at h<;>first|exact h.elim|skip
  rename_i ik b lp;obtain⟨ke,Cl,h⟩:=zN h;obtain⟨hb,h⟩:=zM h;split at h<;>first|exact h.elim|skip
  rename_i ds s1 hd;split at h<;>first|exact h.elim|skip
  rename_i es kv b' hg;obtain⟨rfl,Cn,hk⟩:=h;obtain⟨E1,ys,q1,q2,q3,q4,q5,q6⟩:=NF R hd (he.ev v);have FP:=he.ev x;rw[hx]at FP;simp only[VR]at FP;obtain⟨bm,sub,e1,e2⟩:=FP;have e1:=q1.get e1;rw[e2]at e1;have hsv:=he.ev st;rw[lp]at hsv;simp only[VR,DR]at hsv;obtain⟨fy,ck,r1,r2,rb,⟨kd,zc,q,m,u1,u2,u3⟩,r3⟩:=q3.Je (DB:=gW kv ds es) hg e1;have zg:=z5a hb (he.ev v) q5;rcases NK zc 0 r1 Cn with⟨t1,t2,t3,t4,t5⟩|⟨q',m',DC,Ea,t1,t2,t3,t4,t5,t6,t7,t8,t9⟩
  ·rw[t1]at u1;cases u1
  ·rw[t1]at u1;simp only[cm,Prod.mk.injEq,nq]at u1;obtain⟨rfl,_⟩:=u1;rw[t2]at u2;cases u2;have FY:=yKi rb.1 t2;have run:(Instr.entryStore t (.map (av bm)) (ev ρ st) (ev ρ v)).run P w= .ok () (World.ja w bm (.map (fy.set q' {m with val:=ev ρ v}).toArray ck)):=by
    rw[hsv.1,<- u3];have hfa:fy.toArray.findIdx? (λe=>((e.born:Nat):Int)==((m.born:Nat):Int))=av q':=i9 FY
    simp only[Instr.entryStore,bind,run_bind,qX r2 trivial,pure,cu,asInt,asIntOf,hfa];rw[uZ r2 trivial];congr 2;rw[List.modify_toArray];congr 1;rw[List.modify_eq_set,t2];rfl
   simp only[ae,ho,e2];exact vF run ⟨E1,.je [],_,q1,r3 _ ck (t7 _ _ _ q6 t3 zg) (Y2 rb t2 rfl),by simp only[VR];exact⟨[],rfl,ib.nil⟩,hk⟩
 case range t x=>
  simp only[se,ho]at h;split at h<;>first|exact h.elim|skip
  rename_i b hx;obtain⟨hs,hk⟩:=zM h;have hv:=he.ev x;rw[hx]at hv;simp only[VR,DR]at hv;simp only[ae,ho,hv.1];refine yG (v:= .pointer (av ⟨w.heap.size,0,aw⟩)) (w':=w.alloc (.stringIter b 0)) ?_ ?_
  ·simp only[Instr.range,bind,pure,run_bind,cw,Cv.run_underlying (rD hs)];rfl
  ·refine VO (hd:=(.pointer (av ⟨w.heap.size,0,aw⟩),[])) R ?_ (λhg=> ?_) hk
   ·simp only[fw];exact⟨_,rfl,rfl⟩
   ·simp only[VR];exact⟨_,0,_,hg,rfl⟩
 case next x isS=>
  cases isS with
  |false=>simp only[se,ho]at h
  |true=>
   simp only[se,ho]at h;split at h<;>first|exact h.elim|skip
   rename_i n hx;split at h<;>first|exact h.elim|skip
   rename_i b pos hg;have hv:=he.ev x;rw[hx]at hv;simp only[VR]at hv;obtain⟨bb,oo,sub,e1,e2⟩:=hv;obtain⟨hd,hh,e3,e4,_⟩:=R.row hg (by simp);rw[e1]at e3;cases e3;simp only[fw]at e4;obtain⟨b2,e4,_⟩:=e4;cases e4;have hS:=λpos'=>R.setIter (pos':=pos') hg e1
   have km:=(hS 0).1;simp only[ae,ho,e2];rcases yEf h with⟨hb,hk⟩|⟨hb,hk⟩
   ·have gu:pos<b.size:=by simpa[yk]using hb
    refine yG (v:= .tuple #[.bool bz,.int .i64 (pos:Nat),.int .i32 (Utf8.decode b pos).1]) (w':=World.ja w bb (.stringIter b (pos+(Utf8.decode b pos).2))) ?_
     ⟨E,_,_,Ev.le.refl _,(hS _).2,?_,hk⟩
    ·simp only[Instr.next,bind,pure,run_bind,cw,cu,qX km trivial,fh gu,uZ km trivial];rfl
    ·simp only[VR,ib,DR];exact⟨_,rfl,_,_,rfl,⟨rfl,rfl⟩,_,_,rfl,⟨rfl,rfl⟩,_,_,rfl,⟨rfl,rfl⟩,rfl⟩
   ·have gu:¬pos<b.size:=by
     intro h';have:ay pos b.size=bz:=by rw[yk];exact h'
     rw[this]at hb;cases hb
    refine yG (v:= .tuple #[.bool cd]) (w':=w) ?_ ⟨E,_,_,Ev.le.refl _,R,?_,hk⟩
    ·simp only[Instr.next,bind,pure,run_bind,cw,cu,qX km trivial,ez gu]
    ·simp only[VR,ib,DR];exact⟨_,rfl,_,_,rfl,⟨rfl,rfl⟩,rfl⟩
 case call c=>
  simp only[se,ho]at h;split at h<;>first|exact h.elim|skip
  ·rename_i x hc;split at h<;>first|exact h.elim|skip
   rename_i f a b hx;have hv:=he.ev x;rw[hx]at hv;simp only[VR]at hv;obtain⟨as,bs,e1,e2,e3⟩:=hv;obtain⟨ys,e4,e5⟩:=mD he c.args;have jr:(ae (ev ρ) o)=aj f (as++(ys++bs)).toArray:=by
    have tj:ae (ev ρ) o=(resolve (ev ρ) c o.type).bind λd=>invoke d.target d.args:=by
     simp only[ae,ho];rfl
    rw[tj];unfold resolve;rw[hc];simp only[e1,Deferred.ofValue,pure,cw,invoke,e4];congr 1;apply ct;simp
   rw[jr];exact z6w hH R h (e2.append (e5.append e3))
  ·rename_i hc;split at h<;>first|exact h.elim|skip
   rename_i t1 t2 hts;split at h<;>first|exact h.elim|skip
   rename_i x y oa;obtain⟨ys,e1,e2⟩:=mD he c.args;rw[oa]at e2;simp only[ib]at e2;obtain⟨xr,_,rfl,hx,yr,_,rfl,hy,rfl⟩:=e2;have ht:c.argTypes= #[t1,t2]:=by apply ct;simpa using hts
   rw[wJ ho hc,e1,ht];cases Kg:yPx s y with
   |false=>
    rw[Kg]at h;obtain⟨v,w',hr,xy⟩:=zVp (rt:=o.type) R hx hy h;exact yG hr xy
   |true=>
    rw[Kg]at h;obtain⟨v,w',hr,xy⟩:=zTb (rt:=o.type) R hx hy h;exact yG hr xy
  ·rename_i hc;split at h<;>first|exact h.elim|skip
   rename_i n y oa;obtain⟨t,ht,h⟩:=zN h;obtain⟨ke,Cl,h⟩:=zN h;obtain⟨kv,IL,h⟩:=zN h;obtain⟨Sm,h⟩:=zM h;split at h<;>first|exact h.elim|skip
   rename_i es hg;obtain⟨Cn,hk⟩:=h;obtain⟨ys,e1,e2⟩:=mD he c.args;rw[oa]at e2;simp only[ib,VR]at e2;obtain⟨mv,_,rfl,⟨bm,sub,e3,rfl⟩,yv,_,rfl,hy,rfl⟩:=e2;obtain rfl:=lX IL hy;obtain⟨fy,ck,r1,r2,rb,r3⟩:=R.Gw (DB:=CE yv es) hg e3;obtain⟨kd,hu,zc⟩:=Wi Sm;have run:∃iQ tf,MR E.F (CE yv es) iQ/\uO iQ tf/\(Builtin.delete_ c.argTypes o.type #[.map (av bm),yv]).run P w= .ok (.tuple #[]) (World.ja w bm (.map iQ.toArray tf)):=by
    rcases NK zc 0 r1 Cn with⟨t1,t2,t3,t4,_⟩|⟨q,m,DC,Ea,t1,t2,t3,t4,t5,t6,t7,t8,_⟩
    ·refine⟨fy,ck,by rw[t4];exact r1,rb,?_⟩;simp only[Builtin.delete_,ht,Bc,CG,Bd,bind,run_bind,Cv.run_underlying (gG Cl),qX r2 trivial,pure,cu,wI hu zc,vP hu t1];rw[uZ r2 trivial]
    ·refine⟨fy.eraseIdx q,ck,t8,yAi rb,?_⟩;simp only[Builtin.delete_,ht,Bc,CG,Bd,bind,run_bind,Cv.run_underlying (gG Cl),qX r2 trivial,pure,cu,wI hu zc,vP hu t1];rw[uZ r2 trivial];simp
   obtain⟨iQ,tf,u1,ub,u2⟩:=run;rw[wJ ho hc,e1];exact yG u2 ⟨E,.je [],_,Ev.le.refl _,r3 iQ tf u1 ub,by simp only[VR];exact⟨[],rfl,ib.nil⟩,hk⟩
 all_goals(simp only[se,ho]at h)
def zKd {n c:Nat} {x:fq} (h:ax n c=cd):∀{l:List (Nat×fq)},sY n (rL c x l)=sY n l
 |[]=>rfl
 |(m,o)::l=>by
  simp only[rL];cases hb:ax m c
  ·simp only[cond_false,sY];cases hm:ax m n
   ·simp only[cond_false];exact zKd h
   ·rfl
  ·have:=jg hb;subst this;have h':ax m n=cd:=by
    cases hm:ax m n
    ·rfl
    ·have:=jg hm;subst this;rw[Nat.beq_refl]at h;cases h
   simp only[cond_true,sY,h',cond_false]
def mB {n:Nat} {x:fq}:∀{l:List (Nat×fq)},sY n l≠aw->sY n (rL n x l)=av x
 |[],h=>absurd rfl h
 |(m,o)::l,h=>by
  simp only[sY,rL]at h ⊢;cases hb:ax m n
  ·rw[hb]at h;simp only[sY,hb,cond_false]at h ⊢;exact mB h
  ·simp only[sY,hb,cond_true]
def zYy {n:Nat} {x y:fq}:∀{l:List (Nat×fq)},rL n y (rL n x l)=rL n y l
 |[]=>rfl
 |(m,o)::l=>by
  simp only[rL];cases hb:ax m n
  ·simp only[cond_false,rL,hb];rw[zYy]
  ·simp only[cond_true,rL,hb]
def y0c {l:List ab} {o:Nat} {y:ab} (h:o<l.length):kx l o [y]=l.set o y:=by
 unfold kx;rw[Ov,fh h];simp
def Rel.Hi {k:Ko} {L:List HP} {w:ac} {E:Ev} {s:St} (R:Rel k L E s w) {q:Bool} {n c T sz i f t2 vj:Nat} {fa lv:Q_ D} (hg:s.get n=av (.uf q T sz fa i f bz (av c))) (hc:s.get c=av (.own t2 vj lv)) (jy:ax n c=cd) (hi:i<fa.length) (hf:f<sz) {y:ab} (hv:VR E (.own n) y):
 ∃E',E.le E'/\E'.gj=E.gj/\Rel k L E' ((s.set c (.kq vj lv)).set n (.kq sz (zK fa i f [.ro vj lv]))) w/\DR E'.F (.ro sz (zK fa i f [.ro vj lv])) y:=by
 obtain⟨E1,q1,q2,R1⟩:=R.freeze hc;have g1:(s.set c (.kq vj lv)).get n=av (.uf q T sz fa i f bz (av c)):=by
  simp only[St.get,St.set]at hg ⊢;rw[zKd jy,hg]
 have g2:(s.set c (.kq vj lv)).get c=av (.kq vj lv):=by
  simp only[St.get,St.set]at hc ⊢;exact mB (by rw[hc];simp)
 obtain⟨hdc,xc,c1,c2,_⟩:=R1.row g2 (by simp);simp only[fw]at c2;have R2:Rel k L E1 ((s.set c (.kq vj lv)).set n (.own T sz (zK fa i f [.ro vj lv]))) w:=by
  refine R1.oe g1 ((R1.focus g1).imp λx hx=> ?_);rcases hx with⟨e,_⟩|⟨hd,h1,h2⟩
  ·cases e
  refine .inr ⟨hd,h1,?_⟩;simp only[fw]at h2 ⊢;obtain⟨a,kk,ys,xs,e1,e2,e3,⟨z,l,e4,e5,e6⟩,e7⟩:=h2;rw[c1]at e4;cases e4;obtain⟨f1,f2⟩:=nO i f [.ro vj lv] e3 hi (by simp only[iF,tz];omega);have hlen:(zK fa i f [.ro vj lv]).length=fa.length:=by simp[zK]
  have Dv:ys.length=fa.length*sz:=by rw[e2.length,wE e3]
  have wu:i*sz+sz<=fa.length*sz:=by
   have:=xj sz (show i+1<=fa.length by omega);rwa [zr]at this
  refine⟨a,kk,xs,by rw[hlen];exact e1,?_,f2,by rw[hlen];exact e7⟩;rw[f1,e6,cond_true,<- y0c (by omega)];exact PL e2 (by simp only[iB];exact⟨_,_,rfl,c2.2,rfl⟩) _
 have g3:((s.set c (.kq vj lv)).set n (.own T sz (zK fa i f [.ro vj lv]))).get n=av (.own T sz (zK fa i f [.ro vj lv])):=by
  simp only[St.get,St.set]at g1 ⊢;exact mB (by rw[g1];simp)
 obtain⟨E2,r1,r2,R3⟩:=R2.freeze g3;have e:((s.set c (.kq vj lv)).set n (.own T sz (zK fa i f [.ro vj lv]))).set n (.kq sz (zK fa i f [.ro vj lv]))=(s.set c (.kq vj lv)).set n (.kq sz (zK fa i f [.ro vj lv])):=by
  simp only[St.set,zYy]
 rw[e]at R3;have g4:((s.set c (.kq vj lv)).set n (.kq sz (zK fa i f [.ro vj lv]))).get n=av (.kq sz (zK fa i f [.ro vj lv])):=by
  simp only[St.get,St.set]at g1 ⊢;exact mB (by rw[g1];simp)
 obtain⟨hdn,xn,n1,n2,_⟩:=R3.row g4 (by simp);simp only[fw]at n2;simp only[VR]at hv;obtain⟨l,v1,_⟩:=hv;rw[r2,q2,v1]at n1;cases n1;exact⟨E2,q1.trans r1,r2.trans q2,R3,n2.2⟩
@[reducible] def NM:=List (Nat×Nat)
def yD (p:Nat):NM->Option Nat
 |[]=>aw
 |(q,n)::l=>bif ax q p then av n else yD p l
def XS:ab->ab->Prop
 | .int k a,.int k' b=>bif xd k k' then a=b else False
 | .bool a,.bool b=>a=b
 | .string a,.string b=>a=b
 | .pointer aw,.pointer aw=>True
 | .slice aw 0 0,.slice aw 0 0=>True
 | .map aw,.map aw=>True
 | .nilFunc,.nilFunc=>True
 | .nilIface,.nilIface=>True
 |_,_=>False
def yQc {x y:ab} (h:XS x y):x=y:=by
 unfold XS at h;split at h<;>first|exact h.elim|rfl|(subst h;rfl)|skip
 obtain⟨hk,rfl⟩:=zM h;rw[zWl hk]
def dEq:D->D->Prop
 | .v x,.v y=>XS x y
 | .ro sz fa,.ro oB ln=>bif ax sz oB then fa=ln else False
 | .ro _ fa,.v (.slice aw 0 0)=>fa=[]
 |_,_=>False
def y9i {F:PH} {p q:D} {y:ab} (h:dEq p q) (hq:DR F q y):DR F p y:=by
 unfold dEq at h;split at h<;>first|exact h.elim|skip
 ·rw[yQc h];exact hq
 ·obtain⟨hb,rfl⟩:=zM h;rw[jg hb];exact hq
 ·subst h;simp only[DR]at hq ⊢;exact⟨aw,0,hq.1,ju _,by simp,.inl trivial⟩
def Lj (p n:Nat) (π:NM) (K:NM->Prop):Prop:=
 match yD p π with
 |some m=>bif ax m n then K π else False
 |none=>K ((p,n)::π)
mutual
def Cj:V->V->NM->St->(NM->St->Prop)->Prop
 | .top,_,π,s,K=>K π s
 | .d p,a,π,s,K=>match a with
   | .d q=>dEq p q/\K π s
   | .own n=>match p with
     | .ro sz fa=>match s.get n with
       |some (.own _ oB ln)=>bif ax sz oB then fa=ln/\K π (s.set n (.kq oB ln))else False
       |some (.kq oB ln)=>bif ax sz oB then fa=ln/\K π s else False
       |some (.uf bz T oB ln i f b (av c))=>match s.get c with
        |some (.own _ vj lv)=>bif ax sz oB && !(ax n c)then(b=bz/\i<ln.length/\f<sz/\fa=zK ln i f [.ro vj lv])/\K π ((s.set c (.kq vj lv)).set n (.kq oB fa))else False
        |_=>False
       |_=>False
     |_=>False
   |_=>False
 | .nm p o,a,π,s,K=>match a with
   | .nm n o'=>bif ax o o' then Lj p n π λπ=>K π s else False
   |_=>False
 | .el p sz i f,a,π,s,K=>match a with
   | .el n oB i' f'=>bif ax sz oB && ax f f' then i=i'/\Lj p n π λπ=>K π s else False
   |_=>False
 | .own p,a,π,s,K=>match a with
   | .own n=>Lj p n π λπ=>K π s
   | .d (.v (.slice aw 0 0))=>match yD p π with
     |none=>K ((p,s.nx)::π) (s.new .AJ)
     |some _=>False
   |_=>False
 | .mp p,a,π,s,K=>match a with
   | .mp n=>Lj p n π λπ=>K π s
   |_=>False
 | .agg l,a,π,s,K=>match a with
   | .agg l'=>Ei l l' π s K
   |_=>False
 | .je l,a,π,s,K=>match a with
   | .je l'=>Ei l l' π s K
   |_=>False
 | .fn f x y,a,π,s,K=>match a with
   | .fn f' x' y'=>bif ax f f' then Ei x x' π s λπ s=>Ei y y' π s K else False
   |_=>False
 | .zy t x,a,π,s,K=>match a with
   | .zy t' x'=>bif ax t t' then Cj x x' π s K else False
   |_=>False
 |_,_,_,_,_=>False
def Ei:List V->List V->NM->St->(NM->St->Prop)->Prop
 |[],l,π,s,K=>match l with
  |[]=>K π s
  |_=>False
 |v::vs,l,π,s,K=>match l with
  |u::us=>Cj v u π s λπ s=>Ei vs us π s K
  |[]=>False
end
def Loc (π:NM) (gj tl:List Hd):Prop:=∀p n,yD p π=av n->∃hd,gj[n]?=av hd/\tl[p]?=av hd
def Ext (π π':NM):Prop:=∀p n,yD p π=av n->yD p π'=av n
def AE (π:NM) (gj:List Hd):Prop:=∀p n,yD p π=av n->∃hd,gj[n]?=av hd
def Ext.refl (π:NM):Ext π π:=λ_ _ h=>h
def Ext.trans {a b c:NM} (h:Ext a b) (h':Ext b c):Ext a c:=λp n e=>h' p n (h p n e)
def AE.mono {π:NM} {E E':Ev} (h:AE π E.gj) (hle:E.le E'):AE π E'.gj:=λp n e=>let⟨hd,q⟩:=h p n e;⟨hd,hle.get q⟩
def PV (E:Ev) (π:NM) (v:V) (y:ab):Prop:=∀E2 π2,E.le E2->Ext π π2->∀tl,Loc π2 E2.gj tl->VR ⟨E2.F,tl⟩ v y
def Yv (E:Ev) (π:NM) (v:List V) (y:List ab):Prop:=∀E2 π2,E.le E2->Ext π π2->∀tl,Loc π2 E2.gj tl->ib ⟨E2.F,tl⟩ v y
def PV.mono {E E':Ev} {π π':NM} {v:V} {y:ab} (h:PV E π v y) (hle:E.le E') (hx:Ext π π'):PV E' π' v y:=λE2 π2 a b tl c=>h E2 π2 (hle.trans a) (hx.trans b) tl c
def Yv.mono {E E':Ev} {π π':NM} {v:List V} {y:List ab} (h:Yv E π v y) (hle:E.le E') (hx:Ext π π'):Yv E' π' v y:=λE2 π2 a b tl c=>h E2 π2 (hle.trans a) (hx.trans b) tl c
def sF {p n:Nat} {π:NM} {gj:List Hd} {K:NM->Prop} (h:Lj p n π K) (hw:AE π gj) {hd:Hd} (hn:gj[n]? =av hd):∃π',Ext π π'/\AE π' gj/\yD p π'=av n/\K π':=by
 unfold Lj at h;split at h
 ·rename_i m hm;obtain⟨hb,hk⟩:=zM h;have:=jg hb;subst this;exact⟨π,Ext.refl _,hw,hm,hk⟩
 ·rename_i hm;refine⟨_,λq m e=> ?_,λq m e=> ?_,by simp[yD],h⟩
  ·simp only[yD];cases hb:ax p q
   ·exact e
   ·have:=jg hb;subst this;rw[hm]at e;cases e
  ·simp only[yD]at e;cases hb:ax p q
   ·rw[hb]at e;exact hw q m e
   ·rw[hb]at e;cases e;exact⟨hd,hn⟩
variable {k:Ko} {L:List HP} {w:ac}
structure xi (k:Ko) (L:List HP) (w:ac) (E:Ev) (π:NM) (E':Ev) (π':NM) (s':St):Prop where
 le:E.le E'
 ext:Ext π π'
 wf:AE π' E'.gj
 rel:Rel k L E' s' w
def xi.trans {E E1 E2:Ev} {π π1 π2:NM} {s1 s2:St} {L1 L2:List HP} (a:xi k L1 w E π E1 π1 s1) (b:xi k L2 w E1 π1 E2 π2 s2):xi k L2 w E π E2 π2 s2:=⟨a.le.trans b.le,a.ext.trans b.ext,b.wf,b.rel⟩
def Rel.GC {E:Ev} {s:St} (R:Rel k L E s w):∃E',E.le E'/\Rel k L E' (s.new .AJ) w/\E'.gj[s.nx]? =av (.slice aw 0 0,[]):=by
 have hle:E.le ⟨E.F,E.gj++[(.slice aw 0 0,[])]⟩:=Ev.le.app _;have km:(E.gj++[((.slice aw 0 0,[]):Hd)])[s.nx]? =av (.slice aw 0 0,[]):=by rw[<- R.nx];simp
 refine⟨_,hle,⟨by simp[St.new,R.nx],?_⟩,km⟩;have H2:=vH (λr x=>ic.mono hle r) R.hp;have:=(@gV k w True _).2 ⟨trivial,H2⟩;exact this.imp λx hx=> .inr ⟨_,km,by simp only[fw];exact⟨hx.2,trivial,trivial⟩⟩
mutual
theorem yAg:∀{v a:V} {π:NM} {s:St} {K:NM->St->Prop} {E:Ev} {y:ab},Cj v a π s K->Rel k L E s w->AE π E.gj->VR E a y->∃E' π' s',xi k L w E π E' π' s'/\PV E' π' v y/\K π' s'
 | .top,a,π,s,K,E,y,h,R,hw,hv=>by
   simp only[Cj]at h;exact⟨E,π,s,⟨Ev.le.refl _,Ext.refl _,hw,R⟩,λ_ _ _ _ _ _=>by simp only[VR],h⟩
 | .d p,a,π,s,K,E,y,h,R,hw,hv=>by
   simp only[Cj]at h;split at h<;>first|exact h.elim|skip
   ·rename_i q;obtain⟨h1,h⟩:=h;simp only[VR]at hv;exact⟨E,π,s,⟨Ev.le.refl _,Ext.refl _,hw,R⟩,λE2 _ a _ _ _=>by simp only[VR];exact(y9i h1 hv).mono a.1,h⟩
   ·rename_i n;split at h<;>first|exact h.elim|skip
    rename_i sz fa;split at h<;>first|exact h.elim|skip
    ·rename_i t oB ln hg;obtain⟨hb,rfl,hk⟩:=zM h;have e:=jg hb;subst e;obtain⟨E',q1,q2,q3,q4,q5⟩:=Ps R (v:= .own n) (d:= .ro sz fa) (s':=s.set n (.kq sz fa)) (by simp only[LN,hg]) hv;exact⟨E',π,_,⟨q1,Ext.refl _,by rw[q2];exact hw,q3⟩,λE2 _ a _ _ _=>by simp only[VR];exact q5.mono a.1,hk⟩
    ·rename_i oB ln hg;obtain⟨hb,rfl,hk⟩:=zM h;have e:=jg hb;subst e;obtain⟨E',q1,q2,q3,q4,q5⟩:=Ps R (v:= .own n) (d:= .ro sz fa) (s':=s) (by simp only[LN,hg]) hv;exact⟨E',π,_,⟨q1,Ext.refl _,by rw[q2];exact hw,q3⟩,λE2 _ a _ _ _=>by simp only[VR];exact q5.mono a.1,hk⟩
    ·rename_i T oB ln i f b c hg;split at h<;>first|exact h.elim|skip
     rename_i t2 vj lv Az;obtain⟨hb,⟨rfl,hi,hf,rfl⟩,hk⟩:=zM h;simp only[lr,Dp]at hb;have e:=jg hb.1;subst e;obtain⟨E',q1,q2,q3,q4⟩:=R.Hi hg Az hb.2 hi hf hv;exact⟨E',π,_,⟨q1,Ext.refl _,by rw[q2];exact hw,q3⟩,λE2 _ a _ _ _=>by simp only[VR];exact q4.mono a.1,hk⟩
 | .nm p o,a,π,s,K,E,y,h,R,hw,hv=>by
   simp only[Cj]at h;split at h<;>first|exact h.elim|skip
   rename_i n o';obtain⟨hb,hk⟩:=zM h;have e:=jg hb;subst e;simp only[VR]at hv;obtain⟨b,oo,l,h1,rfl⟩:=hv;obtain⟨π',q1,q2,q3,q4⟩:=sF hk hw h1;refine⟨E,π',s,⟨Ev.le.refl _,q1,q2,R⟩,λE2 π2 a b' tl hl=> ?_,q4⟩;simp only[VR];obtain⟨hd,e1,e2⟩:=hl p n (b' p n q3);rw[a.get h1]at e1;cases e1;exact⟨b,oo,l,e2,rfl⟩
 | .el p sz i f,a,π,s,K,E,y,h,R,hw,hv=>by
   simp only[Cj]at h;split at h<;>first|exact h.elim|skip
   rename_i n oB i' f';obtain⟨hb,rfl,hk⟩:=zM h;simp only[lr]at hb;have e:=jg hb.1;subst e;have e:=jg hb.2;subst e;simp only[VR]at hv;obtain⟨b,oo,m,c,l,h1,rfl⟩:=hv;obtain⟨π',q1,q2,q3,q4⟩:=sF hk hw h1;refine⟨E,π',s,⟨Ev.le.refl _,q1,q2,R⟩,λE2 π2 a b' tl hl=> ?_,q4⟩;simp only[VR];obtain⟨hd,e1,e2⟩:=hl p n (b' p n q3);rw[a.get h1]at e1;cases e1;exact⟨b,oo,m,c,l,e2,rfl⟩
 | .own p,a,π,s,K,E,y,h,R,hw,hv=>by
   simp only[Cj]at h;split at h<;>first|exact h.elim|skip
   ·rename_i n;simp only[VR]at hv;obtain⟨l,h1,h2⟩:=hv;obtain⟨π',q1,q2,q3,q4⟩:=sF h hw h1;refine⟨E,π',s,⟨Ev.le.refl _,q1,q2,R⟩,λE2 π2 a b' tl hl=> ?_,q4⟩;simp only[VR];obtain⟨hd,e1,e2⟩:=hl p n (b' p n q3);rw[a.get h1]at e1;cases e1;exact⟨l,e2,h2⟩
   ·split at h<;>first|exact h.elim|skip
    rename_i hm;obtain⟨E',q1,q2,q3⟩:=R.GC;simp only[VR,DR]at hv;obtain⟨rfl,_⟩:=hv;have zb:yD p ((p,s.nx)::π)=av s.nx:=by simp[yD]
    refine⟨E',_,_,⟨q1,λq m e=> ?_,λq m e=> ?_,q2⟩,λE2 π2 a b' tl hl=> ?_,h⟩
    ·simp only[yD];cases hb:ax p q
     ·exact e
     ·have:=jg hb;subst this;rw[hm]at e;cases e
    ·simp only[yD]at e;cases hb:ax p q
     ·rw[hb]at e;obtain⟨hd,h'⟩:=hw q m e;exact⟨hd,q1.get h'⟩
     ·rw[hb]at e;cases e;exact⟨_,q3⟩
    ·simp only[VR];obtain⟨hd,e1,e2⟩:=hl p _ (b' p _ zb);rw[a.get q3]at e1;cases e1;exact⟨[],e2,_,_,_,rfl⟩
 | .mp p,a,π,s,K,E,y,h,R,hw,hv=>by
   simp only[Cj]at h;split at h<;>first|exact h.elim|skip
   rename_i n;simp only[VR]at hv;obtain⟨b,l,h1,h2⟩:=hv;obtain⟨π',q1,q2,q3,q4⟩:=sF h hw h1;refine⟨E,π',s,⟨Ev.le.refl _,q1,q2,R⟩,λE2 π2 a b' tl hl=> ?_,q4⟩;simp only[VR];obtain⟨hd,e1,e2⟩:=hl p n (b' p n q3);rw[a.get h1]at e1;cases e1;exact⟨b,l,e2,h2⟩
 | .agg l,a,π,s,K,E,y,h,R,hw,hv=>by
   simp only[Cj]at h;split at h<;>first|exact h.elim|skip
   simp only[VR]at hv;obtain⟨ys,rfl,hv⟩:=hv;obtain⟨E',π',s',q1,q2,q3⟩:=JI h R hw hv;exact⟨E',π',s',q1,λE2 π2 a b tl c=>by simp only[VR];exact⟨ys,rfl,q2 E2 π2 a b tl c⟩,q3⟩
 | .je l,a,π,s,K,E,y,h,R,hw,hv=>by
   simp only[Cj]at h;split at h<;>first|exact h.elim|skip
   simp only[VR]at hv;obtain⟨ys,rfl,hv⟩:=hv;obtain⟨E',π',s',q1,q2,q3⟩:=JI h R hw hv;exact⟨E',π',s',q1,λE2 π2 a b tl c=>by simp only[VR];exact⟨ys,rfl,q2 E2 π2 a b tl c⟩,q3⟩
 | .fn f x z,a,π,s,K,E,y,h,R,hw,hv=>by
   simp only[Cj]at h;split at h<;>first|exact h.elim|skip
   rename_i f' x' z';obtain⟨hb,hk⟩:=zM h;have e:=jg hb;subst e;simp only[VR]at hv;obtain⟨as,bs,rfl,h1,h2⟩:=hv;obtain⟨E',π',s',q1,q2,q3⟩:=JI hk R hw h1;obtain⟨E2,π2,s2,r1,r2,r3⟩:=JI q3 q1.rel q1.wf (h2.mono q1.le);exact⟨E2,π2,s2,q1.trans r1,λE3 π3 a b tl c=>by simp only[VR];exact⟨as,bs,rfl,q2.mono r1.le r1.ext E3 π3 a b tl c,r2 E3 π3 a b tl c⟩,r3⟩
 | .zy t x,a,π,s,K,E,y,h,R,hw,hv=>by
   simp only[Cj]at h;split at h<;>first|exact h.elim|skip
   rename_i t' x';obtain⟨hb,hk⟩:=zM h;have e:=jg hb;subst e;simp only[VR]at hv;obtain⟨z,rfl,h1⟩:=hv;obtain⟨E',π',s',q1,q2,q3⟩:=yAg hk R hw h1;exact⟨E',π',s',q1,λE3 π3 a b tl c=>by simp only[VR];exact⟨z,rfl,q2 E3 π3 a b tl c⟩,q3⟩
 | .re sz fa i f,a,π,s,K,E,y,h,R,hw,hv=>by simp only[Cj]at h
 | .sub n i,a,π,s,K,E,y,h,R,hw,hv=>by simp only[Cj]at h
theorem JI:∀{v a:List V} {π:NM} {s:St} {K:NM->St->Prop} {E:Ev} {y:List ab},Ei v a π s K->Rel k L E s w->AE π E.gj->ib E a y->∃E' π' s',xi k L w E π E' π' s'/\Yv E' π' v y/\K π' s'
 |[],a,π,s,K,E,y,h,R,hw,hv=>by
  simp only[Ei]at h;split at h<;>first|exact h.elim|skip
  simp only[ib]at hv;exact⟨E,π,s,⟨Ev.le.refl _,Ext.refl _,hw,R⟩,λ_ _ _ _ _ _=>by simpa only[ib]using hv,h⟩
 |v::vs,a,π,s,K,E,y,h,R,hw,hv=>by
  simp only[Ei]at h;split at h<;>first|exact h.elim|skip
  simp only[ib]at hv;obtain⟨x,xs,rfl,h1,h2⟩:=hv;obtain⟨E',π',s',q1,q2,q3⟩:=yAg h R hw h1;obtain⟨E2,π2,s2,r1,r2,r3⟩:=JI q3 q1.rel q1.wf (h2.mono q1.le);exact⟨E2,π2,s2,q1.trans r1,λE3 π3 a b tl c=>by simp only[ib];exact⟨_,_,rfl,q2.mono r1.le r1.ext E3 π3 a b tl c,r2 E3 π3 a b tl c⟩,r3⟩
end
mutual
def A6 (π:NM):V->V
 | .top=> .top
 | .d d=> .d d
 | .nm n o=>match yD n π with
   |some m=> .nm m o
   |none=> .top
 | .el n sz i f=>match yD n π with
   |some m=> .el m sz i f
   |none=> .top
 | .re sz fa i f=> .re sz fa i f
 | .na _ _ _=> .top
 | .own n=>match yD n π with
   |some m=> .own m
   |none=> .top
 | .mp n=>match yD n π with
   |some m=> .mp m
   |none=> .top
 | .sub n i=>match yD n π with
   |some m=> .sub m i
   |none=> .top
 | .agg l=> .agg (Ir π l)
 | .je l=> .je (Ir π l)
 | .fn f a b=> .fn f (Ir π a) (Ir π b)
 | .zy t x=> .zy t (A6 π x)
def Ir (π:NM):List V->List V
 |[]=>[]
 |v::l=>A6 π v::Ir π l
end
def oN (π:NM):Option Nat->Option Nat
 |some m=>yD m π
 |none=>aw
def ER (π:NM):fq->fq
 | .cells vs t=> .cells (Ir π vs) t
 | .uf q t sz fa i f b m=> .uf q t sz fa i f b (oN π m)
 |o=>o
def PA (iz:Nat->fq) (π:NM) (nx:Nat):List Nat->List (Nat×fq)
 |[]=>[]
 |j::js=>(nx+j,ER π (iz (j+1)))::PA iz π nx js
def mY (n nx m:Nat):NM:=(0,n)::(ba (m-1)).map λj=>(j+1,nx+j)
def Ll (s:St) (n m:Nat) (iz:Nat->fq):fq×St:=
 (ER (mY n s.nx m) (iz 0),⟨PA iz (mY n s.nx m) s.nx (ba (m-1))++s.rows,s.nx+(m-1)⟩)
def St.C1 (s:St) (n:Nat):Option fq:=
 match s.get n with
 |some .gone=>aw
 |o=>o
def We {s:St} {n:Nat} {o:fq} (h:s.C1 n=av o):s.get n=av o/\o≠.gone:=by
 unfold St.C1 at h;split at h
 ·cases h
 ·rename_i jy;exact⟨h,λe=>jy (e▸h)⟩
def lW (m:Nat):NM->Bool
 |[]=>bz
 |(p,_)::l=>bif ay p m then lW m l else cd
def nF {m:Nat}:∀{π:NM},lW m π=bz->∀p n,yD p π=av n->p<m
 |[],h,p,n,e=>by cases e
 |(q,r)::l,h,p,n,e=>by
  simp only[lW]at h;cases hb:ay q m
  ·rw[hb]at h;cases h
  ·rw[hb]at h;simp only[yD]at e;cases hq:ax q p
   ·rw[hq]at e;exact nF h p n e
   ·have:=jg hq;subst this;simpa[yk]using hb
def P9 (f:Nat->NM->St->(NM->St->Prop)->Prop):List Nat->NM->St->(NM->St->Prop)->Prop
 |[],π,s,K=>K π s
 |j::js,π,s,K=>f j π s λπ s=>P9 f js π s K
def Bz:fq->Nat->fq->NM->St->(NM->St->Prop)->Prop
 | .gone,_,_,π,s,K=>K π s
 | .uf _ t sz fa i f b m,n,o,π,s,K=>match o with
   | .uf _ t' oB ln i' f' b' m'=>bif ax t t' && ax sz oB then(fa=ln/\i=i'/\f=f'/\b=b')/\(match m,m' with
     |some p,av c=>Lj p c π λπ=>K π s
     |_,_=>False)else False
   | .own t' oB ln=>bif ax t t' && ax sz oB then(fa=ln/\b=cd)/\(match m with
     |some p=>(match yD p π with
      |none=>K ((p,s.nx)::π) (s.new .AJ)
      |some _=>False)
     |none=>False)else False
   |_=>False
 | .cells vs t,n,o,π,s,K=>match o with
   | .cells Av t'=>bif ax t t' then Ei vs Av π s K else False
   | .rh T m iz x=>bif az 1 m then(match Ll s n m (iz x)with
     |(.cells Av t',s')=>bif ax t t' then Ei vs Av π s' K else False
     |_=>False)else False
   |_=>False
 | .own t sz fa,n,o,π,s,K=>match o with
   | .own t' oB ln=>bif ax t t' && ax sz oB then fa=ln/\K π s else False
   | .AJ=>fa=[]/\K π s
   |_=>False
 | .vec ds t,n,o,π,s,K=>match o with
   | .cells vs t'=>bif ax t t' then ds.map V.d=vs/\K π s else False
   |o=>fq.vec ds t=o/\K π s
 | .map es,n,o,π,s,K=>match o with
   | .map DB=>es=DB/\K π s
   |_=>False
 | .iter b p,n,o,π,s,K=>match o with
   | .iter b' p'=>b=b'/\p=p'/\K π s
   |_=>False
 | .rh T m iz x,n,o,π,s,K=>match o with
   | .cells vs t=>bif az 1 m then P9 (λj π s K=>match yD j π with
      |some n'=>match(match j with|0=>av (fq.cells vs t)|_=>s.C1 n')with
       |some o'=>Bz (iz x j) n' o' π (match j with|0=>s|_=>s.Ja n' o') K
       |none=>False
      |none=>False) (ba m) [(0,n)] s (λπ' s=>bif lW m π' then K π s else False)else False
   |o=>fq.rh T m iz x=o/\K π s
 | .kq sz fa,n,o,π,s,K=>match o with
   | .own t oB ln=>bif ax sz oB then fa=ln/\K π s else False
   |o=>fq.kq sz fa=o/\K π s
 | .kj t T m iz l hole,n,o,π,s,K=>match o with
   | .AJ=>l=[]/\hole=aw/\K π s
   |o=>fq.kj t T m iz l hole=o/\K π s
 |o',n,o,π,s,K=>o'=o/\K π s
def IE:Nat->List fq->NM->St->(NM->St->Prop)->Prop
 |_,[],π,s,K=>K π s
 |p,.gone::os,π,s,K=>IE (p+1) os π s K
 |p,o::os,π,s,K=>match yD p π with
  |some n=>match s.C1 n with
   |some o'=>Bz o n o' π (s.Ja n o') λπ s=>IE (p+1) os π s K
   |none=>False
  |none=>False
variable {k:Ko} {L:List HP} {w:ac}
def BT (E:Ev) (π:NM) (n:Nat) (o:fq):HP:=λh=>∀E2 π2,E.le E2->Ext π π2->∀tl,Loc π2 E2.gj tl->∃hd,E2.gj[n]? =av hd/\fw E2.F o tl hd h
def BT.mono {E E':Ev} {π π':NM} (hle:E.le E') (hx:Ext π π') {n:Nat} {o:fq} {h:PH} (e:BT E π n o h):BT E' π' n o h:=λE2 π2 a b tl c=>e E2 π2 (hle.trans a) (hx.trans b) tl c
def yFz:fq->Bool
 | .cells _ _=>bz
 | .uf _ _ _ _ _ _ _ _=>bz
 |_=>cd
def fw.gj {F:PH} {o:fq} (ho:yFz o=cd) {gj oF:List Hd} {hd:Hd} {h:PH} (e:fw F o gj hd h):fw F o oF hd h:=by
 cases o<;>first|(cases ho;done)|(simp only[fw]at e ⊢;exact e)
def fM {E:Ev} {π:NM} {n:Nat} {o:fq} (ho:yFz o=cd) (hg:o≠.gone) {h:PH} (e:ic E (n,o) h):BT E π n o h:=by
 rcases e with⟨e,_⟩|⟨hd,h1,h2⟩
 ·exact absurd e hg
 ·intro E2 π2 a b tl c;exact⟨hd,a.get h1,(h2.mono a.1 _ a.2).gj ho⟩
mutual
theorem VR.ve {π:NM} {F:PH} {tl gj:List Hd} (hr:∀p n hd,yD p π=av n->tl[p]? =av hd->gj[n]? =av hd):∀{v:V} {y:ab},VR ⟨F,tl⟩ v y->VR ⟨F,gj⟩ (A6 π v) y
 | .top,y,h=>by simp only[A6,VR]
 | .d d,y,h=>by simpa only[A6,VR]using h
 | .nm n o,y,h=>by
   simp only[A6];split
   ·rename_i m hm;simp only[VR]at h ⊢;obtain⟨b,oo,l,h1,h2⟩:=h;exact⟨b,oo,l,hr _ _ _ hm h1,h2⟩
   ·simp only[VR]
 | .el n sz i f,y,h=>by
   simp only[A6];split
   ·rename_i m hm;simp only[VR]at h ⊢;obtain⟨b,oo,mm,c,l,h1,h2⟩:=h;exact⟨b,oo,mm,c,l,hr _ _ _ hm h1,h2⟩
   ·simp only[VR]
 | .re sz fa i f,y,h=>by simpa only[A6,VR]using h
 | .na n o i,y,h=>by simp only[A6,VR]
 | .own n,y,h=>by
   simp only[A6];split
   ·rename_i m hm;simp only[VR]at h ⊢;obtain⟨l,h1,h2⟩:=h;exact⟨l,hr _ _ _ hm h1,h2⟩
   ·simp only[VR]
 | .mp n,y,h=>by
   simp only[A6];split
   ·rename_i m hm;simp only[VR]at h ⊢;obtain⟨b,l,h1,h2⟩:=h;exact⟨b,l,hr _ _ _ hm h1,h2⟩
   ·simp only[VR]
 | .sub n i,y,h=>by
   simp only[A6];split
   ·rename_i m hm;simp only[VR]at h ⊢;obtain⟨hd,l,b,oo,h1,h2⟩:=h;exact⟨hd,l,b,oo,hr _ _ _ hm h1,h2⟩
   ·simp only[VR]
 | .agg l,y,h=>by
   simp only[A6,VR]at h ⊢;obtain⟨ys,h1,h2⟩:=h;exact⟨ys,h1,ib.ve hr h2⟩
 | .je l,y,h=>by
   simp only[A6,VR]at h ⊢;obtain⟨ys,h1,h2⟩:=h;exact⟨ys,h1,ib.ve hr h2⟩
 | .fn f a b,y,h=>by
   simp only[A6,VR]at h ⊢;obtain⟨as,bs,h1,h2,h3⟩:=h;exact⟨as,bs,h1,ib.ve hr h2,ib.ve hr h3⟩
 | .zy t x,y,h=>by
   simp only[A6,VR]at h ⊢;obtain⟨z,h1,h2⟩:=h;exact⟨z,h1,VR.ve hr h2⟩
theorem ib.ve {π:NM} {F:PH} {tl gj:List Hd} (hr:∀p n hd,yD p π=av n->tl[p]? =av hd->gj[n]? =av hd):∀{vs:List V} {l:List ab},ib ⟨F,tl⟩ vs l->ib ⟨F,gj⟩ (Ir π vs) l
 |[],l,h=>by simpa only[Ir,ib]using h
 |v::vs,l,h=>by
  simp only[Ir,ib]at h ⊢;obtain⟨x,xs,h1,h2,h3⟩:=h;exact⟨x,xs,h1,VR.ve hr h2,ib.ve hr h3⟩
end
def fw.ve {π:NM} {F:PH} {tl gj:List Hd} (hr:∀p n hd,yD p π=av n->tl[p]? =av hd->gj[n]? =av hd) {o:fq} {hd:Hd} {h:PH} (e:fw F o tl hd h):fw F (ER π o) gj hd h:=by
 cases o<;>simp only[ER]<;>first|exact e.gj rfl|skip
 ·simp only[fw]at e ⊢;obtain⟨b,l,h1,h2,h3⟩:=e;exact⟨b,l,h1,h2.ve hr,h3⟩
 ·rename_i q t sz fa i f b m;simp only[fw]at e ⊢;obtain⟨a,k,ys,xs,h1,h2,h3,h4,h5⟩:=e;refine⟨a,k,ys,xs,h1,h2,h3,?_,h5⟩;cases m with
  |none=>exact h4
  |some m=>
   obtain⟨y,l,e1,e2,e3⟩:=h4;simp only[oN];cases hm:yD m π with
   |none=>exact⟨y,e2,e3⟩
   |some m'=>exact⟨y,l,hr _ _ _ hm e1,e2,e3⟩
def yMb {n nx m j:Nat} (hj:j+1<m):yD (j+1) (mY n nx m)=av (nx+j):=by
 unfold mY;simp only[yD,ax,cond_false];have:∀(a c:Nat),a<=j->j<a+c->yD (j+1) ((bo a c).map λj=>(j+1,nx+j))=av (nx+j):=by
  intro a c
  induction c generalizing a with
  |zero=>intro h1 h2;omega
  |succ c ih=>
   intro h1 h2;simp only[List.range'_succ,jf,yD];cases hb:ax (a+1) (j+1)
   ·have jy:a≠j:=λe=>by subst e;simp at hb
    exact ih (a+1) (by omega) (by omega)
   ·have:=jg hb;have e:a=j:=by omega
    subst e;rfl
 rw[List.range_eq_range'];exact this 0 (m-1) (by omega) (by omega)
def zWa {n nx m p q:Nat} (h:yD p (mY n nx m)=av q):(p=0/\q=n)\/∃j,p=j+1/\q=nx+j/\j+1<m:=by
 unfold mY at h;simp only[yD]at h;cases hb:ax 0 p
 ·rw[hb]at h;right;simp only[cond_false]at h;rw[List.range_eq_range']at h;have:∀(a c:Nat),yD p ((bo a c).map λj=>(j+1,nx+j))=av q->∃j,p=j+1/\q=nx+j/\j<a+c:=by
   intro a c
   induction c generalizing a with
   |zero=>intro h;simp[yD]at h
   |succ c ih=>
    intro h;simp only[List.range'_succ,jf,yD]at h;cases hb:ax (a+1) p
    ·rw[hb]at h;obtain⟨j,h1,h2,h3⟩:=ih (a+1) h;exact⟨j,h1,h2,by omega⟩
    ·rw[hb]at h;simp only[cond_true,cm]at h;exact⟨a,(jg hb).symm,h.symm,by omega⟩
  obtain⟨j,h1,h2,h3⟩:=this 0 (m-1) h;exact⟨j,h1,h2,by omega⟩
 ·rw[hb]at h;left;simp only[cond_true,cm]at h;exact⟨(jg hb).symm,h.symm⟩
def Rel.unfold {E:Ev} {s:St} {n m:Nat} {T:Type} {iz:T->Nat->fq} {x:T} (R:Rel k (ic E (n,.rh T m iz x)::L) E s w) (hm:1<=m):
 ∃E',E.le E'/\Rel k (ic E' (n,(Ll s n m (iz x)).1)::L) E' (Ll s n m (iz x)).2 w:=by
 have H:=R.out;obtain⟨hd,kg,h1,h2,h3,H⟩:∃hd kg,E.gj[n]? =av hd/\kg[0]? =av hd/\kg.length=m/\
  Hp k w (hS ((ba m).map λj=>λh=>∃oT,kg[j]? =av oT/\fw E.F (iz x j) kg oT h)::(s.rows.map (ic E)++fz E.F::L)):=by
  obtain⟨hk,hs,hh⟩:=H;cases hh with
  |cons ha jb HW hr=>
   rcases ha with⟨e,_⟩|⟨hd,q1,q2⟩
   ·cases e
   ·simp only[fw]at q2;obtain⟨kg,q3,q4,q5⟩:=q2;exact⟨hd,kg,q1,q3,q4,hk,_,.cons q5 jb HW hr⟩
 let E':Ev:=⟨E.F,E.gj++kg.drop 1⟩
 have hle:E.le E':=⟨xp.refl _,J4 _ _⟩
 have AL:∀p q oT,yD p (mY n s.nx m)=av q->kg[p]? =av oT->E'.gj[q]? =av oT:=by
  intro p q oT hp ht;rcases zWa hp with⟨rfl,rfl⟩|⟨j,rfl,rfl,hj⟩
  ·rw[h2]at ht;cases ht;exact hle.get h1
  ·show(E.gj++kg.drop 1)[s.nx+j]? =av oT;rw[<- R.nx,Ch (by omega),Bu];rw[show E.gj.length+j-E.gj.length=j by omega,HA];exact ht
 have H2:=(qw.1 H)
 have AQ:ba m=0::(ba (m-1)).map (·+1):=by
  have:m=(m-1)+1:=by omega
  rw[this,List.range_succ_eq_map];simp
 rw[AQ]at H2;simp only[jf,wb,uh]at H2;refine⟨E',hle,Rel.Kb (by show(E.gj++kg.drop 1).length=s.nx+(m-1);rw[iv,pd,R.nx,h3]) ?_⟩;have T9:∀l:List Nat,(∀j∈l,j+1<m)->(PA (iz x) (mY n s.nx m) s.nx l)=l.map λj=>(s.nx+j,ER (mY n s.nx m) (iz x (j+1))):=by
  intro l
  induction l with
  |nil=>intro _;rfl
  |cons j l ih=>intro h;simp only[PA,jf];rw[ih λj hj=>h j (ji _ hj)]
 have xo:=T9 (ba (m-1)) (λj hj=>by have:=Cd.1 hj;omega);show Hp k w (ic E' (n,ER (mY n s.nx m) (iz x 0))::((PA (iz x) (mY n s.nx m) s.nx (ba (m-1))++s.rows).map (ic E')++fz E.F::L));rw[xo,jk,wb,jd];have H3:Hp k w ((ba (m-1)).map ((λj=>λh=>∃oT,kg[j]? =av oT/\fw E.F (iz x j) kg oT h)∘(·+1))++((λh=>∃oT,kg[0]? =av oT/\fw E.F (iz x 0) kg oT h)::(s.rows.map (ic E)++fz E.F::L))):=H2.perm mo.symm
 have H4:=vH (g:=(ic E')∘λj=>(s.nx+j,ER (mY n s.nx m) (iz x (j+1)))) (λj y hy=>by
  obtain⟨oT,e1,e2⟩:=hy;right;have hj:j+1<m:=by
   have:=(jm.1 e1).1;simp only at this;omega
  exact⟨oT,AL _ _ _ (yMb hj) e1,e2.ve AL⟩) H3
 have H5:=H4.perm mo;have H6:=H5.imp (B:=ic E' (n,ER (mY n s.nx m) (iz x 0))) (λy hy=>by
  obtain⟨oT,e1,e2⟩:=hy;right;rw[h2]at e1;cases e1;exact⟨hd,hle.get h1,e2.ve AL⟩)
 have H7:Hp k w (s.rows.map (ic E)++(ic E' (n,ER (mY n s.nx m) (iz x 0))::((ba (m-1)).map ((ic E')∘λj=>(s.nx+j,ER (mY n s.nx m) (iz x (j+1))))++fz E.F::L))):=by
  refine H6.perm ?_;refine List.Perm.trans ?_ mo.symm;refine .cons _ ?_;rw[<- jd,<- jd];exact Bw.append_right _
 have H8:=vH (λr y=>ic.mono hle r) H7;refine H8.perm ?_;refine mo.trans (.cons _ ?_);rw[<- jd,<- jd];exact Bw.append_right _
def yKe {n p q:Nat} (h:yD p [(0,n)]=av q):p=0/\q=n:=by
 simp only[yD]at h;cases hb:ax 0 p
 ·rw[hb]at h;cases h
 ·rw[hb]at h;simp only[cond_true,cm]at h;exact⟨(jg hb).symm,h.symm⟩
def y3b (o':fq):Prop:=∀{k:Ko} {L:List HP} {w:ac} {n:Nat} {o:fq} {π:NM} {s:St} {K:NM->St->Prop} {E:Ev},Bz o' n o π s K->Rel k (ic E (n,o)::L) E s w->AE π E.gj->o≠.gone->
 ∃E' π' s',xi k (BT E' π' n o'::L) w E π E' π' s'/\K π' s'
def PJ (g:Nat->fq) (E:Ev) (π:NM) (j:Nat):HP:=λh=>∃n,yD j π=av n/\BT E π n (g j) h
def PJ.mono {g:Nat->fq} {E E':Ev} {π π':NM} (hle:E.le E') (hx:Ext π π') {j:Nat} {h:PH} (e:PJ g E π j h):PJ g E' π' j h:=by
 obtain⟨n,h1,h2⟩:=e;exact⟨n,hx _ _ h1,h2.mono hle hx⟩
def Rel.aam {α:Type} {f g:α->HP} (h:∀a x,f a x->g a x) {l:List α} {E:Ev} {s:St} (R:Rel k (l.map f++L) E s w):Rel k (l.map g++L) E s w:=by
 refine⟨R.nx,?_⟩;have H:Hp k w (l.map f++(s.rows.map (ic E)++fz E.F::L)):=by
  refine R.hp.perm ?_;rw[show s.rows.map (ic E)++fz E.F::(l.map f++L)=(s.rows.map (ic E)++[fz E.F])++(l.map f++L)by simp,<- jd,show l.map f++(s.rows.map (ic E)++fz E.F::L)=(l.map f++(s.rows.map (ic E)++[fz E.F]))++L by simp];exact Bw.append_right _
 have H2:=vH h H;refine H2.perm ?_;rw[show s.rows.map (ic E)++fz E.F::(l.map g++L)=((s.rows.map (ic E)++[fz E.F])++l.map g)++L by simp,show l.map g++(s.rows.map (ic E)++fz E.F::L)=(l.map g++(s.rows.map (ic E)++[fz E.F]))++L by simp];exact Bw.append_right _
def Rel.AR {E:Ev} {s:St} {A:List HP} (R:Rel k (A++L) E s w):Hp k w (A++(s.rows.map (ic E)++fz E.F::L)):=by
 refine R.hp.perm ?_;rw[show s.rows.map (ic E)++fz E.F::(A++L)=(s.rows.map (ic E)++[fz E.F])++(A++L)by simp,<- jd,show A++(s.rows.map (ic E)++fz E.F::L)=(A++(s.rows.map (ic E)++[fz E.F]))++L by simp];exact Bw.append_right _
def z5v {g:Nat->fq} (hg:∀j,y3b (g j)) {c:Option fq}:∀{js:List Nat} {done:List Nat} {π:NM} {s:St} {K:NM->St->Prop} {E:Ev},(0∉js)->
 P9 (λj π s K=>match yD j π with
  |some n'=>match(match j with|0=>c|_=>s.C1 n')with
   |some o'=>Bz (g j) n' o' π (match j with|0=>s|_=>s.Ja n' o') K
   |none=>False
  |none=>False) js π s K->Rel k (done.map (PJ g E π)++L) E s w->AE π E.gj->
 ∃E' π' s',xi k ((js.reverse++done).map (PJ g E' π')++L) w E π E' π' s'/\K π' s'
 |[],done,π,s,K,E,h0,h,R,hw=>⟨E,π,s,⟨Ev.le.refl _,Ext.refl _,hw,i9 R⟩,h⟩
 |j::js,done,π,s,K,E,h0,h,R,hw=>by
  simp only[P9]at h;split at h<;>first|exact h.elim|skip
  rename_i n' X';cases j with
  |zero=>exact absurd iX h0
  |succ j=>
   simp only at h;split at h<;>first|exact h.elim|skip
   rename_i o' oG;obtain⟨oG,Uj⟩:=We oG
   ·have R1:=R.gw oG;obtain⟨E1,π1,s1,q1,q2⟩:=hg (j+1) h R1 hw Uj;have R2:Rel k (((j+1)::done).map (PJ g E1 π1)++L) E1 s1 w:=by
     have R3:=q1.rel.qi (B:=PJ g E1 π1 (j+1)) λx hx=>⟨n',q1.ext _ _ X',hx⟩
     have R4:Rel k (done.map (PJ g E π)++(PJ g E1 π1 (j+1)::L)) E1 s1 w:=⟨R3.nx,R3.hp.perm (by
      refine ce _ (.cons _ ?_);exact mo.symm)⟩
     have R5:=R4.aam (g:=PJ g E1 π1) λa x hx=>hx.mono q1.le q1.ext
     exact⟨R5.nx,R5.hp.perm (by
      refine ce _ (.cons _ ?_);exact mo)⟩
    obtain⟨E2,π2,s2,r1,r2⟩:=z5v hg (λhm=>h0 (ji _ hm)) q2 R2 q1.wf;refine⟨E2,π2,s2,⟨q1.le.trans r1.le,q1.ext.trans r1.ext,r1.wf,?_⟩,r2⟩;have:=r1.rel;simpa using this
def yQk {E:Ev}:∀{ds:List D} {l:List ab},ib E (ds.map V.d) l->iB E.F ds l
 |[],l,h=>by simpa only[Bs,ib,iB]using h
 |d::ds,l,h=>by
  simp only[jf,ib,VR]at h;obtain⟨x,xs,h1,h2,h3⟩:=h;simp only[iB];exact⟨x,xs,h1,h2,yQk h3⟩
def xAe:∀o',y3b o':=by
 intro o'
 induction o' with
 |gone=>
  intro k L w n o π s K E h R hw hg;simp only[Bz]at h;have H:=R.out;refine⟨E,π,s,⟨Ev.le.refl _,Ext.refl _,hw,?_⟩,h⟩;obtain⟨hd,x,q1,_,_⟩:∃hd x,E.gj[n]? =av hd/\fw E.F o E.gj hd x/\Sub x w:=by
   obtain⟨x,hx,hs⟩:=H.sat;rcases hx with⟨e,_⟩|⟨hd,h1,h2⟩
   ·exact absurd e hg
   ·exact⟨hd,x,h1,h2,hs⟩
  refine Rel.Kb R.nx (((@gV k w True _).2 ⟨trivial,H.drop⟩).imp λx hx=> ?_);intro E2 π2 a b tl c;exact⟨hd,a.get q1,by simp only[fw];exact hx.2⟩
 |uf q t sz fa i f b m=>
  intro k L w n o π s K E h R hw hg;simp only[Bz]at h;split at h<;>first|exact h.elim|skip
  ·rename_i q' t' oB ln i' f' b' m';have hh:=zM h;clear h;obtain⟨hb,⟨rfl,rfl,rfl,rfl⟩,h⟩:=hh;simp only[lr]at hb;have e1:=jg hb.1;have e2:=jg hb.2;subst e1 e2;split at h<;>first|exact h.elim|skip
   rename_i p c;obtain⟨hdc,hc⟩:∃hd,E.gj[c]? =av hd:=by
    obtain⟨x,hx,_⟩:=R.out.sat;rcases hx with⟨e,_⟩|⟨hd,h1,h2⟩
    ·cases e
    simp only[fw]at h2;obtain⟨A,k',ys,xs,e1,e2,e3,⟨y,l,e4,_⟩,_⟩:=h2;exact⟨_,e4⟩
   obtain⟨π',q1,q2,q3,q4⟩:=sF h hw hc;refine⟨E,π',s,⟨Ev.le.refl _,q1,q2,R.qi λx hx=> ?_⟩,q4⟩;rcases hx with⟨e,_⟩|⟨hd,h1,h2⟩
   ·cases e
   intro E2 π2 a b' tl hl;refine⟨hd,a.get h1,?_⟩;simp only[fw]at h2 ⊢;obtain⟨A,k',ys,xs,e1,e2,e3,⟨y,l,e4,e5⟩,e6⟩:=h2;obtain⟨oT,r1,r2⟩:=hl p c (b' p c q3);rw[a.get e4]at r1;cases r1;exact⟨A,k',ys,xs,e1,e2.mono a.1,e3,⟨y,l,r2,e5⟩,e6⟩
  ·rename_i t' oB ln;have hh:=zM h;clear h;obtain⟨hb,⟨rfl,rfl⟩,h⟩:=hh;simp only[lr]at hb;have e1:=jg hb.1;have e2:=jg hb.2;subst e1 e2;split at h<;>first|exact h.elim|skip
   rename_i p;split at h<;>first|exact h.elim|skip
   rename_i hm;obtain⟨E',r1,r2,r3⟩:=R.GC;have zb:yD p ((p,s.nx)::π)=av s.nx:=by simp[yD]
   refine⟨E',_,_,⟨r1,λq m e=> ?_,λq m e=> ?_,r2.qi λx hx=> ?_⟩,h⟩
   ·simp only[yD];cases hb:ax p q
    ·exact e
    ·have:=jg hb;subst this;rw[hm]at e;cases e
   ·simp only[yD]at e;cases hb:ax p q
    ·rw[hb]at e;obtain⟨hd,h'⟩:=hw q m e;exact⟨hd,r1.get h'⟩
    ·rw[hb]at e;cases e;exact⟨_,r3⟩
   rcases hx with⟨e,_⟩|⟨hd,h1,h2⟩
   ·cases e
   intro E2 π2 a b' tl hl;refine⟨hd,a.get (r1.get h1),?_⟩;simp only[fw]at h2 ⊢;obtain⟨A,k',xs,e1,e2,e3,e4⟩:=h2;obtain⟨oT,z1,z2⟩:=hl p _ (b' p _ zb);rw[a.get r3]at z1;cases z1;exact⟨A,k',xs,xs,e1,(e2.mono r1.1).mono a.1,e3,⟨_,_,z2,⟨aw,0,0,rfl⟩,rfl⟩,e4⟩
 |AJ=>
  intro k L w n o π s K E h R hw hg;simp only[Bz]at h;obtain⟨rfl,h⟩:=h;exact⟨E,π,s,⟨Ev.le.refl _,Ext.refl _,hw,R.qi λx hx=>fM rfl (by simp) hx⟩,h⟩
 |kq sz fa=>
  intro k L w n o π s K E h R hw hg;simp only[Bz]at h;split at h
  ·rename_i t oB ln;obtain⟨hb,e9,hK⟩:=zM h;subst e9;have e:=jg hb;subst e;have H:Hp k w (ic E (n,.own t sz fa)::fz E.F::(s.rows.map (ic E)++L)):=R.out.cons mo;obtain⟨x,hx,hd,jb,H⟩:=z1p H;rcases hx with⟨e,_⟩|⟨hv,h1,h2⟩
   ·cases e
   simp only[fw]at h2;obtain⟨a,c,xs,h3,h4,h5,h6⟩:=h2;have hle:E.le ⟨un x E.F,E.gj⟩:=⟨yAf hd,J1 _⟩
   have hdr:DR (un x E.F) (.ro sz fa) hv.1:=by
    simp only[DR];refine⟨a,c,h3,(UT h6).2,h5,?_⟩;rcases h6 with⟨rfl,q2,rfl,rfl,rfl⟩|⟨b,r,rfl,rfl,q3,q4,q5⟩
    ·exact .inl (xq q2)
    ·refine .inr ⟨b,0,xs++r,t,(0,0),rfl,?_,oW.2 ⟨xs,r,rfl,h4.mono hle.1⟩⟩;simp[un,one]
   have H1:Hp k w (s.rows.map (ic E)++fz (un x E.F)::L):=H.perm mo.symm;have H2:=vH (λr x=>ic.mono hle r) H1;have H3:=yQw H2;refine⟨⟨un x E.F,E.gj⟩,π,s,⟨hle,Ext.refl _,hw,Rel.Kb R.nx (H3.imp λy hy=> ?_)⟩,hK⟩;intro E2 π2 a1 b1 tl c1;refine⟨hv,a1.get h1,?_⟩;simp only[fw];exact⟨hy,hdr.mono a1.1⟩
  ·obtain⟨rfl,h⟩:=h;exact⟨E,π,s,⟨Ev.le.refl _,Ext.refl _,hw,R.qi λx hx=>fM rfl (by simp) hx⟩,h⟩
 |kj t T m iz l hole ih=>
  intro k L w n o π s K E h R hw hg;simp only[Bz]at h;split at h
  ·obtain⟨rfl,rfl,h⟩:=h;refine⟨E,π,s,⟨Ev.le.refl _,Ext.refl _,hw,R.qi λx hx=>fM (o:= .kj t T m iz [] aw) rfl (by simp) ?_⟩,h⟩;rcases hx with⟨e,_⟩|⟨hd,h1,h2⟩
   ·cases e
   ·simp only[fw]at h2;obtain⟨rfl,e1,e2⟩:=h2;refine .inr ⟨hd,h1,qx.2 ⟨aw,0,e1,by rw[e2];rfl,λp hp=>(by rw[e2]at hp;exact(nomatch hp)),pe,pe,by rw[e2];exact yIf t 1,rfl,?_,?_⟩⟩
    ·intro b;exact .inl rfl
    ·funext b;rfl
  ·obtain⟨rfl,h⟩:=h;exact⟨E,π,s,⟨Ev.le.refl _,Ext.refl _,hw,R.qi λx hx=>fM rfl (by simp) hx⟩,h⟩
 |vec ds t=>
  intro k L w n o π s K E h R hw hg;simp only[Bz]at h;split at h
  ·obtain⟨hb,e9,hK⟩:=zM h;subst e9;have e:=jg hb;subst e;refine⟨E,π,s,⟨Ev.le.refl _,Ext.refl _,hw,R.qi λx hx=>fM (o:= .vec ds t) rfl (by simp) ?_⟩,hK⟩;rcases hx with⟨e,_⟩|⟨hd,h1,h2⟩
   ·cases e
   ·simp only[fw]at h2;obtain⟨b,l,e1,e2,e3⟩:=h2;refine .inr ⟨hd,h1,?_⟩;simp only[fw];exact⟨b,l,e1,yQk e2,e3⟩
  ·obtain⟨rfl,h⟩:=h;exact⟨E,π,s,⟨Ev.le.refl _,Ext.refl _,hw,R.qi λx hx=>fM rfl (by simp) hx⟩,h⟩
 |map es=>
  intro k L w n o π s K E h R hw hg;simp only[Bz]at h;split at h<;>first|exact h.elim|skip
  obtain⟨rfl,h⟩:=h;exact⟨E,π,s,⟨Ev.le.refl _,Ext.refl _,hw,R.qi λx hx=>fM rfl (by simp) hx⟩,h⟩
 |CT es kv x=>
  intro k L w n o π s K E h R hw hg;simp only[Bz]at h;obtain⟨rfl,h⟩:=h;exact⟨E,π,s,⟨Ev.le.refl _,Ext.refl _,hw,R.qi λx hx=>fM rfl (by simp) hx⟩,h⟩
 |HL t fa=>
  intro k L w n o π s K E h R hw hg;simp only[Bz]at h;obtain⟨rfl,h⟩:=h;exact⟨E,π,s,⟨Ev.le.refl _,Ext.refl _,hw,R.qi λx hx=>fM rfl (by simp) hx⟩,h⟩
 |iter b p=>
  intro k L w n o π s K E h R hw hg;simp only[Bz]at h;split at h<;>first|exact h.elim|skip
  obtain⟨rfl,rfl,h⟩:=h;exact⟨E,π,s,⟨Ev.le.refl _,Ext.refl _,hw,R.qi λx hx=>fM rfl (by simp) hx⟩,h⟩
 |own t sz fa=>
  intro k L w n o π s K E h R hw hg;simp only[Bz]at h;split at h<;>first|exact h.elim|skip
  ·obtain⟨hb,rfl,hk⟩:=zM h;simp only[lr]at hb;have e1:=jg hb.1;have e2:=jg hb.2;subst e1 e2;exact⟨E,π,s,⟨Ev.le.refl _,Ext.refl _,hw,R.qi λx hx=>fM rfl (by simp) hx⟩,hk⟩
  ·obtain⟨rfl,h⟩:=h;refine⟨E,π,s,⟨Ev.le.refl _,Ext.refl _,hw,R.qi λx hx=> ?_⟩,h⟩;rcases hx with⟨e,_⟩|⟨hd,h1,h2⟩
   ·cases e
   ·intro E2 π2 a b tl c;simp only[fw]at h2;refine⟨hd,a.get h1,?_⟩;simp only[fw];exact⟨aw,0,[],h2.2.1,by simp[iB],by simp,.inl ⟨rfl,rfl,rfl,rfl,h2.1⟩⟩
 |cells vs t=>
  intro k L w n o π s K E h R hw hg;have key:∀{E:Ev} {s:St} {Av:List V} {π:NM},Rel k (ic E (n,.cells Av t)::L) E s w->AE π E.gj->Ei vs Av π s K->∃E' π' s',xi k (BT E' π' n (.cells vs t)::L) w E π E' π' s'/\K π' s':=by
   intro E s Av π R hw h;have H:=R.out;obtain⟨b,l,sub,h1,h2,H⟩:∃b l sub,E.gj[n]? =av (.pointer (av ⟨b,0,aw⟩),sub)/\ib E Av l/\Hp k w (pt b (.cells l.toArray t)::(s.rows.map (ic E)++fz E.F::L)):=by
    obtain⟨hk,hs,hh⟩:=H;cases hh with
    |cons ha jb HW hr=>
     rcases ha with⟨e,_⟩|⟨⟨hv,sub⟩,q1,q2⟩
     ·cases e
     ·simp only[fw]at q2;obtain⟨b,l,rfl,q3,rfl⟩:=q2;exact⟨b,l,sub,q1,q3,hk,_,.cons rfl jb HW hr⟩
   have R1:Rel k (pt b (.cells l.toArray t)::L) E s w:=Rel.Kb R.nx H;obtain⟨E',π',s',q1,q2,q3⟩:=JI h R1 hw h2;refine⟨E',π',s',⟨q1.le,q1.ext,q1.wf,q1.rel.qi λx hx=> ?_⟩,q3⟩;intro E2 π2 a b' tl c;refine⟨_,a.get (q1.le.get h1),?_⟩;simp only[fw];exact⟨b,l,rfl,q2 E2 π2 a b' tl c,hx⟩
  simp only[Bz]at h;split at h<;>first|exact h.elim|skip
  ·obtain⟨hb,hk⟩:=zM h;have e:=jg hb;subst e;exact key R hw hk
  ·rename_i T m iz x;obtain⟨hb,h⟩:=zM h;obtain⟨E1,q1,q2⟩:=R.unfold (Cg hb);revert q2 h;generalize Ll s n m (iz x)=u;obtain⟨u1,u2⟩:=u;intro h q2;simp only at h q2;split at h<;>first|exact h.elim|skip
   rename_i Av t' s' heq;cases heq;obtain⟨hb,hk⟩:=zM h;have e:=jg hb;subst e;obtain⟨E',π',s2,r1,r2⟩:=key q2 (hw.mono q1) hk;exact⟨E',π',s2,⟨q1.trans r1.le,r1.ext,r1.wf,r1.rel⟩,r2⟩
 |rh T m iz x ih=>
  intro k L w n o π s K E h R hw hg;unfold Bz at h;split at h
  ·rename_i vs t;obtain⟨hb,h⟩:=zM h;have hm:=Cg hb;have AQ:ba m=0::(ba (m-1)).map (·+1):=by
    have:m=(m-1)+1:=by omega
    rw[this,List.range_succ_eq_map];simp
   obtain⟨hd,hd1⟩:∃hd,E.gj[n]? =av hd:=by
    obtain⟨x,hx,_⟩:=R.out.sat;rcases hx with⟨e,_⟩|⟨hd,h1,_⟩
    ·cases e
    ·exact⟨hd,h1⟩
   have RW:AE [(0,n)] E.gj:=λp q e=>by
    obtain⟨_,rfl⟩:=yKe e;exact⟨hd,hd1⟩
   rw[AQ]at h;simp only[P9]at h;have zb:yD 0 [(0,n)]=av n:=rfl;rw[zb]at h;simp only at h;obtain⟨E1,π1,s1,q1,q2⟩:=ih x 0 h R RW (by simp);have R2:Rel k ([0].map (PJ (iz x) E1 π1)++L) E1 s1 w:=q1.rel.qi λy hy=>⟨n,q1.ext _ _ zb,hy⟩
   obtain⟨E2,π2,s2,r1,r2⟩:=z5v (λj=>ih x j) (c:=av (fq.cells vs t)) (by simp) q2 R2 q1.wf;have hle:=q1.le.trans r1.le;obtain⟨gu,r2⟩:=zM r2;refine⟨E2,π,s2,⟨hle,Ext.refl _,hw.mono hle,?_⟩,r2⟩;have H:=r1.rel.AR;have H2:Hp k w ((ba m).map (PJ (iz x) E2 π2)++(s2.rows.map (ic E2)++fz E2.F::L)):=by
    refine H.perm (cf _ (List.Perm.map _ ?_));rw[AQ];refine(List.reverse_perm _).append_right _|>.trans ?_
    exact Bw
   refine Rel.Kb r1.rel.nx ((qw.2 H2).imp λy hy=> ?_);intro E3 π3 a b tl c;have te:∀j,j<m->∃n,yD j π2=av n:=by
    intro j hj;have hs:∀{l:List HP} {y:PH},hS l y->∀A∈l,∃z,A z:=by
     intro l
     induction l with
     |nil=>intro y _ A hA;cases hA
     |cons B l ih=>
      intro y hy A hA;cases l with
      |nil=>rcases ua.1 hA with rfl;exact⟨y,hy⟩
      |cons C l=>
       obtain⟨g,g',h1,h2,_,_⟩:=hy;rcases jx.1 hA with rfl|hA
       ·exact⟨g,h1⟩
       ·exact ih h2 A hA
    obtain⟨z,n,hz,_⟩:=hs hy (PJ (iz x) E2 π2 j) (np.2 ⟨j,Cd.2 hj,rfl⟩);exact⟨n,hz⟩
   let kg:List Hd:=(ba m).map λj=>(E3.gj[(yD j π2).getD 0]?).getD (ag,[])
   have Ti:∀j n,j<m->yD j π2=av n->∃hd,E3.gj[n]? =av hd/\kg[j]? =av hd:=by
    intro j n hj hn;obtain⟨hd,h'⟩:=r1.wf j n hn;refine⟨hd,a.get h',?_⟩;show((ba m).map _)[j]? =_;rw[qt,J6 hj];simp only[wg,hn,zt,a.get h']
   have tc:Loc π2 E3.gj kg:=λp q e=>Ti p q (nF gu p q e) e
   refine⟨hd,a.get (hle.get hd1),?_⟩;simp only[fw];refine⟨kg,?_,by simp[kg],?_⟩
   ·have h0:yD 0 π2=av n:=r1.ext _ _ (q1.ext _ _ zb);obtain⟨oT,e1,e2⟩:=Ti 0 n (by omega) h0;rw[a.get (hle.get hd1)]at e1;cases e1;exact e2
   ·refine Lt ?_ hy;rintro j z ⟨nj,hj,hz⟩;obtain⟨oT,e1,e2⟩:=hz E3 π2 a (Ext.refl _) kg tc;obtain⟨AA,e3,e4⟩:=tc j nj hj;rw[e1]at e3;cases e3;exact⟨oT,e4,e2⟩
  ·obtain⟨rfl,h⟩:=h;exact⟨E,π,s,⟨Ev.le.refl _,Ext.refl _,hw,R.qi λx hx=>fM rfl (by simp) hx⟩,h⟩
variable {k:Ko} {L:List HP} {w:ac}
def gZ:Nat->List fq->List (Nat×fq)
 |_,[]=>[]
 |p,o::os=>(p,o)::gZ (p+1) os
def PQ (E:Ev) (π:NM) (r:Nat×fq):HP:=λh=>(r.2= .gone/\h=pe)\/∃n,yD r.1 π=av n/\BT E π n r.2 h
def PQ.mono {E E':Ev} {π π':NM} (hle:E.le E') (hx:Ext π π') (r:Nat×fq) {h:PH} (e:PQ E π r h):PQ E' π' r h:=by
 rcases e with e|⟨n,h1,h2⟩
 ·exact .inl e
 ·exact .inr ⟨n,hx _ _ h1,h2.mono hle hx⟩
def WH:∀{os:List fq} {p:Nat} {π:NM} {s:St} {K:NM->St->Prop} {E:Ev} {L:List HP},IE p os π s K->Rel k L E s w->AE π E.gj->
 ∃E' π' s',xi k ((gZ p os).map (PQ E' π')++L) w E π E' π' s'/\K π' s'
 |[],p,π,s,K,E,L,h,R,hw=>⟨E,π,s,⟨Ev.le.refl _,Ext.refl _,hw,R⟩,h⟩
 |o::os,p,π,s,K,E,L,h,R,hw=>by
  have fin:∀{E1:Ev} {π1:NM} {s1:St},xi k (PQ E1 π1 (p,o)::L) w E π E1 π1 s1->IE (p+1) os π1 s1 K->∃E' π' s',xi k ((gZ p (o::os)).map (PQ E' π')++L) w E π E' π' s'/\K π' s':=by
   intro E1 π1 s1 q1 q2;obtain⟨E2,π2,s2,r1,r2⟩:=WH q2 q1.rel q1.wf;refine⟨E2,π2,s2,⟨q1.le.trans r1.le,q1.ext.trans r1.ext,r1.wf,?_⟩,r2⟩;have R3:=r1.rel;have R4:Rel k (PQ E1 π1 (p,o)::((gZ (p+1) os).map (PQ E2 π2)++L)) E2 s2 w:=⟨R3.nx,R3.hp.perm (by
    refine ce _ (.cons _ ?_);exact mo)⟩
   exact R4.qi λx hx=>hx.mono r1.le r1.ext
  cases o with
  |gone=>
   simp only[IE]at h;refine fin ⟨Ev.le.refl _,Ext.refl _,hw,?_⟩ h;exact Rel.Kb R.nx (((@gV k w True _).2 ⟨trivial,R.hp⟩).imp λx hx=> .inl ⟨rfl,hx.2⟩)
  |_=>
   simp only[IE]at h;split at h<;>first|exact h.elim|skip
   rename_i n hn;split at h<;>first|exact h.elim|skip
   rename_i o' oG;obtain⟨oG,hg⟩:=We oG;obtain⟨E1,π1,s1,q1,q2⟩:=xAe _ h (R.gw oG) hw hg;exact fin ⟨q1.le,q1.ext,q1.wf,q1.rel.qi λx hx=> .inr ⟨n,q1.ext _ _ hn,hx⟩⟩ q2
structure Alt where
 o:Type
 res:o->V
 post:o->List fq
 rel:o->Prop
structure gh where
 ι:Type
 pat:ι->List V
 pre:ι->List fq
 dp:ι->Prop
 alts:ι->List Alt
def Hx (m nx:Nat):Nat->NM->NM
 |0,π=>π
 |q+1,π=>Hx m nx q ((m+q,nx+q)::π)
def k0 (π:NM):Nat->List fq->List (Nat×fq)
 |_,[]=>[]
 |p,.gone::os=>k0 π (p+1) os
 |p,o::os=>match yD p π with
  |some n=>(n,ER π o)::k0 π (p+1) os
  |none=>k0 π (p+1) os
def y8z (m:Nat) (π:NM) (s:St) (os:List fq):St:=⟨k0 (Hx m s.nx (os.length-m) π) 0 os++s.rows,s.nx+(os.length-m)⟩
def xAz (m:Nat) (π:NM) (s:St) (K:V->St->Prop) (a:Alt):Prop:=
 ∀o,a.rel o->bif az m (a.post o).length then K (A6 (Hx m s.nx ((a.post o).length-m) π) (a.res o)) (y8z m π s (a.post o))else False
def yPn (m:Nat) (π:NM) (s:St) (K:V->St->Prop):List Alt->Prop
 |[]=>True
 |[a]=>xAz m π s K a
 |a::l=>xAz m π s K a/\yPn m π s K l
def zWy {m:Nat} {π:NM} {s:St} {K:V->St->Prop}:∀{l:List Alt},yPn m π s K l->∀a∈l,xAz m π s K a
 |[],_,a,ha=>by cases ha
 |[b],h,a,ha=>by rcases ua.1 ha with rfl;exact h
 |b::c::l,h,a,ha=>by
  rcases jx.1 ha with rfl|ha
  ·exact h.1
  ·exact zWy h.2 a ha
def gh.call (C:gh) (args:List V) (s:St) (K:V->St->Prop):Prop:=
 ∃i:C.ι,Ei (C.pat i) args [] s λπ s=>IE 0 (C.pre i) π s λπ s=>bif lW (C.pre i).length π then C.dp i/\yPn (C.pre i).length π s K (C.alts i)else False
def gh.ok (P:af) (f:aq) (C:gh):Prop:=∀i,C.dp i->∀(k:Ko) (L:List HP) (E:Ev) (w:ac) (ys:List ab),Rel k L E ⟨gZ 0 (C.pre i),(C.pre i).length⟩ w->ib E (C.pat i) ys->
 nk P (aj f ys.toArray) w λy w'=>∃a∈C.alts i,∃o,a.rel o/\∃E',E.le E'/\VR E' (a.res o) y/\Rel k L E' ⟨gZ 0 (a.post o),(a.post o).length⟩ w'
def zWo {m nx:Nat} {p n:Nat}:∀{q:Nat} {π:NM},yD p (Hx m nx q π)=av n->yD p π=av n\/(m<=p/\n=nx+(p-m))
 |0,π,h=> .inl h
 |q+1,π,h=>by
  simp only[Hx]at h;rcases zWo (q:=q) h with h|h
  ·simp only[yD]at h;cases hb:ax (m+q) p
   ·rw[hb]at h;exact .inl h
   ·rw[hb]at h;have:=jg hb;simp only[cond_true,cm]at h;exact .inr ⟨by omega,by omega⟩
  ·exact .inr h
def pP {π:NM} {E E2:Ev} (hF:E.F=E2.F) (hr:∀p n hd,yD p π=av n->E.gj[p]? =av hd->E2.gj[n]? =av hd) {M:List HP}:∀{os:List fq} {p:Nat},Hp k w ((gZ p os).map (ic E)++M)->Hp k w ((k0 π p os).map (ic E2)++M)
 |[],p,H=>H
 |o::os,p,H=>by
  simp only[gZ,jf,uh]at H;have drop:Hp k w ((k0 π (p+1) os).map (ic E2)++M):=pP hF hr H.drop;have main:∀n,yD p π=av n->Hp k w (ic E2 (n,ER π o)::((k0 π (p+1) os).map (ic E2)++M)):=by
   intro n hn;have H1:Hp k w ((gZ (p+1) os).map (ic E)++(ic E (p,o)::M)):=H.perm mo.symm;have H2:=pP hF hr H1;refine(H2.perm mo).imp λx hx=> ?_
   rcases hx with⟨e,e2⟩|⟨hd,h1,h2⟩
   ·left;simp only at e;subst e;exact⟨rfl,e2⟩
   ·right;exact⟨hd,hr _ _ _ hn h1,hF▸h2.ve hr⟩
  cases o with
  |gone=>simpa only[k0]using drop
  |_=>
   simp only[k0];split
   ·rename_i n hn;exact main n hn
   ·exact drop
def gh.yj {P:af} {f:aq} {C:gh} (hC:C.ok P f) {args:List V} {s:St} {K:V->St->Prop} {E:Ev} {ys:List ab} (h:C.call args s K) (R:Rel k L E s w) (hv:ib E args ys):
 nk P (aj f ys.toArray) w (ph k L E K):=by
 obtain⟨i,h⟩:=h;have RW:AE [] E.gj:=λp n e=>by cases e
 obtain⟨E1,π1,s1,q1,q2,q3⟩:=JI h R RW hv;obtain⟨E2,π2,s2,r1,r2⟩:=WH q3 q1.rel q1.wf;obtain⟨gu,hc,ha⟩:=zM r2;have gu:=nF gu
 let m:=(C.pre i).length
 let tl:List Hd:=(ba m).map λp=>(E2.gj[(yD p π2).getD 0]?).getD (ag,[])
 have tc:Loc π2 E2.gj tl:=by
  intro p n hp;obtain⟨hd,h'⟩:=r1.wf p n hp;refine⟨hd,h',?_⟩;show((ba m).map _)[p]? =_;rw[qt,J6 (gu p n hp)];simp only[wg,hp,zt,h']
 have IF:tl.length=m:=by simp[tl]
 have H:=r1.rel.AR;have H1:=vH (g:=ic ⟨E2.F,tl⟩) (λr x hx=>by
  rcases hx with⟨e1,e2⟩|⟨n,h1,h2⟩
  ·exact .inl ⟨e1,e2⟩
  ·right;obtain⟨hd,h3,h4⟩:=h2 E2 π2 (Ev.le.refl _) (Ext.refl _) tl tc;obtain⟨oT,h5,h6⟩:=tc _ _ h1;rw[h3]at h5;cases h5;exact⟨hd,h6,h4⟩) H
 have R0:Rel k (s2.rows.map (ic E2)++L) ⟨E2.F,tl⟩ ⟨gZ 0 (C.pre i),(C.pre i).length⟩ w:=⟨IF,H1.perm (ce _ mo)⟩
 have X1:ib ⟨E2.F,tl⟩ (C.pat i) ys:=q2 E2 π2 r1.le r1.ext tl tc;refine(hC i hc k _ _ w ys R0 X1).mono ?_;rintro y w' ⟨a,ha',o,MB,E3,hle,RY,R3⟩;obtain⟨hm,hk⟩:=zM (zWy ha a ha' o MB);have hm:=Cg hm
 let q:=(a.post o).length
 have hlen:E3.gj.length=q:=R3.nx
 let E4:Ev:=⟨E3.F,E2.gj++E3.gj.drop m⟩
 have rj:E2.le E4:=⟨hle.1,J4 _ _⟩
 have AL:∀p n hd,yD p (Hx m s2.nx (q-m) π2)=av n->E3.gj[p]? =av hd->E4.gj[n]? =av hd:=by
  intro p n hd hp ht;rcases zWo hp with hp|⟨h1,rfl⟩
  ·obtain⟨oT,h5,h6⟩:=tc _ _ hp;have:=UQ hle.2 h6;rw[ht]at this;cases this;exact rj.get h5
  ·show(E2.gj++E3.gj.drop m)[s2.nx+(p-m)]? =av hd;rw[<- r1.rel.nx,Ch (by omega),Bu];rw[show m+(E2.gj.length+(p-m)-E2.gj.length)=p by omega];exact ht
 refine⟨E4,_,_,(q1.le.trans r1.le).trans rj,?_,RY.ve (F:=E3.F) AL,hk⟩;refine⟨by show(E2.gj++E3.gj.drop m).length=s2.nx+(q-m);rw[iv,pd,r1.rel.nx,hlen],?_⟩;have H2:=pP (E:=E3) (E2:=E4) rfl AL R3.hp;have H3:Hp k w' (s2.rows.map (ic E2)++((k0 (Hx m s2.nx (q-m) π2) 0 (a.post o)).map (ic E4)++fz E3.F::L)):=by
  refine H2.perm ?_;rw[<- jd];refine List.Perm.trans ?_ (Bw.append_right _);rw[jd];exact ce _ mo.symm
 have H4:=vH (g:=ic E4) (λr x=>ic.mono rj r) H3;refine H4.perm ?_;show(s2.rows.map (ic E4)++((k0 (Hx m s2.nx (q-m) π2) 0 (a.post o)).map (ic E4)++fz E3.F::L)).Perm ((k0 (Hx m s2.nx (q-m) π2) 0 (a.post o)++s2.rows).map (ic E4)++fz E4.F::L);rw[<- jd,jk];exact Bw.append_right _
variable {P:af} {k:Ko} {L:List HP}
def kS (P:af) (ρ:xF) (op:Op):Nat:=
 match op with
 | .convert s d _=>bif LB P s && Ls P d then 1 else bif Ls P s && Ih P d then 2 else bif LB P s && Ih P d then 2 else 0
 | .indexAddr _ x _=>match ma ρ x with
   | .own _=>1
   |_=>0
 | .slice _ x _ _ _=>match ma ρ x with
   | .own _=>2
   |_=>0
 | .binOp _ _ x _ _=>match ma ρ x with
   | .own _=>1
   |_=>0
 | .call c=>match c.callee with
   | .builtin .len=>match DA ρ c.args.toList with
     |[.own _]=>1
     |[.mp _]=>1
     |_=>0
   | .builtin .cap=>0
   | .builtin .min=>0
   | .builtin .max=>0
   |_=>2
 |op=>UG P op
def opS (P:af) (H:BH) (o:ap) (ρ:xF) (s:St) (K:V->St->Prop):Prop:=
 match kS P ρ o.op with
 |0=>sq P o ρ λv=>K v s
 |1=>sr P o ρ s λv=>K v s
 |_=>se P H o ρ s K
def yJw {H:BH} (hH:IW P H) {E:Ev} {s:St} {w:ac} (R:Rel k L E s w) {ρS:xF} {ρ:Env} (he:lj E ρS ρ) {o:ap} {K:V->St->Prop} (h:opS P H o ρS s K):nk P (ae (ev ρ) o) w (ph k L E K):=by
 unfold opS at h;split at h
 ·obtain⟨v,y,hk,hv,hf⟩:=z6k he h;exact wU (hf w) ⟨E,v,s,Ev.le.refl _,R,hv,hk⟩
 ·obtain⟨v,y,hk,hv,hf⟩:=Y5 R he h;exact wU hf ⟨E,v,s,Ev.le.refl _,R,hv,hk⟩
 ·exact z4o hH R he h
def Pe (ops:List ap) (g:Option (Nat×Bool)) (ρ:xF) (Y N:xF->Prop):Prop:=
 match g with
 |none=>Y ρ
 |some (j,want)=>
  match Xi ops j with
  |none=>N ρ
  |some d=>
   match ρ d with
   | .d (.v (.bool c))=>gd c want (Y (Bp ρ (av d) (.d (.v (.bool want))))) (N (Bp ρ (av d) (.d (.v (.bool !want)))))
   | .je []=>N ρ
   |_=>False
def yKc {ρ:xF} {d:Nat} {v:V} (h:ρ d=v):Bp ρ (av d) v=ρ:=by
 funext i;simp only[Bp];cases hb:ax i d
 ·rfl
 ·have:=jg hb;subst this;exact h.symm
def eH {ops:List ap} {o:ap} {a:Act} {E:Ev} {ρS:xF} (he:lj E ρS (yR a)) {Y N:xF->Prop} (h:Pe ops o.guard ρS Y N):
 if cx o (yielded ops.toArray a.tmps)then Y ρS else N ρS:=by
 unfold Pe at h;unfold cx;split at h
 ·rename_i hg;rw[hg];exact h
 ·rename_i j want hg;rw[hg];have hy:=zIj ops a.tmps j;split at h
  ·rename_i hd;rw[hd]at hy;simp only[hy];simpa using h
  ·rename_i d hd;rw[hd]at hy;simp only[hy];have hv:yR a d=(a.tmps[d]?).getD ag:=by simp[yR,CI]
   have F0:=he d;rw[hv]at F0;split at h<;>first|exact h.elim|skip
   ·rename_i c hc;rw[hc]at F0;simp only[VR,DR]at F0;cases ht:a.tmps[d]? with
    |none=>rw[ht]at F0;exact absurd F0.1 (by simp[ag])
    |some v=>
     rw[ht]at F0;simp only[zt]at F0;rw[F0.1];simp only[];have hs:∀b,c=b->Bp ρS (av d) (.d (.v (.bool b)))=ρS:=λb hb=>yKc (by rw[hc,hb])
     cases c<;>cases want<;>simp only[gd,Bool.not_true,JZ]at h<;>rw[hs _ rfl]at h<;>simpa using h
   ·rename_i hc;rw[hc]at F0;simp only[VR,ib]at F0;obtain⟨ys,e1,rfl⟩:=F0;cases ht:a.tmps[d]? with
    |none=>simpa using h
    |some v=>
     rw[ht]at e1;simp only[zt]at e1;subst e1;simpa using h
def Rb (P:af) (H:BH) (ops:List ap):List ap->xF->St->(xF->St->Prop)->Prop
 |[],ρ,s,K=>K ρ s
 |o::rest,ρ,s,K=>Pe ops o.guard ρ (λρ=>opS P H o ρ s λv s'=>Rb P H ops rest (Bp ρ o.dst v) s' K) (λρ=>Rb P H ops rest (Bp ρ o.dst (.je [])) s K)
def zHr (E:Ev):VR E (.je []) ag:=by
 simp only[VR];exact⟨[],rfl,ib.nil⟩
def zOp {H:BH} (hH:IW P H) {ops:List ap} {n:Nat} {A:Nat->Bool} {e0:Env} {Q:Exit->Act->ac->Prop} {E0:Ev} {K:xF->St->Prop}
 (hQ:∀a w E ρS s,Good n A e0 a->E0.le E->Rel k L E s w->lj E ρS (yR a)->K ρS s->Q .normal a w):
 ∀(l:List ap) (a:Act) (w:ac) (E:Ev) (ρS:xF) (s:St),Jz n A l->Good n A e0 a->E0.le E->Rel k L E s w->lj E ρS (yR a)->Rb P H ops l ρS s K->wpList P ops.toArray Q l a w
 |[],a,w,E,ρS,s,_,hg,hle,R,he,h=>hQ a w E ρS s hg hle R he h
 |o::l,a,w,E,ρS,s,hf,qn,hle,R,he,h=>by
  have yb:=hf o iX;have hf':Jz n A l:=λo' oG=>hf o' (ji _ oG)
  have hg:=eH he h;have nx:∀{v:ab} {w:ac} {E':Ev} {v':V} {s':St},E.le E'->Rel k L E' s' w->VR E' v' v->Rb P H ops l (Bp ρS o.dst v') s' K->wpList P ops.toArray Q l (a.put o.dst v) w:=λ{v w E' v' s'} jt R' hv hh=>
   zOp hH hQ l _ _ E' _ s' hf' (qn.put yb v) (hle.trans jt) R' (by rw[qn.mg yb];exact(he.mono jt).put _ hv) hh
  unfold wpList;split
  ·rename_i hw;rw[fh hw]at hg;left;refine zFq ?_;have:=yJw hH R he hg;rw[vI]at this;refine this.mono ?_;rintro v w' ⟨E',v',s',h1,h2,h3,h4⟩;exact nx h1 h2 h3 h4
  ·rename_i hw;rw[ez hw]at hg;exact nx (Ev.le.refl _) R (zHr E) hg
def zOb {P:af} {E:Ev} {t sz i f:Nat} {fa:Q_ D} {b o:Nat} {l:List ab} {T:ak} {fr:Nat×Nat} {ds:List D} {v:V} (hu:∀el∈fa,el.length=sz) (h5:BJ E.F fa (l.drop o))
 (hp:zD fa i f ds.length=av ds) (hm:Dt P t ds=av v):∃y,VR E v y/\∀w:ac,w.heap[b]? =av (.cells l.toArray T fr)->pY P t ⟨b,o+i*sz+f,aw⟩ w y:=by
 obtain⟨xs,r,e,hx⟩:=oW.1 h5;unfold zD at hp;split at hp<;>first|(cases hp;done)|skip
 rename_i el oS;obtain⟨hb,hp⟩:=y4 hp;have hb:=Cg hb;have tv:=lh oS;have hi:i<fa.length:=(jm.1 oS).1;rw[hu el tv]at hb;have nh:=(hx.drop (i*sz+f)).take ds.length;have hfp:=ZN hu oS hb;rw[hfp,co hp]at nh;have hlen:xs.length=fa.length*sz:=by rw[hx.length,wE hu]
 have wu:i*sz+sz<=fa.length*sz:=by
  have:=xj sz (show i+1<=fa.length by omega);rwa [zr]at this
 have og:(l.drop (o+i*sz+f)).take ds.length=(xs.drop (i*sz+f)).take ds.length:=by
  rw[Dh,<- Dl,e,HI (by omega),yp (by rw[pd];omega)]
 unfold Dt at hm;split at hm
 ·rename_i n hn;obtain⟨hq,hm⟩:=y4 hm;have:=jg hq;cases hm;refine⟨.agg ((xs.drop (i*sz+f)).take ds.length).toArray,by simp only[VR];exact⟨_,rfl,nh.Ow⟩,λw e2=> ?_⟩;refine V0 hn e2 (by rw[<- this];exact og) ?_;rw[nh.length,this]
 ·obtain⟨hq,hm⟩:=y4 hm;split at hm<;>first|(cases hm;done)|skip
  rename_i d;cases hm;simp only[iF,tz,iB]at nh og;obtain⟨y,ys,e4,h4,h5⟩:=nh;subst h5;refine⟨y,by simpa only[VR]using h4,λw e2=>vY hq e2 ?_⟩;have:((l.drop (o+i*sz+f)).take 1)[0]? =av y:=by rw[og,e4];rfl
  rw[J5,fh (by omega),Bu]at this;simpa using this
def U' (ρ:xF) (s:St):Op->Bool
 | .load _ x=>match ma ρ x with
   | .re _ _ _ _=>bz
   | .el n _ _ _=>match s.get n with
     |some (.kq _ _)=>bz
     |_=>cd
   |_=>cd
 |_=>cd
def yIu {E:Ev} {s:St} {w:ac} (R:Rel k L E s w) {ρS:xF} {ρ:Env} (he:lj E ρS ρ) {o:ap} {K:V->Prop} (lp:U' ρS s o.op=bz) (h:sr P o ρS s K):
 ∃v y,K v/\VR E v y/\∀(E':Ev) (s':St) (w':ac),E.le E'->Rel k L E' s' w'->(ae (ev ρ) o).run P w'= .ok (.value y) w':=by
 cases ho:o.op<;>rw[ho]at lp<;>first|(cases lp;done)|skip
 case load t x=>
  simp only[sr,ho]at h;simp only[U']at lp;have hv:=he.ev x;split at lp<;>first|(cases lp;done)|skip
  ·rename_i sz fa i f hx;rw[hx]at hv h;simp only[VR]at hv;simp only at h;obtain⟨e0,e1,b,oo,l,T,fr,e2,e3,e4⟩:=hv;obtain⟨ds,hp,h⟩:=pM h;obtain⟨v,hm,hk⟩:=zN h;obtain⟨y,hy,hh⟩:=zOb (b:=b) (T:=T) (fr:=fr) e1 e4 hp hm;refine⟨v,y,hk,hy,λE' s' w' hle R'=> ?_⟩;simp only[ae,ho,e2];exact yJ (hh w' (R'.frozen _ _ (hle.1 _ _ e3)))
  ·rename_i n sz i f hx;rw[hx]at hv h;simp only[VR]at hv;simp only at h;split at lp<;>first|(cases lp;done)|skip
   rename_i sz0 abh hg;obtain⟨b,oo,m,c,l,e1,e2⟩:=hv;simp only[Lp,nH,hg]at h;obtain⟨⟨oB,fa⟩,hd,h⟩:=zN h;simp only[Ik,hg,cm,Prod.mk.injEq]at hd;obtain⟨rfl,rfl⟩:=hd;obtain⟨hb,h⟩:=zM h;have:=jg hb;simp only at this;subst this;obtain⟨ds,v,hp,hm,hk⟩:=zUp h;obtain⟨hd,x',q1,q2,q3⟩:=R.row hg (by simp);rw[e1]at q1;cases q1;simp only[fw,DR]at q2;obtain⟨_,a,c',q4,q5,q6,q7⟩:=q2;cases q4;rcases q7 with rfl|⟨b',o',l',T,fr,q8,q9,q10⟩
   ·simp[zD]at hp
   cases q8;obtain⟨y,hy,hh⟩:=zOb (b:=b) (T:=T) (fr:=fr) q6 q10 hp hm;refine⟨v,y,hk,hy,λE' s' w' hle R'=> ?_⟩;simp only[ae,ho,e2];exact yJ (hh w' (R'.frozen _ _ (hle.1 _ _ q9)))
def xAf:V->V->Prop
 | .d (.v x),.d (.v y)=>XS x y
 | .nm n o,.nm n' o'=>bif ax n n' && ax o o' then True else False
 | .own n,.own n'=>bif ax n n' then True else False
 | .mp n,.mp n'=>bif ax n n' then True else False
 | .el n sz i f,.el n' oB i' f'=>bif ax n n' && ax sz oB && ax f f' then i=i' else False
 |_,_=>False
def fE {E E':Ev} (hle:E.le E') {v v':V} {y y':ab} (h:xAf v' v) (hy:VR E v y) (pj:VR E' v' y'):y'=y:=by
 unfold xAf at h;split at h<;>first|exact h.elim|skip
 ·simp only[VR,DR]at hy pj;rw[hy.1,pj.1,yQc h]
 ·obtain⟨hb,_⟩:=zM h;simp only[lr]at hb;have e1:=jg hb.1;have e2:=jg hb.2;subst e1 e2;simp only[VR]at hy pj;obtain⟨b,oo,l,h1,rfl⟩:=hy;obtain⟨b',oo',l',BE,rfl⟩:=pj;rw[hle.get h1]at BE;cases BE;rfl
 ·obtain⟨hb,_⟩:=zM h;have e1:=jg hb;subst e1;simp only[VR]at hy pj;obtain⟨l,h1,_⟩:=hy;obtain⟨l',BE,_⟩:=pj;rw[hle.get h1]at BE;cases BE;rfl
 ·obtain⟨hb,_⟩:=zM h;have e1:=jg hb;subst e1;simp only[VR]at hy pj;obtain⟨b,l,h1,_⟩:=hy;obtain⟨b',l',BE,_⟩:=pj;rw[hle.get h1]at BE;cases BE;rfl
 ·obtain⟨hb,rfl⟩:=zM h;simp only[lr]at hb;have e1:=jg hb.1.1;have e2:=jg hb.1.2;have e3:=jg hb.2;subst e1 e2 e3;simp only[VR]at hy pj;obtain⟨b,oo,m,c,l,h1,rfl⟩:=hy;obtain⟨b',oo',m',c',l',BE,rfl⟩:=pj;rw[hle.get h1]at BE;cases BE;rfl
mutual
def CJ:V->V->Prop
 | .agg l,v=>match v with
   | .agg l'=>N6 l l'
   |_=>False
 | .je l,v=>match v with
   | .je l'=>N6 l l'
   |_=>False
 |u,v=>xAf u v
def N6:List V->List V->Prop
 |[],l=>match l with
  |[]=>True
  |_=>False
 |u::us,l=>match l with
  |v::vs=>CJ u v/\N6 us vs
  |[]=>False
end
mutual
theorem yHf {E E':Ev} (hle:E.le E'):∀{v' v:V} {y y':ab},CJ v' v->VR E v y->VR E' v' y'->y'=y
 | .agg l,v,y,y',h,hy,pj=>by
   simp only[CJ]at h;split at h<;>first|exact h.elim|skip
   simp only[VR]at hy pj;obtain⟨ys,rfl,h1⟩:=hy;obtain⟨Ea,rfl,h2⟩:=pj;rw[ZH hle h h1 h2]
 | .je l,v,y,y',h,hy,pj=>by
   simp only[CJ]at h;split at h<;>first|exact h.elim|skip
   simp only[VR]at hy pj;obtain⟨ys,rfl,h1⟩:=hy;obtain⟨Ea,rfl,h2⟩:=pj;rw[ZH hle h h1 h2]
 | .top,v,y,y',h,hy,pj=>fE hle (by simpa only[CJ]using h) hy pj
 | .d _,v,y,y',h,hy,pj=>fE hle (by simpa only[CJ]using h) hy pj
 | .nm _ _,v,y,y',h,hy,pj=>fE hle (by simpa only[CJ]using h) hy pj
 | .el _ _ _ _,v,y,y',h,hy,pj=>fE hle (by simpa only[CJ]using h) hy pj
 | .re _ _ _ _,v,y,y',h,hy,pj=>fE hle (by simpa only[CJ]using h) hy pj
 | .own _,v,y,y',h,hy,pj=>fE hle (by simpa only[CJ]using h) hy pj
 | .mp _,v,y,y',h,hy,pj=>fE hle (by simpa only[CJ]using h) hy pj
 | .sub _ _,v,y,y',h,hy,pj=>fE hle (by simpa only[CJ]using h) hy pj
 | .fn _ _ _,v,y,y',h,hy,pj=>fE hle (by simpa only[CJ]using h) hy pj
 | .zy _ _,v,y,y',h,hy,pj=>fE hle (by simpa only[CJ]using h) hy pj
theorem ZH {E E':Ev} (hle:E.le E'):∀{v' v:List V} {y y':List ab},N6 v' v->ib E v y->ib E' v' y'->y'=y
 |[],v,y,y',h,hy,pj=>by
  simp only[N6]at h;split at h<;>first|exact h.elim|skip
  simp only[ib]at hy pj;rw[hy,pj]
 |u::us,v,y,y',h,hy,pj=>by
  simp only[N6]at h;split at h<;>first|exact h.elim|skip
  simp only[ib]at hy pj;obtain⟨x,xs,rfl,h1,h2⟩:=hy;obtain⟨x',xs',rfl,BE,h2'⟩:=pj;rw[yHf hle h.1 h1 BE,ZH hle h.2 h2 h2']
end
@[reducible] def Fw:=Nat×(St->Prop)
def JB (bf:List Nat) (i:Nat):List Fw->List Fw
 |[]=>[]
 |m::l=>bif Bm bf i m.1 then JB bf i l else m::JB bf i l
def xAy:List Fw->St->Prop->Prop
 |[],_,X=>X
 |m::ms,s,X=>m.2 s/\xAy ms s X
def y5h (P:af) (ops:List ap) (ρ:xF) (i:Nat):Bool:=
 match ops[i]? with
 |some o=>match kS P ρ o.op with
  |2=>cd
  |_=>bz
 |none=>bz
def WD:Op->Bool
 | .slice _ _ _ _ aw=>bz
 |_=>cd
def yCi {o:Op} (h:WD o=bz):∃t x lo hi,o= .slice t x lo hi aw:=by
 unfold WD at h;split at h
 ·exact⟨_,_,_,_,rfl⟩
 ·cases h
def FA (P:af) (H:BH) (ops:List ap) (bf:List Nat):Nat->Array Bool->List Fw->xF->St->(xF->St->Prop)->Prop
 |0,fu,_,ρ,s,K=>
  match cy .any ops.toArray fu with
  |[]=>K ρ s
  |_=>False
 |fuel+1,fu,M,ρ,s,K=>
  match cy .any ops.toArray fu with
  |[]=>K ρ s
  |r::rs=>
   match(r::rs).find? (y5h P ops ρ)with
   |some i=>
    match ops[i]? with
    |none=>False
    |some o=>Pe ops o.guard ρ
      (λρ'=>match kS P ρ' o.op with
        |0=>sq P o ρ' λv=>FA P H ops bf fuel (fu.setIfInBounds i bz) M (Bp ρ' o.dst v) s K
        |1=>sr P o ρ' s λv=>FA P H ops bf fuel (fu.setIfInBounds i bz) ((i,λs'=>bif U' ρ' s o.op then True else sr P o ρ' s' λv'=>CJ v' v)::M) (Bp ρ' o.dst v) s K
        |_=>False)
      (λρ'=>FA P H ops bf fuel (fu.setIfInBounds i bz) M (Bp ρ' o.dst (.je [])) s K)
   |none=>W8 (r::rs) λi=>
    match ops[i]? with
    |none=>False
    |some o=>Pe ops o.guard ρ
      (λρ'=>se P H o ρ' s λv s'=>bif WD o.op then FA P H ops bf fuel (fu.setIfInBounds i bz) (JB bf i M) (Bp ρ' o.dst v) s' K else xAy (JB bf i M) s' (FA P H ops bf fuel (fu.setIfInBounds i bz) (JB bf i M) (Bp ρ' o.dst v) s' K))
      (λρ'=>FA P H ops bf fuel (fu.setIfInBounds i bz) (JB bf i M) (Bp ρ' o.dst (.je [])) s K)
inductive oA (k:Ko) (L:List HP) (E:Ev):List Fw->List Mon->Prop
 |nil:oA k L E [] []
 |cons {i:Nat} {f:St->Prop} {g:ac->Prop} {M:List Fw} {N:List Mon}:(∀E' s' w',E.le E'->Rel k L E' s' w'->f s'->g w')->oA k L E M N->oA k L E ((i,f)::M) ((i,g)::N)
def oA.mono {E E':Ev} (hle:E.le E') {M:List Fw} {N:List Mon} (h:oA k L E M N):oA k L E' M N:=by
 induction h with
 |nil=>exact .nil
 |cons h _ ih=>exact .cons (λE2 s w a=>h E2 s w (hle.trans a)) ih
def oA.oz {E:Ev} {bf:List Nat} {i:Nat} {M:List Fw} {N:List Mon} (h:oA k L E M N):oA k L E (JB bf i M) (jZ bf i N):=by
 induction h with
 |nil=>exact .nil
 | @cons j f g M N h _ ih=>
   simp only[JB,jZ,Dm]at ih ⊢;cases hb:Bm bf i j
   ·simpa using .cons h ih
   ·simpa using ih
def oA.all {E E':Ev} (hle:E.le E') {M:List Fw} {N:List Mon} (h:oA k L E M N) {s:St} {w:ac} (R:Rel k L E' s w) {X:Prop} (hm:xAy M s X):Fv N w/\X:=by
 induction h with
 |nil=>exact⟨λm hm=>(by cases hm),hm⟩
 |cons h _ ih=>
  obtain⟨h1,h2⟩:=hm;obtain⟨h3,h4⟩:=ih h2;refine⟨λm hm=> ?_,h4⟩;rcases jx.1 hm with rfl|hm
  ·exact h _ _ _ hle R h1
  ·exact h3 m hm
def z6c {H:BH} (hH:IW P H) {ops:List ap} {n:Nat} {A:Nat->Bool} {e0:Env} {Q:Act->ac->Prop} {E0:Ev} {K:xF->St->Prop} (oX:eR ops (gP ops [])=bz) (hf:Jz n A ops)
 (hQ:∀a w E ρS s,Good n A e0 a->E0.le E->Rel k L E s w->lj E ρS (yR a)->K ρS s->Q a w):
 ∀(fuel:Nat) (fu:Array Bool) (M:List Fw) (N:List Mon) (a:Act) (w:ac) (E:Ev) (ρS:xF) (s:St),Il ops (qV fu)->Fv N w->oA k L E M N->Good n A e0 a->E0.le E->Rel k L E s w->lj E ρS (yR a)->
  FA P H ops (gP ops []) fuel fu M ρS s K->Df P ops.toArray (gP ops []) Q fuel N fu a w:=by
 intro fuel
 induction fuel with
 |zero=>
  intro fu M N a w E ρS s hc hM F1 qn hle R he h;unfold FA at h;split at h
  ·rename_i hr;exact⟨hr,hQ a w E ρS s qn hle R he h⟩
  ·exact h.elim
 |succ fuel ih=>
  intro fu M N a w E ρS s hc hM F1 qn hle R he h;unfold FA at h;split at h
  ·rename_i hr;exact⟨λ_=>hQ a w E ρS s qn hle R he h,λi hi=>by rw[hr]at hi;cases hi⟩
  ·rename_i r rs hr;have jy:cy .any ops.toArray fu≠[]:=by rw[hr];simp
   split at h
   ·rename_i i Gj;have hi:i∈cy .any ops.toArray fu:=by rw[hr];exact List.mem_of_find?_eq_some Gj
    split at h<;>first|exact h.elim|skip
    rename_i o ho;have zj:∀v,yR (a.put o.dst v)=Cv.put (yR a) o.dst v:=λv=>qn.mg (m5 hf ho) v
    have hg:=eH he h;have nx:∀{M:List Fw} {N:List Mon} {v:V} {y:ab},Fv N w->oA k L E M N->VR E v y->FA P H ops (gP ops []) fuel (fu.setIfInBounds i bz) M (Bp ρS o.dst v) s K->
     Df P ops.toArray (gP ops []) Q fuel N (fu.setIfInBounds i bz) (a.put o.dst y) w:=λ{M N v y} hM F1 hv hh=>
     ih _ _ _ _ _ _ _ _ (u0 hc hi) hM F1 (qn.put (m5 hf ho) _) hle R (by rw[zj];exact he.put _ hv) hh
    by_cases hw:cx o (yielded ops.toArray a.tmps)=bz
    ·rw[fh hw]at hg;split at hg<;>first|exact hg.elim|skip
     ·obtain⟨v,y,hk,hv,uv⟩:=z6k he hg;rw[vI]at uv;have hs:∀w,lI P ops.toArray o y a w:=λw=> .inl ⟨hw,uv w⟩
      exact fQ oX ho fuel N fu a w hc hi (hs w) hM (m3 hs fuel _ _ _ (nx hM F1 hv hk))
     ·cases lp:U' ρS s o.op
      ·obtain⟨v,y,hk,hv,jr⟩:=Y5 R he hg;rw[vI]at jr;simp only[lp,cond_false]at hk;have hs:lI P ops.toArray o y a w:= .inl ⟨hw,jr⟩;refine fQ oX ho fuel N fu a w hc hi hs hM (nx ?_ (.cons ?_ F1) hv hk)
       ·intro m hm;rcases jx.1 hm with rfl|hm
        ·exact hs
        ·exact hM m hm
       ·intro E' s' w' jt R' lp;obtain⟨v',y',pk,Kc,KY⟩:=Y5 R' (he.mono jt) lp;rw[vI]at KY;have:=yHf jt pk hv Kc;subst this;exact .inl ⟨hw,KY⟩
      ·obtain⟨v,y,hk,hv,jr⟩:=yIu R he lp hg;rw[vI]at jr;simp only[lp,cond_true]at hk;have hs:lI P ops.toArray o y a w:= .inl ⟨hw,jr E s w (Ev.le.refl _) R⟩;refine fQ oX ho fuel N fu a w hc hi hs hM (nx ?_ (.cons ?_ F1) hv hk)
       ·intro m hm;rcases jx.1 hm with rfl|hm
        ·exact hs
        ·exact hM m hm
       ·intro E' s' w' jt R' _;exact .inl ⟨hw,jr E' s' w' jt R'⟩
    ·rw[ez hw]at hg;have hs:∀w,lI P ops.toArray o ag a w:=λw=> .inr ⟨i9 hw,rfl⟩
     exact fQ oX ho fuel N fu a w hc hi (hs w) hM (m3 hs fuel _ _ _ (nx hM F1 (zHr E) hg))
   ·refine⟨λh0=>absurd h0 jy,λi hi=> ?_⟩;have h1:=Zr h i (by rw[<- hr];exact hi);split at h1<;>first|exact h1.elim|skip
    rename_i o ho;have zj:∀v,yR (a.put o.dst v)=Cv.put (yR a) o.dst v:=λv=>qn.mg (m5 hf ho) v
    have hg:=eH he h1;unfold EK;simp only[Bc,ho];by_cases hw:cx o (yielded ops.toArray a.tmps)=bz
    ·rw[fh hw]at hg ⊢;cases yt:WD o.op with
     |true=>
      obtain⟨t,x,lo,OQ,oG⟩:=yCi yt;obtain⟨y,HV,E',v,s',jt,R',hv,hh⟩:=z3e R he oG hg;rw[vI]at HV;rw[yt]at hh;have Dy:Fv (jZ (gP ops []) i N) w:=λm hm=>hM m (by simp only[jZ,ug]at hm;exact hm.1)
      exact wU (HV w) ⟨Dy,ih _ _ _ _ _ _ _ _ (u0 hc hi) Dy (F1.oz.mono jt) (qn.put (m5 hf ho) _) (hle.trans jt) R' (by rw[zj];exact(he.mono jt).put _ hv) hh⟩
     |false=>
     have BZ:=z4o hH R he hg;rw[vI]at BZ;refine BZ.mono ?_;rintro y w' ⟨E',v,s',jt,R',hv,hh⟩;rw[yt]at hh;obtain⟨Dy,hh⟩:=(F1.oz (bf:=gP ops []) (i:=i)).all jt R' hh;exact⟨Dy,ih _ _ _ _ _ _ _ _ (u0 hc hi) Dy (F1.oz.mono jt) (qn.put (m5 hf ho) _) (hle.trans jt) R' (by rw[zj];exact(he.mono jt).put _ hv) hh⟩
    ·rw[ez hw]at hg ⊢;have Dy:Fv (jZ (gP ops []) i N) w:=λm hm=>hM m (by simp only[jZ,ug]at hm;exact hm.1)
     exact⟨Dy,ih _ _ _ _ _ _ _ _ (u0 hc hi) Dy F1.oz (qn.put (m5 hf ho) _) hle R (by rw[zj];exact he.put _ (zHr E)) hg⟩
variable {P:af} {k:Ko} {L:List HP}
structure gr where
 ι:Type
 du:ι->List (Nat×V)
 rows:ι->List fq
 oz:Nat->Bool:=λ_=>bz
 un:Nat:=0
 oP:ι->List (Nat×V):=λ_=>[]
 lq:ι->List fq:=λ_=>[]
 lits:List (Nat×ab):=[]
 Ds:List Nat:=[]
 fr:Nat->Bool:=λ_=>cd
def gr.pn (x:gr):gr:={x with du:=x.oP,rows:=x.lq}
def OD:Code->Nat
 | .region i _ _=>i
 | .seq a _=>OD a
 | .block _ a=>OD a
 | .loop a=>OD a
 | .cond _ a _=>OD a
 |_=>0
def xHi:Code->Nat
 | .region i _ _=>4*i
 | .cond c a b=>4*OD (.cond c a b)+1
 | .seq a b=>4*OD a+2
 | .block id _=>4*id+3
 |_=>0
def y2v (n:Nat):List (Nat×gr)->Option gr
 |[]=>aw
 |(m,x)::l=>bif ax m n then av x else y2v n l
def Xj (t:Nat):List (Nat×V)->Option V
 |[]=>aw
 |(u,v)::l=>bif ax u t then av v else Xj t l
def Pr (ρ:xF):List (Nat×V)->List V
 |[]=>[]
 |(t,_)::l=>ρ t::Pr ρ l
def Rc:List (Nat×V)->List V
 |[]=>[]
 |(_,v)::l=>v::Rc l
def Xx:fq->Bool
 | .own _ _ _=>bz
 | .AJ=>bz
 | .kq _ _=>bz
 | .kj _ _ _ _ _ _=>bz
 |_=>cd
def vD (fr:Nat->Bool) (π:NM):Nat->List fq->NM
 |_,[]=>[]
 |p,o::os=>bif Xx o then vD fr π (p+1) os else bif fr p then vD fr π (p+1) os else match yD p π with
  |some n=>(p,n)::vD fr π (p+1) os
  |none=>vD fr π (p+1) os
def aX (fr:Nat->Bool) (N:Nat) (π:NM):Nat->List fq->NM
 |_,[]=>[]
 |p,o::os=>bif Xx o then(p,N+p)::aX fr N π (p+1) os else bif fr p then(p,N+p)::aX fr N π (p+1) os else match yD p π with
  |some n=>(p,n)::aX fr N π (p+1) os
  |none=>aX fr N π (p+1) os
def Iw (N:Nat) (st:NM):Nat->NM
 |0=>[]
 |p+1=>(p,(yD p st).getD (N+p))::Iw N st p
def Zz {N:Nat} {st:NM} {p q:Nat}:∀{m:Nat},yD p (Iw N st m)=av q->q=N+p\/yD p st=av q
 |0,h=>by cases h
 |m+1,h=>by
  simp only[Iw,yD]at h;cases hb:ax m p
  ·rw[hb]at h;exact Zz h
  ·rw[hb]at h;have:=jg hb;subst this;simp only[cond_true,cm]at h;cases hs:yD m st with
   |none=>rw[hs]at h;exact .inl h.symm
   |some n=>rw[hs]at h;exact .inr (by rw[<- h];rfl)
def sJ {fr:Nat->Bool} {π:NM} {p q:Nat}:∀{os:List fq} {p0:Nat},yD p (vD fr π p0 os)=av q->yD p π=av q
 |[],p0,h=>by cases h
 |o::os,p0,h=>by
  simp only[vD]at h;cases ho:Xx o<;>rw[ho]at h
  ·cases hf:fr p0<;>rw[hf]at h
   ·simp only[cond_false]at h;split at h
    ·rename_i n hn;simp only[yD]at h;cases hb:ax p0 p
     ·rw[hb]at h;exact sJ h
     ·rw[hb]at h;cases h;rw[<- jg hb];exact hn
    ·exact sJ h
   ·exact sJ h
  ·exact sJ h
def NI {fr:Nat->Bool} {N:Nat} {π:NM} {p q:Nat}:∀{os:List fq} {p0:Nat},yD p (aX fr N π p0 os)=av q->q=N+p\/yD p (vD fr π p0 os)=av q
 |[],p0,h=>by cases h
 |o::os,p0,h=>by
  simp only[aX,vD]at h ⊢;cases ho:Xx o<;>rw[ho]at h
  ·cases hf:fr p0<;>rw[hf]at h
   ·simp only[cond_false]at h ⊢;split at h
    ·rename_i n hn;simp only[yD]at h ⊢;cases hb:ax p0 p
     ·rw[hb]at h;exact NI h
     ·rw[hb]at h;exact .inr h
    ·exact NI h
   ·simp only[cond_true,cond_false,yD]at h ⊢;cases hb:ax p0 p
    ·rw[hb]at h;exact NI h
    ·rw[hb]at h;cases h;left;rw[jg hb]
  ·simp only[cond_true,yD]at h ⊢;cases hb:ax p0 p
   ·rw[hb]at h;exact NI h
   ·rw[hb]at h;cases h;left;rw[jg hb]
def NJ (ve:NM) (du:List (Nat×V)) (as:List Nat) (ρ:xF):xF:=λt=>
 match Xj t du with
 |some v=>A6 ve v
 |none=>bif rH t as then .top else ρ t
mutual
def D9 (N:Nat):V->Bool
 | .nm n _=>ay n N
 | .el n _ _ _=>ay n N
 | .own n=>ay n N
 | .na n _ _=>ay n N
 | .mp n=>ay n N
 | .sub n _=>ay n N
 | .agg l=>JP N l
 | .je l=>JP N l
 | .fn _ a b=>JP N a && JP N b
 | .zy _ x=>D9 N x
 |_=>bz
def JP (N:Nat):List V->Bool
 |[]=>bz
 |v::l=>D9 N v && JP N l
end
def y9n (N:Nat):fq->Bool
 | .cells vs _=>JP N vs
 | .uf _ _ _ _ _ _ _ (av m)=>ay m N
 |_=>bz
def PI (N:Nat):List (Nat×fq)->Bool
 |[]=>bz
 |(n,o)::l=>ay n N && y9n N o && PI N l
def kY (oz:Nat->Bool):List (Nat×fq)->List (Nat×fq)
 |[]=>[]
 |(n,o)::l=>bif oz n then(n,o)::kY oz l else kY oz l
def Lk:List (Nat×fq)->St->Prop
 |[],_=>True
 |[(n,o)],s=>match s.C1 n with
  |some o'=>o'=o
  |none=>False
 |(n,o)::l,s=>match s.C1 n with
  |some o'=>o'=o/\Lk l (s.del n)
  |none=>False
def Pf (N:Nat) (ve:NM) (rows:List fq) (kept:List (Nat×fq)):St:=⟨k0 ve 0 rows++kept,N+rows.length⟩
def NB (next:xF->St->Prop) (Q:Exit->xF->St->Prop):Exit->xF->St->Prop
 | .normal,ρ,s=>next ρ s
 |e,ρ,s=>Q e ρ s
def yRh (id:Nat) (Q:Exit->xF->St->Prop):Exit->xF->St->Prop
 | .exit FO,ρ,s=>bif ax FO id then Q .normal ρ s else Q (.exit FO) ρ s
 |e,ρ,s=>Q e ρ s
def Nw (x:gr) (i:x.ι) (π0:NM) (ρ:xF) (s:St) (K:NM->St->Prop):Prop:=
 Ei (Rc (x.du i)) (Pr ρ (x.du i)) π0 s λπ s=>IE 0 (x.rows i) π s λπ s=>bif lW (x.rows i).length π then K π s else False
def yPw (f:(Exit->xF->St->Prop)->xF->St->Prop) (Q:Exit->xF->St->Prop):Nat->xF->St->Prop
 |0,_,_=>False
 |n+1,ρ,s=>f (NB (yPw f Q n) Q) ρ s
def Pj (n:Nat) (s:St):St:=
 match s.get n with
 |some (.rh _ m iz x)=>bif az 1 m then⟨(n,(Ll (s.del n) n m (iz x)).1)::(Ll (s.del n) n m (iz x)).2.rows,(Ll (s.del n) n m (iz x)).2.nx⟩else s
 |_=>s
def Vd:List Nat->St->St
 |[],s=>s
 |n::l,s=>Vd l (Pj n s)
def zZa {w:ac} {E:Ev} {s:St} (R:Rel k L E s w) (n:Nat):∃E',E.le E'/\Rel k L E' (Pj n s) w:=by
 unfold Pj;split
 ·rename_i T m iz x hg;cases hb:az 1 m
  ·exact⟨E,Ev.le.refl _,R⟩
  ·obtain⟨E',h1,h2⟩:=(R.take hg).unfold (Cg hb);refine⟨E',h1,⟨h2.nx,?_⟩⟩;have:=h2.out;simpa using this
 ·exact⟨E,Ev.le.refl _,R⟩
def zGn {w:ac}:∀(l:List Nat) {E:Ev} {s:St} (R:Rel k L E s w),∃E',E.le E'/\Rel k L E' (Vd l s) w
 |[],E,s,R=>⟨E,Ev.le.refl _,R⟩
 |n::l,E,s,R=>by
  obtain⟨E1,h1,h2⟩:=zZa R n;obtain⟨E2,h3,h4⟩:=zGn l h2;exact⟨E2,h1.trans h3,h4⟩
def z8s:List Nat->xF->St->St
 |[],_,s=>s
 |t::ts,ρ,s=>z8s ts ρ (match ρ t with
  | .nm n 0=>Pj n s
  |_=>s)
def zZb {w:ac} {ρ:xF}:∀(l:List Nat) {E:Ev} {s:St} (R:Rel k L E s w),∃E',E.le E'/\Rel k L E' (z8s l ρ s) w
 |[],E,s,R=>⟨E,Ev.le.refl _,R⟩
 |t::ts,E,s,R=>by
  obtain⟨E1,h1,h2⟩:∃E',E.le E'/\Rel k L E' (match ρ t with
   | .nm n 0=>Pj n s
   |_=>s) w:=by
   split
   ·exact zZa R _
   ·exact⟨E,Ev.le.refl _,R⟩
  obtain⟨E2,h3,h4⟩:=zZb ts h2;exact⟨E2,h1.trans h3,h4⟩
def xFd (t:Nat) (x:ab) (ρ:xF) (s:St) (K:xF->St->Prop):Prop:=bif ay t 1000 then(match ρ t with
 | .d (.v y)=>y=x/\K (λu=>bif ax u t then .d (.v x)else ρ u) s
 |_=>False)else(match ρ (t % 1000)with
 | .nm n o=>match s.get n with
   |some (.cells vs T)=>match vs[o+t / 1000-1]? with
    |some (.d (.v y))=>y=x/\K ρ (s.set n (.cells (vs.set (o+t / 1000-1) (.d (.v x))) T))
    |_=>False
   |_=>False
 |_=>False)
def yBv:List (Nat×ab)->xF->St->(xF->St->Prop)->Prop
 |[],_,_,_=>False
 |(t,x)::l,ρ,s,K=>xFd t x ρ s K\/yBv l ρ s K
def ng (P:af) (H:BH) (J:List (Nat×gr)):List gr->Code->(Exit->xF->St->Prop)->xF->St->Prop
 |_,.skip,Q,ρ,s=>Q .normal ρ s
 |an,.seq a b,Q,ρ,s=>match y2v (xHi a) J with
  |none=>ng P H J (an.take (nL a)) a (NB (λρ s=>ng P H J (an.drop (nL a)) b Q ρ s) Q) ρ s
  |some x=>match x.Ds with
   |t0::ts=>ng P H J (an.take (nL a)) a (NB (λρ s=>ng P H J (an.drop (nL a)) b Q ρ (z8s (t0::ts) ρ s)) Q) ρ s
   |[]=>match x.lits with
   |l0::ls=>ng P H J (an.take (nL a)) a (NB (λρ s=>yBv (l0::ls) ρ s λρ s=>ng P H J (an.drop (nL a)) b Q ρ s) Q) ρ s
   |[]=>∃i0,Nw x.pn i0 [] ρ s λπ s1=>∃(I:x.ι->Prop),(bif PI s1.nx (kY x.oz s1.rows)then
    ng P H J (an.take (nL a)) a (NB (λρ' s'=>∃i',Nw x i' (vD x.fr π 0 (x.lq i0)) ρ' s' λ_ s2=>I i'/\Lk (kY x.oz s1.rows) s2) Q)
     (NJ (Iw s1.nx (vD x.fr π 0 (x.lq i0)) (x.lq i0).length) (x.oP i0) [] ρ) (Pf s1.nx (Iw s1.nx (vD x.fr π 0 (x.lq i0)) (x.lq i0).length) (x.lq i0) (kY x.oz s1.rows))/\
    ∀i,I i->ng P H J (an.drop (nL a)) b Q (NJ (Iw s1.nx (vD x.fr π 0 (x.lq i0)) (x.rows i).length) (x.du i) (um a) ρ) (Pf s1.nx (Iw s1.nx (vD x.fr π 0 (x.lq i0)) (x.rows i).length) (x.rows i) (kY x.oz s1.rows))else False)
 |an,.cond c a b,Q,ρ,s=>
  match ma ρ c with
  | .d (.v (.bool t))=>dp t (ng P H J (an.take (nL a)) a Q ρ s) (ng P H J (an.drop (nL a)) b Q ρ s)
  |_=>False
 |an,.block id a,Q,ρ,s=>ng P H J an a (yRh id Q) ρ s
 |an,.loop a,Q,ρ,s=>
  match an with
  |[]=>False
  |x::rest=>bif ay 0 x.un then yPw (λQ ρ s=>ng P H J rest a Q ρ s) Q x.un ρ s else ∃i0,Nw x i0 [] ρ s λπ s1=>∃(I:x.ι->Prop) (μ:x.ι->Nat),I i0/\(bif PI s1.nx (kY x.oz s1.rows)then
    ∀i,I i->ng P H J rest a (NB (λρ' s'=>∃i',Nw x i' (vD x.fr π 0 (x.rows i0)) ρ' s' λ_ s2=>I i'/\μ i'<μ i/\Lk (kY x.oz s1.rows) s2) Q)
     (NJ (aX x.fr s1.nx π 0 (x.rows i0)) (x.du i) (um a) ρ) (Pf s1.nx (aX x.fr s1.nx π 0 (x.rows i0)) (x.rows i) (kY x.oz s1.rows))else False)
 |_,.exit id,Q,ρ,s=>Q (.exit id) ρ s
 |_,.ret,Q,ρ,s=>Q .ret ρ s
 |_,.region _ ops d,Q,ρ,s=>bif d then FA P H ops.toList (gP ops.toList []) ops.toList.length (cr ops.toList.length cd) [] ρ s (Q .normal)
    else Rb P H ops.toList ops.toList ρ s (Q .normal)
 |_,_,_,_,_=>False
def Xw (k:Ko) (L:List HP) (n:Nat) (A:Nat->Bool) (e0:Env) (E0:Ev) (Q:Exit->xF->St->Prop):Exit->Act->ac->Prop:=λe a w=>
 Good n A e0 a/\∃E ρS s,E0.le E/\Rel k L E s w/\lj E ρS (yR a)/\Q e ρS s
mutual
theorem VR.low {F:PH} {gj oF:List Hd} {N:Nat} (h:∀n,n<N->∀hd,gj[n]? =av hd->oF[n]? =av hd):∀{v:V} {y:ab},D9 N v=bz->VR ⟨F,gj⟩ v y->VR ⟨F,oF⟩ v y
 | .top,y,hl,e=>by simp only[VR]
 | .d d,y,hl,e=>by simpa only[VR]using e
 | .nm n o,y,hl,e=>by
   simp only[D9,yk]at hl;simp only[VR]at e ⊢;obtain⟨b,oo,l,h1,h2⟩:=e;exact⟨b,oo,l,h n hl _ h1,h2⟩
 | .el n sz i f,y,hl,e=>by
   simp only[D9,yk]at hl;simp only[VR]at e ⊢;obtain⟨b,oo,m,c,l,h1,h2⟩:=e;exact⟨b,oo,m,c,l,h n hl _ h1,h2⟩
 | .re sz fa i f,y,hl,e=>by simpa only[VR]using e
 | .na n o i,y,hl,e=>by
   simp only[D9,yk]at hl;simp only[VR]at e ⊢;obtain⟨b,oo,l,h1,h2⟩:=e;exact⟨b,oo,l,h n hl _ h1,h2⟩
 | .own n,y,hl,e=>by
   simp only[D9,yk]at hl;simp only[VR]at e ⊢;obtain⟨l,h1,h2⟩:=e;exact⟨l,h n hl _ h1,h2⟩
 | .mp n,y,hl,e=>by
   simp only[D9,yk]at hl;simp only[VR]at e ⊢;obtain⟨b,l,h1,h2⟩:=e;exact⟨b,l,h n hl _ h1,h2⟩
 | .sub n i,y,hl,e=>by
   simp only[D9,yk]at hl;simp only[VR]at e ⊢;obtain⟨hd,l,b,oo,h1,h2⟩:=e;exact⟨hd,l,b,oo,h n hl _ h1,h2⟩
 | .agg l,y,hl,e=>by
   simp only[D9]at hl;simp only[VR]at e ⊢;obtain⟨ys,h1,h2⟩:=e;exact⟨ys,h1,ib.low h hl h2⟩
 | .je l,y,hl,e=>by
   simp only[D9]at hl;simp only[VR]at e ⊢;obtain⟨ys,h1,h2⟩:=e;exact⟨ys,h1,ib.low h hl h2⟩
 | .fn f a b,y,hl,e=>by
   simp only[D9,lr]at hl;simp only[VR]at e ⊢;obtain⟨as,bs,h1,h2,h3⟩:=e;exact⟨as,bs,h1,ib.low h hl.1 h2,ib.low h hl.2 h3⟩
 | .zy t x,y,hl,e=>by
   simp only[D9]at hl;simp only[VR]at e ⊢;obtain⟨z,h1,h2⟩:=e;exact⟨z,h1,VR.low h hl h2⟩
theorem ib.low {F:PH} {gj oF:List Hd} {N:Nat} (h:∀n,n<N->∀hd,gj[n]? =av hd->oF[n]? =av hd):∀{vs:List V} {l:List ab},JP N vs=bz->ib ⟨F,gj⟩ vs l->ib ⟨F,oF⟩ vs l
 |[],l,hl,e=>by simpa only[ib]using e
 |v::vs,l,hl,e=>by
  simp only[JP,lr]at hl;simp only[ib]at e ⊢;obtain⟨x,xs,h1,h2,h3⟩:=e;exact⟨x,xs,h1,VR.low h hl.1 h2,ib.low h hl.2 h3⟩
end
def fw.low {F:PH} {gj oF:List Hd} {N:Nat} (h:∀n,n<N->∀hd,gj[n]? =av hd->oF[n]? =av hd) {o:fq} (hl:y9n N o=bz) {hd:Hd} {x:PH} (e:fw F o gj hd x):fw F o oF hd x:=by
 cases o<;>first|exact e.gj rfl|skip
 ·simp only[fw]at e ⊢;obtain⟨b,l,h1,h2,h3⟩:=e;exact⟨b,l,h1,h2.low h hl,h3⟩
 ·rename_i q t sz fa i f b m;simp only[fw]at e ⊢;obtain⟨a,k,ys,xs,h1,h2,h3,h4,h5⟩:=e;refine⟨a,k,ys,xs,h1,h2,h3,?_,h5⟩;cases m with
  |none=>exact h4
  |some m=>
   simp only[y9n,yk]at hl;obtain⟨y,l,e1,e2⟩:=h4;exact⟨y,l,h m hl _ e1,e2⟩
def zWt {E:Ev} {ρS:xF} {ρ:Env} (he:lj E ρS ρ):∀l:List (Nat×V),ib E (Pr ρS l) (l.map λp=>ρ p.1)
 |[]=>by simp[Pr,ib]
 |(t,v)::l=>by simp only[Pr,jf,ib];exact⟨_,_,rfl,he t,zWt he l⟩
def z6h {F:PH} {tl:List Hd} {ρ:Env}:∀{l:List (Nat×V)},ib ⟨F,tl⟩ (Rc l) (l.map λp=>ρ p.1)->∀{t:Nat} {v:V},Xj t l=av v->VR ⟨F,tl⟩ v (ρ t)
 |[],_,t,v,h=>by cases h
 |(u,x)::l,hv,t,v,h=>by
  simp only[Rc,jf,ib]at hv;obtain⟨y,ys,e,h1,h2⟩:=hv;cases e;simp only[Xj]at h;cases hb:ax u t
  ·rw[hb]at h;exact z6h h2 h
  ·rw[hb]at h;cases h;rw[<- jg hb];exact h1
def z1q {w:ac} {E3 E4:Ev} (hF:E3.F=E4.F) {N:Nat} (CY:∀n,n<N->∀hd,E3.gj[n]? =av hd->E4.gj[n]? =av hd):∀{kept:List (Nat×fq)} {s:St} {M:List HP},Lk kept s->PI N kept=bz->
 Hp k w (s.rows.map (ic E3)++M)->Hp k w (kept.map (ic E4)++M)
 |[],s,M,_,_,H=>by
  have:∀(l:List (Nat×fq)),Hp k w (l.map (ic E3)++M)->Hp k w M:=by
   intro l
   induction l with
   |nil=>intro H;exact H
   |cons a l ih=>intro H;exact ih H.drop
  exact this _ H
 |(n,o)::kept,s,M,hk,hl,H=>by
  simp only[PI,lr,yk]at hl;have km:s.get n=av o/\Lk kept (s.del n):=by
   cases kept with
   |nil=>
    simp only[Lk]at hk;split at hk<;>first|exact hk.elim|skip
    rename_i o' ho;subst hk;exact⟨(We ho).1,trivial⟩
   |cons a l=>
    simp only[Lk]at hk;split at hk<;>first|exact hk.elim|skip
    rename_i o' ho;obtain⟨rfl,hk⟩:=hk;exact⟨(We ho).1,hk⟩
  have H1:Hp k w (ic E3 (n,o)::((s.del n).rows.map (ic E3)++M)):=by
   refine H.perm ?_;have:=((uI km.1).1.map (ic E3)).append_right M;simpa[St.del]using this
  have H2:Hp k w ((s.del n).rows.map (ic E3)++(ic E3 (n,o)::M)):=H1.perm mo.symm;have H3:=z1q hF CY km.2 hl.2 H2;refine(H3.perm mo).imp λx hx=> ?_
  rcases hx with⟨e,e2⟩|⟨hd,h1,h2⟩
  ·exact .inl ⟨e,e2⟩
  ·exact .inr ⟨hd,CY n hl.1.1 _ h1,hF▸h2.low CY hl.1.2⟩
def Vx {w:ac} {x:gr} {i:x.ι} {π0:NM} {ρS:xF} {ρ:Env} {s:St} {K:NM->St->Prop} {E:Ev} (h:Nw x i π0 ρS s K) (R:Rel k L E s w) (he:lj E ρS ρ) (RW:AE π0 E.gj):
 ∃E3 s3 π3,E.le E3/\K π3 s3/\Ext π0 π3/\AE π3 E3.gj/\E3.gj.length=s3.nx/\∀(E1:Ev) (kept:List (Nat×fq)) (N:Nat) (ρ0:xF) (as:List Nat) (ve:NM),(∀p q,yD p ve=av q->q=N+p\/(yD p π3=av q/\q<N))->E1.gj.length=N->xp E1.F E3.F->E1.gj<+:E3.gj->(∀E4:Ev,E3.F=E4.F->E1.le E4->(∀n,n<N->∀hd,E3.gj[n]? =av hd->E4.gj[n]? =av hd)->∀M,Hp k w (s3.rows.map (ic E3)++M)->Hp k w (kept.map (ic E4)++M))->(∀t,rH t as=cd->VR E1 (ρ0 t) (ρ t))->
  ∃E4,E1.le E4/\Rel k L E4 (Pf N ve (x.rows i) kept) w/\lj E4 (NJ ve (x.du i) as ρ0) ρ:=by
 unfold Nw at h;obtain⟨E2,π2,s2,q1,q2,q3⟩:=JI h R RW (zWt he _);obtain⟨E3,π3,s3,r1,r2⟩:=WH q3 q1.rel q1.wf;obtain⟨gu,hk⟩:=zM r2;have gu:=nF gu;refine⟨E3,s3,π3,q1.le.trans r1.le,hk,q1.ext.trans r1.ext,r1.wf,r1.rel.nx,?_⟩;intro E1 kept N ρ0 as ve hre hN hF MD BY ED
 let m:=(x.rows i).length
 let tl:List Hd:=(ba m).map λp=>(E3.gj[(yD p π3).getD 0]?).getD (ag,[])
 have tc:Loc π3 E3.gj tl:=by
  intro p n hp;obtain⟨hd,h'⟩:=r1.wf p n hp;refine⟨hd,h',?_⟩;show((ba m).map _)[p]? =_;rw[qt,J6 (gu p n hp)];simp only[wg,hp,zt,h']
 have IF:tl.length=m:=by simp[tl]
 let E4:Ev:=⟨E3.F,E1.gj++tl⟩
 have rj:E1.le E4:=⟨hF,J4 _ _⟩
 have KZ:∀n,n<N->∀hd,E3.gj[n]? =av hd->E4.gj[n]? =av hd:=by
  intro n hn hd e;have h1:E1.gj[n]? =av hd:=by
   rw[vd (by omega)];have:E3.gj[n]? =av (E1.gj[n]'(by omega)):=UQ MD (vd (by omega));rw[this]at e;exact e
  exact rj.get h1
 have AL:∀p n hd,yD p ve=av n->tl[p]? =av hd->E4.gj[n]? =av hd:=by
  intro p n hd hp ht;rcases hre p n hp with rfl|⟨h1,h2⟩
  ·show(E1.gj++tl)[N+p]? =av hd;rw[<- hN,Ch (by omega),show E1.gj.length+p-E1.gj.length=p by omega];exact ht
  ·obtain⟨oT,e1,e2⟩:=tc p n h1;rw[ht]at e2;cases e2;exact KZ n h2 _ e1
 refine⟨E4,rj,⟨by show(E1.gj++tl).length=N+m;rw[iv,IF,hN],?_⟩,?_⟩
 ·have H:=r1.rel.AR;have H1:=vH (g:=ic ⟨E3.F,tl⟩) (λr y hy=>by
   rcases hy with⟨e1,e2⟩|⟨n,h1,h2⟩
   ·exact .inl ⟨e1,e2⟩
   ·right;obtain⟨hd,h3,h4⟩:=h2 E3 π3 (Ev.le.refl _) (Ext.refl _) tl tc;obtain⟨oT,h5,h6⟩:=tc _ _ h1;rw[h3]at h5;cases h5;exact⟨hd,h6,h4⟩) H
  have H2:=pP (E:=⟨E3.F,tl⟩) (E2:=E4) rfl AL H1;have H3:Hp k w (s3.rows.map (ic E3)++((k0 ve 0 (x.rows i)).map (ic E4)++fz E3.F::L)):=by
   refine H2.perm ?_;rw[<- jd,<- jd];exact Bw.append_right _
  have H4:=BY E4 rfl rj KZ _ H3;refine H4.perm ?_;show(kept.map (ic E4)++((k0 ve 0 (x.rows i)).map (ic E4)++fz E3.F::L)).Perm ((k0 ve 0 (x.rows i)++kept).map (ic E4)++fz E4.F::L);rw[<- jd,jk];exact Bw.append_right _
 ·intro t;have yt:ib ⟨E3.F,tl⟩ (Rc (x.du i)) ((x.du i).map λp=>ρ p.1):=q2 E3 π3 r1.le r1.ext tl tc;unfold NJ;split
  ·rename_i v hv;exact(z6h yt hv).ve AL
  ·cases hb:rH t as
   ·exact(ED t hb).mono rj
   ·simp only[cond_true,VR]
def Wg {w:ac} {E:Ev} {oz:Nat->Bool}:∀{l:List (Nat×fq)} {M:List HP},Hp k w (l.map (ic E)++M)->Hp k w ((kY oz l).map (ic E)++M)
 |[],M,H=>H
 |(n,o)::l,M,H=>by
  simp only[kY];cases oz n
  ·exact Wg H.drop
  ·have H1:Hp k w (l.map (ic E)++(ic E (n,o)::M)):=H.perm mo.symm;exact(Wg H1).perm mo
def zYo {n:Nat} {o:fq}:∀{l:List (Nat×fq)},sY n l=av o->rL n o l=l
 |[],h=>by cases h
 |(m,p)::l,h=>by
  simp only[sY,rL]at h ⊢;cases hb:ax m n
  ·rw[hb]at h;rw[cond_false,zYo (l:=l) h]
  ·rw[hb]at h;cases h;rfl
def zYj {E:Ev} {env:Env} {K:xF->St->Prop} {s:St}:∀{l:List (Nat×ab)} {ρ:xF},yBv l ρ s K->lj E ρ env->∃ρ',lj E ρ' env/\K ρ' s
 |[],ρ,h,_=>h.elim
 |(t,x)::l,ρ,h,he=>by
  rcases h with h|h
  ·unfold xFd at h;cases OU:ay t 1000
   ·rw[OU,cond_false]at h;split at h<;>first|exact h.elim|skip
    split at h<;>first|exact h.elim|skip
    rename_i n o hn _ vs T hg;split at h<;>first|exact h.elim|skip
    rename_i y hy;obtain⟨rfl,hk⟩:=h;obtain⟨h1,h2⟩:=jm.1 hy;rw[<- h2,List.set_getElem_self]at hk;refine⟨ρ,he,?_⟩;have:s.set n (.cells vs T)=s:=by rw[St.set,zYo hg]
    rwa [this]at hk
   ·rw[OU,cond_true]at h;split at h<;>first|exact h.elim|skip
    rename_i y hy;obtain⟨rfl,hk⟩:=h;refine⟨_,λu=> ?_,hk⟩;have:=he u;cases hb:ax u t
    ·exact this
    ·rw[jg hb]at this ⊢;rw[hy]at this;exact this
  ·exact zYj h he
def z6u {H:BH} (hH:IW P H) (hm:P.follows .mixedOrders=bz) {J:List (Nat×gr)} {n:Nat}:∀(c:Code) (an:List gr) (Q:Exit->xF->St->Prop) (A:Nat->Bool) (e0:Env) (E0 E:Ev) (a:Act) (w:ac) (ρS:xF) (s:St),
 xl n c=bz->(∀t∈um c,A t=bz)->Good n A e0 a->E0.le E->Rel k L E s w->lj E ρS (yR a)->ng P H J an c Q ρS s->c.wp P (Xw k L n A e0 E0 Q) a w:=by
 intro c
 induction c with
 |skip=>intro an Q A e0 E0 E a w ρS s _ _ hg hle R he h;exact wp_skip ⟨hg,E,ρS,s,hle,R,he,h⟩
 |region id ops d=>
  intro an Q A e0 E0 E a w ρS s hc hA hg hle R he h;simp only[xl,lr]at hc;have yb:=z4b (A:=A) hc.1 hA;cases d
  ·refine wp_region_list ?_;exact zOp (Q:=Xw k L n A e0 E0 Q) (E0:=E0) (K:=Q .normal) hH (λa w E ρS s hg hle R he h=>⟨hg,E,ρS,s,hle,R,he,h⟩) ops.toList a w E ρS s yb hg hle R he h
  ·refine wp_region_any hm ?_;have oX:eR ops.toList (gP ops.toList [])=bz:=hc.2;have rl:lj E ρS (yR a):=he;have R':Rel k L E s w.drew:=⟨R.nx,R.hp.drew⟩
   refine fB (Q:=λa w=>Xw k L n A e0 E0 Q .normal a w) (λ_ _ h=>h) ops.size _ _ _ (M:=[]) (bf:=gP ops.toList []) ?_;have AY:Il ops.toList (qV (cr ops.toList.length cd)):=by
    intro i o ho hi;exfalso;unfold qV at hi;simp[CI]at hi;rw[XH]at hi;split at hi<;>simp at hi
   have:=z6c (P:=P) (K:=Q .normal) (E0:=E0) (Q:=λa w=>Xw k L n A e0 E0 Q .normal a w) hH oX yb (λa w E ρS s hg hle R he h=>⟨hg,E,ρS,s,hle,R,he,h⟩) ops.toList.length _ [] [] a _ E ρS s AY (λm hm=>by cases hm) .nil hg hle R' rl h;simpa using this
 |seq x y E7 EZ=>
  intro an Q A e0 E0 E a w ρS s hc hA hg hle R he h;simp only[xl,lr,um,oK]at hc hA;simp only[ng]at h;split at h
  ·refine wp_seq (am (E7 _ _ A e0 E0 E a w ρS s hc.1 (λt ht=>hA t (.inl ht)) hg hle R he h) ?_);rintro e a' w' ⟨qh,E',ρ',s',jt,R',rl,h'⟩;cases e<;>first|exact EZ _ _ A e0 E0 E' a' w' ρ' s' hc.2 (λt ht=>hA t (.inr ht)) qh jt R' rl h'|exact⟨qh,E',ρ',s',jt,R',rl,h'⟩
  rename_i jn hjn;split at h
  ·rename_i t0 ts hts;refine wp_seq (am (E7 _ _ A e0 E0 E a w ρS s hc.1 (λt ht=>hA t (.inl ht)) hg hle R he h) ?_);rintro e a' w' ⟨qh,E',ρ',s',jt,R',rl,h'⟩;cases e<;>first|exact⟨qh,E',ρ',s',jt,R',rl,h'⟩|skip
   obtain⟨E2,tw,R2⟩:=zZb (ρ:=ρ') (t0::ts) R';exact EZ _ _ A e0 E0 E2 a' w' ρ' _ hc.2 (λt ht=>hA t (.inr ht)) qh (jt.trans tw) R2 (rl.mono tw) h'
  split at h
  ·rename_i l0 ls Sj;refine wp_seq (am (E7 _ _ A e0 E0 E a w ρS s hc.1 (λt ht=>hA t (.inl ht)) hg hle R he h) ?_);rintro e a' w' ⟨qh,E',ρ',s',jt,R',rl,h'⟩;cases e<;>first|exact⟨qh,E',ρ',s',jt,R',rl,h'⟩|skip
   obtain⟨ρ2,OS,h2⟩:=zYj h' rl;exact EZ _ _ A e0 E0 E' a' w' ρ2 s' hc.2 (λt ht=>hA t (.inr ht)) qh jt R' OS h2
  ·obtain⟨i0,h⟩:=h;obtain⟨E1,s1,π1,xg,⟨I,tx⟩,_,F8,Kh,hmk⟩:=Vx (x:=jn.pn) h R he (λp n e=>by cases e);obtain⟨CY,Uo,BW⟩:=zM tx;have CX:∀p q,yD p (vD jn.fr π1 0 (jn.lq i0))=av q->yD p π1=av q/\q<s1.nx:=λp q e=>by
    have h1:=sJ e;obtain⟨hd,h2⟩:=F8 p q h1;exact⟨h1,by rw[<- Kh];exact(jm.1 h2).1⟩
   have DM:∀t,rH t []=cd->VR E1 (ρS t) (yR a t):=λt _=>(he t).mono xg
   obtain⟨E2,tw,R2,OS⟩:=hmk E1 (kY jn.oz s1.rows) s1.nx ρS [] (Iw s1.nx (vD jn.fr π1 0 (jn.lq i0)) (jn.lq i0).length) (λp q e=>(Zz e).imp_right (CX p q)) Kh (xp.refl _) (J1 _) (λE4 _ rj _ M H=>vH (λr y=>ic.mono rj r) (Wg H)) DM;have Sr:Good n (λt=>A t && rH t (um x)) (yR a) a:=⟨hg.size,hg.defers,λ_ _=>rfl⟩
   refine wp_seq (am (E7 _ _ (λt=>A t && rH t (um x)) (yR a) E2 E2 a w _ _ hc.1 (λt ht=>by rw[hA t (.inl ht),sc.2 ht];rfl) Sr (Ev.le.refl _) R2 OS Uo) ?_);rintro e a2 w2 ⟨Az,E3,ρ3,s3,AN,R3,Sy,h2⟩;have Kk:Good n A e0 a2:=⟨Az.size,Az.defers,λt ht=>by rw[Az.same t (by simp[ht]),hg.same t ht]⟩
   have Ge:E0.le E3:=hle.trans (xg.trans (tw.trans AN));cases e<;>first|exact⟨Kk,E3,ρ3,s3,Ge,R3,Sy,h2⟩|skip
   obtain⟨i',h2⟩:=h2;have XZ:AE (vD jn.fr π1 0 (jn.lq i0)) E3.gj:=λp q e=>by
    obtain⟨hd,h2⟩:=F8 p q (CX p q e).1;exact⟨hd,(tw.trans AN).get h2⟩
   obtain⟨E4,s4,π4,rj,⟨Gh,BY⟩,Gk,_,hn4,MG⟩:=Vx h2 R3 Sy XZ;have DL:∀t,rH t (um x)=cd->VR E1 (ρS t) (yR a2 t):=λt ht=>by rw[Az.same t (by simp[ht])];exact(he t).mono xg
   obtain⟨E5,MI,R5,he5⟩:=MG E1 (kY jn.oz s1.rows) s1.nx ρS (um x) (Iw s1.nx (vD jn.fr π1 0 (jn.lq i0)) (jn.rows i').length) (λp q e=>(Zz e).imp_right λh=>⟨Gk p q h,(CX p q h).2⟩) Kh (tw.trans (AN.trans rj)).1 (tw.trans (AN.trans rj)).2
    (λE6 hF _ hl M H=>z1q (E3:=E4) (E4:=E6) hF hl BY CY H) DL
   exact EZ _ _ A e0 E0 E5 a2 w2 _ _ hc.2 (λt ht=>hA t (.inr ht)) Kk (hle.trans (xg.trans MI)) R5 he5 (BW i' Gh)
 |cond c x y E7 EZ=>
  intro an Q A e0 E0 E a w ρS s hc hA hg hle R he h;simp only[xl,lr,um,oK]at hc hA;simp only[ng]at h;split at h<;>first|exact h.elim|skip
  rename_i t ht;have hv:=he.ev c;rw[ht]at hv;simp only[VR,DR]at hv;have Be:=hv.1;rw[vI]at Be;refine wp_cond_split Be (λe=> ?_) (λe=> ?_)
  ·subst e;exact E7 _ _ A e0 E0 E a w ρS s hc.1 (λt ht=>hA t (.inl ht)) hg hle R he h
  ·subst e;exact EZ _ _ A e0 E0 E a w ρS s hc.2 (λt ht=>hA t (.inr ht)) hg hle R he h
 |block id x ih=>
  intro an Q A e0 E0 E a w ρS s hc hA hg hle R he h;refine wp_block (am (ih an _ A e0 E0 E a w ρS s hc hA hg hle R he h) ?_);rintro e a' w' ⟨qh,E',ρ',s',jt,R',rl,h'⟩;cases e<;>first|exact⟨qh,E',ρ',s',jt,R',rl,h'⟩|skip
  rename_i FO;simp only[Exit.inBlock];simp only[yRh]at h';split
  ·rename_i heq;subst heq;rw[Nat.beq_refl]at h';exact⟨qh,E',ρ',s',jt,R',rl,h'⟩
  ·rename_i jy;have hb:ax FO id=cd:=by
    cases hb:ax FO id with
    |false=>rfl
    |true=>exact absurd (jg hb) jy
   rw[hb]at h';exact⟨qh,E',ρ',s',jt,R',rl,h'⟩
 |loop x ih=>
  intro an Q A e0 E0 E a w ρS s hc hA hg hle R he h;cases an with
  |nil=>exact h.elim
  |cons an rest=>
   have hh:=cB h;clear h;rcases hh with⟨_,h⟩|⟨_,h⟩
   ·refine wp_loop_rounds an.un ?_;revert h;generalize an.un=m;intro h
    induction m generalizing a w E ρS s with
    |zero=>exact h.elim
    |succ m ihm=>
     rw[rounds_succ];simp only[yPw]at h;refine am (ih rest _ A e0 E0 E a w ρS s hc hA hg hle R he h) ?_;rintro e a' w' ⟨qh,E',ρ',s',jt,R',rl,h'⟩;cases e<;>first|exact ihm E' a' w' ρ' s' qh jt R' rl h'|exact⟨qh,E',ρ',s',jt,R',rl,h'⟩
   obtain⟨i0,h⟩:=h;obtain⟨E1,s1,π1,xg,⟨I,μ,Ui,tx⟩,_,F8,Kh,hmk⟩:=Vx h R he (λp n e=>by cases e);obtain⟨CY,tx⟩:=zM tx;have CX:∀p q,yD p (vD an.fr π1 0 (an.rows i0))=av q->yD p π1=av q/\q<s1.nx:=λp q e=>by
    have h1:=sJ e;obtain⟨hd,h2⟩:=F8 p q h1;exact⟨h1,by rw[<- Kh];exact(jm.1 h2).1⟩
   have DM:∀t,rH t (um x)=cd->VR E1 (ρS t) (yR a t):=λt _=>(he t).mono xg
   obtain⟨E2,tw,R2,OS⟩:=hmk E1 (kY an.oz s1.rows) s1.nx ρS (um x) (aX an.fr s1.nx π1 0 (an.rows i0)) (λp q e=>(NI e).imp_right (CX p q)) Kh (xp.refl _) (J1 _) (λE4 _ rj _ M H=>vH (λr y=>ic.mono rj r) (Wg H)) DM;refine wp_loop_ghost (λm a' w'=>Good n A e0 a'/\(∀t,rH t (um x)=cd->yR a' t=yR a t)/\∃i E',E1.le E'/\I i/\Rel k L E' (Pf s1.nx (aX an.fr s1.nx π1 0 (an.rows i0)) (an.rows i) (kY an.oz s1.rows)) w'/\
    lj E' (NJ (aX an.fr s1.nx π1 0 (an.rows i0)) (an.du i) (um x) ρS) (yR a')/\μ i=m) (μ i0) ⟨hg,λ_ _=>rfl,i0,E2,tw,Ui,R2,OS,rfl⟩ ?_
   rintro m a' w' ⟨qh,ED,i,E',jt,hinv,R',rl,rfl⟩;have h1:=tx i hinv;have Sr:Good n (λt=>A t && rH t (um x)) (yR a') a':=⟨qh.size,qh.defers,λ_ _=>rfl⟩
   refine am (ih rest _ (λt=>A t && rH t (um x)) (yR a') E' E' a' w' _ _ hc (λt ht=>by rw[hA t ht,sc.2 ht];rfl) Sr (Ev.le.refl _) R' rl h1) ?_;rintro e a2 w2 ⟨Az,E3,ρ3,s3,AN,R3,Sy,h2⟩;have Kk:Good n A e0 a2:=⟨Az.size,Az.defers,λt ht=>by rw[Az.same t (by simp[ht]),qh.same t ht]⟩
   have Ge:E0.le E3:=hle.trans (xg.trans (jt.trans AN));cases e<;>first|exact⟨Kk,E3,ρ3,s3,Ge,R3,Sy,h2⟩|skip
   obtain⟨i',h2⟩:=h2;have XZ:AE (vD an.fr π1 0 (an.rows i0)) E3.gj:=λp q e=>by
    obtain⟨hd,h2⟩:=F8 p q (CX p q e).1;exact⟨hd,(jt.trans AN).get h2⟩
   obtain⟨E4,s4,π4,rj,⟨Gh,hμ,BY⟩,Gk,_,hn4,MG⟩:=Vx h2 R3 Sy XZ;have DL:∀t,rH t (um x)=cd->yR a2 t=yR a t:=λt ht=>by rw[Az.same t (by simp[ht]),ED t ht]
   obtain⟨E5,MI,R5,he5⟩:=MG E1 (kY an.oz s1.rows) s1.nx ρS (um x) (aX an.fr s1.nx π1 0 (an.rows i0)) (λp q e=>(NI e).imp_right λh=>⟨Gk p q h,(CX p q h).2⟩) Kh (jt.trans (AN.trans rj)).1 (jt.trans (AN.trans rj)).2
    (λE6 hF _ hl M H=>z1q (E3:=E4) (E4:=E6) hF hl BY CY H) (λt ht=>by rw[DL t ht];exact DM t ht)
   exact⟨_,hμ,Kk,DL,i',E5,MI,Gh,R5,he5,rfl⟩
 |exit id=>intro an Q A e0 E0 E a w ρS s _ _ hg hle R he h;exact wp_exit ⟨hg,E,ρS,s,hle,R,he,h⟩
 |ret=>intro an Q A e0 E0 E a w ρS s _ _ hg hle R he h;exact wp_ret ⟨hg,E,ρS,s,hle,R,he,h⟩
 |rangeFunc f ps x y E7 EZ=>intro an Q A e0 E0 E a w ρS s _ _ hg hle R he h;exact h.elim
 |scope x ih=>intro an Q A e0 E0 E a w ρS s _ _ hg hle R he h;exact h.elim
 |label l=>intro an Q A e0 E0 E a w ρS s _ _ hg hle R he h;exact h.elim
 |goto l=>intro an Q A e0 E0 E a w ρS s _ _ hg hle R he h;exact h.elim
 |refuse t=>intro an Q A e0 E0 E a w ρS s _ _ hg hle R he h;exact h.elim
variable {P:af} {k:Ko} {L:List HP}
def Is (P:af) (ρ:xF) (s:St):List ResultVar->Option (List V)
 |[]=>av []
 | .tmp t::rs=>match Is P ρ s rs with
   |some vs=>av (ρ t::vs)
   |none=>aw
 | .cell a t::rs=>match ρ a with
   | .nm n off=>match s.get n with
     |some (.cells vs _)=>match Xn P t vs off with
      |some v=>match Is P ρ s rs with
       |some us=>av (v::us)
       |none=>aw
      |none=>aw
     |_=>aw
   |_=>aw
def Nv:List V->V
 |[v]=>v
 |vs=> .je vs
def zHa {E:Ev} {s:St} {w:ac} (R:Rel k L E s w) {ρS:xF} {a:Act} (he:lj E ρS (yR a)):∀{rs:List ResultVar} {vs:List V},Is P ρS s rs=av vs->∃ys,(rs.mapM (It a.tmps)).run P w= .ok ys w/\ib E vs ys
 |[],vs,h=>by
  simp only[Is,cm]at h;subst h;exact⟨[],rfl,ib.nil⟩
 | .tmp t::rs,vs,h=>by
   simp only[Is]at h;split at h<;>first|(cases h;done)|skip
   rename_i us R6;cases h;obtain⟨ys,h1,h2⟩:=zHa R he R6;refine⟨yR a t::ys,?_,by simp only[ib];exact⟨_,_,rfl,he t,h2⟩⟩;simp only[bg,It,bind,pure,run_bind,cw,cu]at h1 ⊢;rw[h1]
 | .cell c t::rs,vs,h=>by
   simp only[Is]at h;split at h<;>first|(cases h;done)|skip
   rename_i n off hc;split at h<;>first|(cases h;done)|skip
   rename_i cs T hg;split at h<;>first|(cases h;done)|skip
   rename_i v hp;split at h<;>first|(cases h;done)|skip
   rename_i us R6;cases h;obtain⟨ys,h1,h2⟩:=zHa R he R6;have hv:=he c;rw[hc]at hv;simp only[VR]at hv;obtain⟨b,oo,l,e1,e2⟩:=hv;obtain⟨b',l',sub,q1,q2,q3⟩:=R.cells hg;rw[e1]at q1;cases q1;obtain⟨y,hy,hh⟩:=zOt q2 q3 hp;refine⟨y::ys,?_,by simp only[ib];exact⟨_,_,rfl,hy,h2⟩⟩;rw[nq]at e2;have e2':a.tmps.getD c ag= .pointer (av ⟨b,off,aw⟩):=e2;unfold pY at hh;simp only[bg,It,bind,pure,run_bind,cw,cu,e2',asAddr,hh]at h1 ⊢;rw[h1]
def Yj (P:af) (fn:Func) (K:V->St->Prop):Exit->xF->St->Prop
 | .normal,ρ,s=>iD (Is P ρ s fn.results.toList) λvs=>K (Nv vs) s
 | .ret,ρ,s=>iD (Is P ρ s fn.results.toList) λvs=>K (Nv vs) s
 |_,_,_=>False
def Rm:List V->Nat->V
 |[],_=> .top
 |v::_,0=>v
 |_::l,n+1=>Rm l n
def Pq (args:List V):xF:=λt=>Rm args t
def yHi {E:Ev}:∀{vs:List V} {ys:List ab},ib E vs ys->∀t,VR E (Rm vs t) (ys.getD t ag)
 |[],ys,h,t=>by simp only[Rm,VR]
 |v::vs,ys,h,t=>by
  simp only[ib]at h;obtain⟨x,xs,rfl,h1,h2⟩:=h;cases t with
  |zero=>exact h1
  |succ t=>simpa[Rm]using yHi h2 t
def pD {f:aq} {args:Array ab} {w:ac} {K:ab->ac->Prop} (hb:gU P f=bz) (h:Calls P f args w λe w'=>∃v,e= .returned v/\K v w'):nk P (aj f args) w K:=by
 unfold gU at hb;split at hb
 ·rename_i fn FX;simp only[lr,Dp,Bool.not_eq_eq_eq_not,Bool.not_true]at hb;unfold nk;have:(aj f args).run P w= .ok (.enter f args) w:=by
   simp only[aj,bind,pure,run_bind,program,cu,cw,FX,hb.1,hb.2,oR,if_false]
  rw[this];exact h
 ·cases hb
def zBl {H:BH} (hH:IW P H) (hm:P.follows .mixedOrders=bz) {f:aq} {fn:Func} {c:Code} (hf:P.funcs[f]? =av fn) (hb:fn.body=av c) (oX:xl fn.ntmps c=bz) (J:List (Nat×gr)) (an:List gr)
 {args:List V} (pg:az args.length fn.ntmps=bz) {K:V->St->Prop} {s:St} (h:ng P H J an c (Yj P fn K) (Pq args) s) {E:Ev} {w:ac} {ys:List ab} (R:Rel k L E s w) (hv:ib E args ys):
 Calls P f ys.toArray w λe w'=>∃v,e= .returned v/\ph k L E K v w':=by
 refine calls_of_wp hf hb ?_;have pg:=Cg pg;have hlen:=hv.length;have hg:Good fn.ntmps (λ_=>bz) (gF ys) {tmps:=ys.toArray++cr (fn.ntmps-ys.toArray.size) ag,defers:=[]}:=
  ⟨by simp;omega,rfl,λs hs=>by cases hs⟩
 have MJ:yR {tmps:=ys.toArray++cr (fn.ntmps-ys.toArray.size) ag,defers:=[]}=gF ys:=by
  funext i;simp only[yR,gF,CI,mu,Array.getElem?_append];split
  ·simp
  ·rename_i gu;simp at gu;rw[ui gu,XH];split<;>rfl
 have he:lj E (Pq args) (yR {tmps:=ys.toArray++cr (fn.ntmps-ys.toArray.size) ag,defers:=[]}):=by
  rw[MJ];intro t;exact yHi hv t
 refine am (z6u hH hm c an _ (λ_=>bz) (gF ys) E E _ w _ s oX (λ_ _=>rfl) hg (Ev.le.refl _) R he h) ?_;have fin:∀{a':Act} {w':ac} {E':Ev} {ρ':xF} {s':St},Good fn.ntmps (λ_=>bz) (gF ys) a'->E.le E'->Rel k L E' s' w'->lj E' ρ' (yR a')->(iD (Is P ρ' s' fn.results.toList) λvs=>K (Nv vs) s')->
  ∃v,(results fn a'.tmps).run P w'= .ok v w'/\∃v',Ending.returned v= .returned v'/\ph k L E K v' w':=by
  intro a' w' E' ρ' s' qh jt R' rl h';obtain⟨vs,hvs,hk⟩:=zN h';obtain⟨zs,h1,h2⟩:=zHa R' rl hvs;refine⟨Ij zs,?_,_,rfl,E',Nv vs,s',jt,R',?_,hk⟩
  ·unfold results;rw[Array.mapM_eq_mapM_toList,map_eq_pure_bind,bind_assoc];exact zOx h1 _ (λr=>by cases r<;>rfl)
  ·rcases vs with _|⟨v,_|⟨u,vs⟩⟩
   ·simp only[ib]at h2;subst h2;simp only[Nv,Ij,VR];exact⟨[],rfl,ib.nil⟩
   ·simp only[ib]at h2;obtain⟨x,xs,rfl,h3,rfl⟩:=h2;exact h3
   ·have h20:=h2;simp only[ib]at h2;obtain⟨x,xs,rfl,h3,y,Ea,rfl,h4,h5⟩:=h2;simp only[Nv,Ij,VR];exact⟨_,rfl,h20⟩
 rintro e a' w' ⟨qh,E',ρ',s',jt,R',rl,h'⟩;cases e<;>first|exact h'.elim|skip
 ·obtain⟨v,h1,h2⟩:=fin qh jt R' rl h';exact⟨qh.defers,v,h1,h2⟩
 ·obtain⟨v,h1,h2⟩:=fin qh jt R' rl h';exact⟨qh.defers,v,h1,h2⟩
def zEw {H:BH} (hH:IW P H) (hm:P.follows .mixedOrders=bz) {f:aq} {fn:Func} {c:Code} (hf:P.funcs[f]? =av fn) (hb:fn.body=av c) (BD:gU P f=bz) (oX:xl fn.ntmps c=bz) (J:List (Nat×gr)) (an:List gr)
 {args:List V} (pg:az args.length fn.ntmps=bz) {K:V->St->Prop} {s:St} (h:ng P H J an c (Yj P fn K) (Pq args) s) {E:Ev} {w:ac} {ys:List ab} (R:Rel k L E s w) (hv:ib E args ys):
 nk P (aj f ys.toArray) w (ph k L E K):=pD BD (zBl hH hm hf hb oX J an pg h R hv)
def E0 (w:ac):Ev:=⟨λb=>w.heap[b]?,[]⟩
def xIn (w:ac) (hG:EG λb=>w.heap[b]?):Rel (Cv.ko w) [] (E0 w) ⟨[],0⟩ w:=⟨rfl,(Hp.start w).imp λx hx=>⟨hx,hG⟩⟩
def xFl (f:Nat):List (Nat×gh)->Option gh
 |[]=>aw
 |(g,C)::l=>bif ax g f then av C else xFl f l
def zf (P:af):List (Nat×gh)->Prop
 |[]=>True
 |(f,C)::l=>C.ok P f/\zf P l
def Rj (f:Nat):List (Nat×gh)->Bool
 |[]=>cd
 |(g,_)::l=>bif ax g f then bz else Rj f l
def Nz (f:Nat) (args:List V) (s:St) (K:V->St->Prop):List (Nat×gh)->Prop
 |[]=>False
 |(g,C)::l=>bif ax g f then(bif Rj f l then C.call args s K\/Nz f args s K l else C.call args s K)else Nz f args s K l
def Wc {f:Nat} {args:List V} {s:St} {K:V->St->Prop}:∀{G:List (Nat×gh)},zf P G->Nz f args s K G->∃C:gh,C.ok P f/\C.call args s K
 |[],_,h=>h.elim
 |(g,C)::l,hG,h=>by
  simp only[Nz]at h;cases hb:ax g f with
  |false=>rw[hb]at h;exact Wc hG.2 h
  |true=>
   rw[hb]at h;have e:=jg hb;subst e;cases hl:Rj g l with
   |false=>rw[hl]at h;exact⟨C,hG.1,h⟩
   |true=>
    rw[hl]at h;rcases h with h|h
    ·exact⟨C,hG.1,h⟩
    ·exact Wc hG.2 h
def qz (P:af) (G:List (Nat×gh)):Nat->BH
 |0,f,args,s,K=>match Rj f G with
  |true=>Nz f args s K G
  |false=>False
 |d+1,f,args,s,K=>match Rj f G with
  |true=>Nz f args s K G
  |false=>match P.funcs[f]? with
   |some fn=>match fn.body with
    |some c=>bif gU P f && xl fn.ntmps c && az args.length fn.ntmps then ng P (qz P G d) [] [] c (Yj P fn K) (Pq args) s else False
    |none=>False
   |none=>False
def yPc (hm:P.follows .mixedOrders=bz) {G:List (Nat×gh)} (hG:zf P G):∀d,IW P (qz P G d):=by
 intro d
 induction d with
 |zero=>
  intro f args s K h k L E w ys R hv;simp only[qz]at h;split at h<;>first|exact h.elim|skip
  obtain⟨C,h1,h2⟩:=Wc hG h;exact gh.yj h1 h2 R hv
 |succ d ih=>
  intro f args s K h k L E w ys R hv;simp only[qz]at h;split at h
  ·obtain⟨C,h1,h2⟩:=Wc hG h;exact gh.yj h1 h2 R hv
  ·split at h<;>first|exact h.elim|skip
   rename_i fn FX;split at h<;>first|exact h.elim|skip
   rename_i c hc;obtain⟨hb,h⟩:=zM h;simp only[lr]at hb;exact zEw ih hm FX hc hb.1.1 hb.1.2 [] [] hb.2 h R hv
def LQ:Nat->NM
 |0=>[]
 |m+1=>(m,m)::LQ m
def z7r:∀{m p:Nat},p<m->yD p (LQ m)=av p
 |m+1,p,h=>by
  simp only[LQ,yD];cases hb:ax m p
  ·have:m≠p:=λe=>by subst e;simp at hb
   exact z7r (by omega)
  ·rw[<- jg hb];rfl
def zIq:∀{m p q:Nat},yD p (LQ m)=av q->p<m/\q=p
 |0,p,q,h=>by cases h
 |m+1,p,q,h=>by
  simp only[LQ,yD]at h;cases hb:ax m p
  ·rw[hb]at h;obtain⟨h1,h2⟩:=zIq h;exact⟨by omega,h2⟩
  ·rw[hb]at h;have:=jg hb;simp only[cond_true,cm]at h;exact⟨by omega,by omega⟩
def WZ (m:Nat) (v:V) (s:St) (a:Alt):Prop:=
 ∃o,Cj (a.res o) v (LQ m) s λπ s=>IE 0 (a.post o) π s λπ _=>bif lW (a.post o).length π && az m (a.post o).length then a.rel o else False
def W4 (m:Nat) (v:V) (s:St):List Alt->Prop
 |[]=>False
 |[a]=>WZ m v s a
 |a::l=>WZ m v s a\/W4 m v s l
def VQ {m:Nat} {v:V} {s:St}:∀{l:List Alt},W4 m v s l->∃a∈l,WZ m v s a
 |[a],h=>⟨a,by simp,h⟩
 |a::b::l,h=>by
  rcases h with h|h
  ·exact⟨a,by simp,h⟩
  ·obtain⟨c,h1,h2⟩:=VQ h;exact⟨c,ji _ h1,h2⟩
def YI {w:ac} {m:Nat} {v:V} {s:St} {a:Alt} {E0 E:Ev} (h:WZ m v s a) (hn:E0.gj.length=m) (hle:E0.le E) (R:Rel k L E s w) {y:ab} (hv:VR E v y):
 ∃o,a.rel o/\∃E',E0.le E'/\VR E' (a.res o) y/\Rel k L E' ⟨gZ 0 (a.post o),(a.post o).length⟩ w:=by
 obtain⟨o,h⟩:=h;have Bg:AE (LQ m) E.gj:=λp n e=>by
  obtain⟨h1,rfl⟩:=zIq e;exact⟨E0.gj[n]'(by omega),hle.get (vd (by omega))⟩
 obtain⟨E1,π1,s1,q1,q2,q3⟩:=yAg h R Bg hv;obtain⟨E2,π2,s2,r1,r2⟩:=WH q3 q1.rel q1.wf;obtain⟨hb,MB⟩:=zM r2;simp only[lr]at hb;have gu:=nF hb.1;have hmq:=Cg hb.2
 let q:=(a.post o).length
 let tl:List Hd:=(ba q).map λp=>(E2.gj[(yD p π2).getD 0]?).getD (ag,[])
 have km:∀p,p<q->tl[p]? =av ((E2.gj[(yD p π2).getD 0]?).getD (ag,[])):=λp hp=>by
  show((ba q).map _)[p]? =_;rw[qt,J6 hp];rfl
 have tc:Loc π2 E2.gj tl:=by
  intro p n hp;obtain⟨hd,h'⟩:=r1.wf p n hp;refine⟨hd,h',?_⟩;rw[km p (gu p n hp)];simp only[hp,zt,h']
 have tw:E0.le E2:=hle.trans (q1.le.trans r1.le);have MD:E0.gj<+:tl:=by
  refine⟨tl.drop m,?_⟩;apply Dn;intro p;by_cases hp:p<m
  ·rw[Eg (by omega)];have zb:yD p π2=av p:=r1.ext _ _ (q1.ext _ _ (z7r hp));have e1:E0.gj[p]? =av (E0.gj[p]'(by omega)):=vd (by omega);rw[km p (by omega),zb,zt,tw.get e1,e1];rfl
  ·rw[Ch (by omega),Bu,hn,show m+(p-m)=p by omega]
 refine⟨o,MB,⟨E2.F,tl⟩,⟨tw.1,MD⟩,q2 E2 π2 r1.le r1.ext tl tc,⟨by simp[tl,q],?_⟩⟩;have H:=r1.rel.AR;have H1:=vH (g:=ic ⟨E2.F,tl⟩) (λr x hx=>by
  rcases hx with⟨e1,e2⟩|⟨n,h1,h2⟩
  ·exact .inl ⟨e1,e2⟩
  ·right;obtain⟨hd,h3,h4⟩:=h2 E2 π2 (Ev.le.refl _) (Ext.refl _) tl tc;obtain⟨oT,h5,h6⟩:=tc _ _ h1;rw[h3]at h5;cases h5;exact⟨hd,h6,h4⟩) H
 have H2:Hp k w (s2.rows.map (ic E2)++((gZ 0 (a.post o)).map (ic ⟨E2.F,tl⟩)++fz E2.F::L)):=by
  refine H1.perm ?_;rw[<- jd,<- jd];exact Bw.append_right _
 have Ul:∀(l:List (Nat×fq)) {M:List HP},Hp k w (l.map (ic E2)++M)->Hp k w M:=by
  intro l
  induction l with
  |nil=>intro M H;exact H
  |cons a l ih=>intro M H;exact ih H.drop
 exact Ul _ H2
def walk (P:af) (G:List (Nat×gh)) (d:Nat) (J:List (Nat×gr)) (an:List gr) (op:List Nat) (fn:Func) (c:Code) (args:List V) (rows:List fq) (alts:List Alt):Prop:=
 ng P (qz P G d) J an c (Yj P fn λv s=>W4 rows.length v s alts) (Pq args) (Vd op ⟨gZ 0 rows,rows.length⟩)
def qY (hm:P.follows .mixedOrders=bz) {f:aq} {fn:Func} {c:Code} {C:gh} (G:List (Nat×gh)) (hG:zf P G) (d:Nat) (J:C.ι->List (Nat×gr)) (an:C.ι->List gr) (op:List Nat) (hf:P.funcs[f]? =av fn) (hb:fn.body=av c) (BD:gU P f=bz) (oX:xl fn.ntmps c=bz)
 (pg:∀i,az (C.pat i).length fn.ntmps=bz) (h:∀i,C.dp i->walk P G d (J i) (an i) op fn c (C.pat i) (C.pre i) (C.alts i)):C.ok P f:=by
 intro i hc k L E w ys R hv;obtain⟨E1,hle,R1⟩:=zGn op R;refine(zEw (yPc hm hG d) hm hf hb BD oX (J i) (an i) (pg i) (h i hc) R1 (hv.mono hle)).mono ?_;rintro y w' ⟨E',v,s',jt,R',Kc,hk⟩;obtain⟨a,ha,F9⟩:=VQ hk;obtain⟨o,h1,E2,h2,h3,h4⟩:=YI F9 R.nx (hle.trans jt) R' Kc;exact⟨a,ha,o,h1,E2,h2,h3,h4⟩
def v7 (t:ak):gh where
 ι:=List (ab×List D)
 pat:=λ_=>[.zy t (.mp 0)]
 pre:=λes=>[.map es]
 dp:=λ_=>True
 alts:=λes=>[{o:=Unit,res:=λ_=> .zy t (.mp 1),post:=λ_=>[.map es,.map es],rel:=λ_=>True}]
def z9y {f : FuncId} {fn : Func} (hf : P.funcs[f]? = some fn) (BX : (fn.name == "runtime.NumGoroutine") = false) (hb : fn.body.isNone = true) (hn : Extern.findNext fn = none) (he : Extern.find fn = some Extern.MapsClone.clone) (t : TypeId) : (v7 t).ok P f := by
 intro es _ k L E w ys R hv;simp only[v7,ib,VR]at hv;obtain⟨y,_,rfl,⟨z,rfl,b,sub,e1,rfl⟩,rfl⟩:=hv;have hg:(⟨gZ 0 [.map es],1⟩:St).get 0=av (.map es):=rfl;obtain⟨hd,x,q1,q2,q3⟩:=R.row hg (by simp);rw[e1]at q1;cases q1;simp only[fw]at q2;obtain⟨b',fy,ck,e4,e5,e6,rfl⟩:=q2;cases e4;have hm:=q3 b _ (by simp[one];rfl);have jr:(Extern.MapsClone.clone #[.iface t (.map (av b))]).run P w= .ok (.iface t (.map (av w.heap.size))) (w.alloc (.map fy.toArray ck)):=by
  have e:Extern.MapsClone.clone #[.iface t (.map (av b))]=(getObj b>>=λo=>match o with
   | .map entries clock=>(newObj (.map entries clock)>>=λn=>pure (.iface t (.map (av n))))
   | _ => stuck "maps.clone: a map expected") := rfl
  rw[e];simp only[bind,run_bind,qX hm trivial];rfl
 unfold nk;rw[run_callFunc_extern hf BX hb hn he,jr];simp only[Result.andThen];have Nc:fw E.F (.map es) (E.gj++[(.map (av w.heap.size),[])]) (.map (av w.heap.size),[]) (one w.heap.size (.map fy.toArray ck)):=by
  simp only[fw];exact⟨_,fy,ck,rfl,e5,e6,rfl⟩
 obtain⟨h1,h2,h3⟩:=R.new Nc;refine⟨_,ua.2 rfl,(),trivial,_,h1,by simp only[VR];exact⟨_,rfl,_,_,h3,rfl⟩,⟨h2.nx,h2.hp.perm ?_⟩⟩;exact .swap _ _ _
def zZu {E:Ev} {s:St} {w w':ac} (hle:(E0 w).le E) (R:Rel (Cv.ko w) [] E s w'):Below w.heap.size w w':=by
 have HV:=R.frozen;obtain⟨h1,h2,h3⟩:=R.hp.1;have Tq:∀b,b<w.heap.size->w'.heap[b]? =w.heap[b]? :=λb hb=>by
  have:w.heap[b]? =av w.heap[b]:=RH hb;rw[this];exact HV b _ (hle.1 b _ this)
 refine⟨h1,h2,h3,?_,Tq⟩;rcases uz w'.heap.size w.heap.size with gu|Me
 ·have:=Tq w'.heap.size gu;rw[HH (ju _),RH gu]at this;cases this
 ·exact Me
def zp (hm:P.follows .mixedOrders=bz) {f:aq} {fn:Func} {c:Code} (G:List (Nat×gh)) (hG:zf P G) (d:Nat) (J:List (Nat×gr)) (an:List gr) (hf:P.funcs[f]? =av fn) (hb:fn.body=av c) (oX:xl fn.ntmps c=bz)
 {args:List V} {alts:List Alt} (pg:az args.length fn.ntmps=bz) (h:walk P G d J an [] fn c args [] alts) {w:ac} (hG0:EG λb=>w.heap[b]?) {ys:List ab} (hv:ib (E0 w) args ys):
 Calls P f ys.toArray w λe w'=>∃y,e= .returned y/\Below w.heap.size w w'/\∃a∈alts,∃o,a.rel o/\∃E',VR E' (a.res o) y:=by
 refine(zBl (yPc hm hG d) hm hf hb oX J an pg h (xIn w hG0) hv).mono ?_;rintro e w' ⟨y,he,E',v,s',hle,R,RY,hk⟩;obtain⟨a,ha,F9⟩:=VQ hk;obtain⟨o,h1,E2,h2,h3,h4⟩:=YI F9 rfl hle R RY;exact⟨y,he,zZu hle R,a,ha,o,h1,E2,h3⟩
@[reducible] def zB (n:Int):V:= .d (.v (.int .i64 n))
@[reducible] def A4 (n:Int):V:= .d (.v (.int .u64 n))
@[reducible] def XE (n:Int):V:= .d (.v (.int .u32 n))
@[reducible] def yL (b:Bool):V:= .d (.v (.bool b))
@[reducible] def ow (sz:Nat) (fa:Q_ D):V:= .d (.ro sz fa)
def rE:V:= .je []
@[reducible] def fp (ι:Type) (pat:ι->List V) (pre:ι->List fq) (dp:ι->Prop) (res:ι->V) (post:ι->List fq):gh where
 ι:=ι
 pat:=pat
 pre:=pre
 dp:=dp
 alts:=λi=>[{o:=Unit,res:=λ_=>res i,post:=λ_=>post i,rel:=λ_=>True}]
def bE (l:i4):Q_ D:=l.map λb=>[.v (.int .u8 b.toNat)]
@[simp] theorem UD (a b:i4):bE (a++b)=bE a++bE b:=by simp[bE]
@[simp] theorem xHr:bE []=[]:=rfl
@[simp] theorem yW (a:i4):(bE a).length=a.length:=by simp[bE]
def Lw (a:i4) (n:Nat):bE (a.take n)=(bE a).take n:=by simp[bE]
def lS (a:i4) (n:Nat):bE (a.drop n)=(bE a).drop n:=by simp[bE]
def zYw (s:ByteArray):j6 s=bE s.data.toList:=rfl
def iY (n:Int):UInt8:=UInt8.ofNat (n % 256).toNat
def le (n:Int):Nat->i4
 |0=>[]
 |k+1=>iY n::le (n / 256) k
def y8 (k:Nat):∀n:Int,(le n k).length=k:=by
 induction k with
 |zero=>intro n;rfl
 |succ k ih=>intro n;simp[le,ih]
def le_succ (k:Nat):∀n:Int,le n (k+1)=le n k++[iY (n / 256 ^ k)]:=by
 induction k with
 |zero=>intro n;simp[le]
 |succ k ih=>
  intro n;have:n / 256 / 256 ^ k=n / 256 ^ (k+1):=by
   rw[Int.ediv_ediv_of_nonneg (by omega),Iy,Eb]
  rw[le,ih,le,this,uh]
def Ve (n:Int):db.wrap n=((iY n).toNat:Int):=by
 have:(db.wrap n)=n % 256:=rfl;rw[this];unfold iY;have h1:(n % 256).toNat<256:=by omega
 rw[UInt8.toNat_ofNat_of_lt' (i9 h1)];omega
def iw {x:Int} (h: -9223372036854775808<=x/\x<=9223372036854775807):dc.wrap x=x:=Cv.wrap_i64 h.1 h.2
def Cc {x:Int} (h:0<=x/\x<18446744073709551616):cz.wrap x=x:=by
 have:cz.wrap x=x % 18446744073709551616:=rfl;rw[this];omega
def xEs {x:Int} (h:0<=x/\x<4294967296):da.wrap x=x:=by
 have:da.wrap x=x % 4294967296:=rfl;rw[this];omega
def Pz (k:IntKind) (a:Int) (b:Nat) (h:b<=k.bits):aJ k a b=a / 2 ^ b:=by
 unfold aJ;rw[show min (Int.toNat (b:Int)) k.bits=b by simp;omega];rw[Int.fdiv_eq_ediv_of_nonneg];exact Int.pow_nonneg (by omega)
def zG {p:Prop} [Decidable p] {A B:Prop} (h1:p->A) (h2:¬p->B):dp (decide p) A B:=Cv.dp.mk (λh=>h1 (rf h)) (λh=>h2 (L3 h))
def fk {P:af}:zf P []:=trivial
def dw {P:af} {f:Nat} {C:gh} {l:List (Nat×gh)} (h:C.ok P f) (hl:zf P l):zf P ((f,C)::l):=⟨h,hl⟩
end Sx
