/- Texts of ours. No condition. -/
import Derived.OpenShut
import Derived.ProofKit
import Derived.Test.YtfmobncdogfbmaaGreatQ14
set_option linter.all false
open Go renaming TypeId->ab,Value->ac,Program->ae,DataW->af,World->ag
open Option renaming some->aj,none->ak
open Bool renaming true->am
namespace Sx
open Go Go.RowKit Go.ChangeShapes Go.WideShapes Go.ChangeAt
def zo {H:Type} {enc:ab×ac->H} {P:ae} {f:Func} {s:ChangeSpec} {apart fresh handsOn again:Bool} {W W':ag} {args:Array ac} {v:ac} {ds gs:List (af H)} {before pa pv:List MemPlace}
 (hW:DataW.Whole enc P f.params.toList s.vars apart W args.toList ds gs before)
 (Tm:∀(b:Nat) (sp:Nat->Bool) (hd:Bool),DataW.TrodAll enc P W' b sp hd f.resultTypes.toList (v.resultList f.resultTypes.size) (s.fn H (ds++gs)).results [])
 (oa:∀sp:Nat->Bool,(∀p∈before,sp p.block=am)->DataW.TrodAll enc P W' 0 sp am f.params.toList args.toList (s.fn H (ds++gs)).args pa)
 (KU:∀sp:Nat->Bool,(∀p∈before,sp p.block=am)->DataW.TrodVars enc P W' sp s.vars (s.fn H (ds++gs)).vars pv)
 (Ck:before=pa++pv) (hB:Below W.heap.size W W')
 (oX:∀(j:Nat) (t:ab) (r:ac),f.resultTypes[j]? =aj t->(v.resultList f.resultTypes.size)[j]? =aj r->Value.okWide P W' .any 0 t r):
 s.post enc P f apart fresh handsOn again W args v W':=by
 have hold:∀p∈before,(λb=>decide (b<W.heap.size)) p.block=am:=λp hp=>by simpa using hW.lt p hp
 have gu:=hW.lt;refine⟨ds,gs,before,[],pa,pv,hW,Tm _ _ _,oa _ hold,KU _ hold,World.keptBut_mono (λp hp=>⟨hp,?_⟩) (hB.frame (·∈before)),λ_=> ?_⟩
 ·rw[Ck,oK]at hp;exact Or.inr hp
 ·obtain⟨_,_,_,_,_,hz,hn⟩:=hW;refine⟨oX,_,_,([]++pa)++pv,⟨[]++pa,pv,trodAll_append (oa _ (λ_ _=>rfl)) (Tm _ _ _),KU _ (λ_ _=>rfl),rfl,?_,?_⟩,?_⟩
  ·intro b off hp;have hp:MemPlace.cell b off∈before:=by rw[Ck];simpa using hp
   have hl:b<W.heap.size:=gu _ hp;rw[hB.frozen (by exact hl)];exact hz b off hp
  ·intro ha;have:=hn ha;rw[Ck]at this;simpa using this
  ·intro p hp _;rw[Ck];simpa using hp
open Go Go.RowKit Go.ChangeShapes Go.WideShapes Cv
variable {H:Type} {enc:ab×ac->H} {P:ae} {w:ag} {base:Nat} {sp:Nat->Bool} {held:Bool}
def lF (P:ae):Nat->ab->Bool
 |0,_=>false
 |m+1,t=>match P.underlying t with
  |some .bool=>am
  |some (.int _)=>am
  |some .string=>am
  |some (.slice e)=>lF P m e && decide (0<P.cellsOf e)
  |some (.struct fs)=>fs.toList.all λf=>lF P m f.type
  |some (.array _ e)=>lF P m e
  |_=>false
def C2 (S:ab->List D->Prop):List ab->List D->Prop
 |[],ds=>ds=[]
 |t::ts,ds=>∃a b,ds=a++b/\S t a/\C2 S ts b
def vf (P:ae):Nat->ab->List D->Prop
 |0,_,_=>False
 |m+1,t,ds=>match P.underlying t with
  |some .bool=>∃b,ds=[.v (.bool b)]
  |some (.int k)=>∃n,ds=[.v (.int k n)]/\(Lit.int k n).wf=am
  |some .string=>∃s,ds=[.v (.string s)]/\s.size<=maxLen
  |some (.slice e)=>∃fa,ds=[.ro (P.cellsOf e) fa]/\fa.length<=maxLen/\∀el∈fa,vf P m e el
  |some (.struct fs)=>C2 (vf P m) (fs.toList.map (·.type)) ds
  |some (.array k e)=>∃F3:Q_ D,ds=F3.flatten/\F3.length=k/\∀d∈F3,vf P m e d
  |_=>False
def yUa {F:PH} {S:ab->List D->Prop} {sz:ab->Nat}:∀(L:List Field) (o:Nat) (cs:List ac),(∀(j:Nat) f,L[j]? =aj f->f.offset=o+((L.take j).map λf=>sz f.type).sum)->cs.length=o+(L.map λf=>sz f.type).sum->
 (∀f∈L,∃ds,S f.type ds/\iB F ds ((cs.drop f.offset).take (sz f.type)))->∃ds,C2 S (L.map (·.type)) ds/\iB F ds (cs.drop o)
 |[],o,cs,ho,hl,h=>⟨[],rfl,by
   rw[IB (by simpa using Nat.le_of_eq hl)];simp only[iB]⟩
 |f::L,o,cs,ho,hl,h=>by
  have h0:=ho 0 f rfl;simp only[EU,Bs,List.sum_nil,FE]at h0;obtain⟨d1,s1,r1⟩:=h f iX;simp only[jf,qc]at hl;obtain⟨d2,s2,r2⟩:=yUa L (o+sz f.type) cs (λj g hg=>by
   have:=ho (j+1) g (i9 hg);simp only[u',jf,qc]at this;omega) oM (λg hg=>h g (ji _ hg))
  refine⟨d1++d2,⟨d1,d2,rfl,s1,s2⟩,?_⟩;rw[h0]at r1;have e:cs.drop o=(cs.drop o).take (sz f.type)++cs.drop (o+sz f.type):=by
   rw[<- Dl,Bb]
  rw[e];exact r1.append r2
def yGh {F:PH} {S:List D->Prop} {sz:Nat}:∀(k:Nat) (cs:List ac),cs.length=k*sz->(∀i,i<k->∃ds,S ds/\iB F ds ((cs.drop (i*sz)).take sz))->
 ∃F3:Q_ D,F3.length=k/\(∀d∈F3,S d)/\iB F F3.flatten cs
 |0,cs,hl,h=>⟨[],rfl,by simp,by
    have:cs=[]:=xq (i9 hl);subst this;simp only[List.flatten_nil,iB]⟩
 |k+1,cs,hl,h=>by
  obtain⟨d,s,r⟩:=h 0 oM;rw[zr]at hl;obtain⟨F3,h1,h2,h3⟩:=yGh (F:=F) (S:=S) (sz:=sz) k (cs.drop sz) (by rw[pd,hl];omega) (λi hi=>by
   obtain⟨d,s,r⟩:=h (i+1) oM;refine⟨d,s,?_⟩;rw[zr,HA]at r;rw[Dl];exact r)
  refine⟨d::F3,by simp[h1],?_,?_⟩
  ·intro x hx;rcases jx.1 hx with rfl|hx
   ·exact s
   ·exact h2 x hx
  ·rw[A9];rw[Nat.zero_mul,Ee]at r;have:=r.append h3;rwa [Bb]at this
def yMh {F:PH} {S:List D->Prop} {sz:Nat}:∀(k:Nat) (l:List ac),(∀i,i<k->∃ds,S ds/\ds.length=sz/\iB F ds ((l.drop (i*sz)).take sz))->
 ∃fa:Q_ D,fa.length=k/\(∀d∈fa,S d/\d.length=sz)/\BJ F fa l
 |0,l,h=>⟨[],rfl,by simp,by simp only[BJ]⟩
 |k+1,l,h=>by
  obtain⟨d,s,e,r⟩:=h 0 oM;obtain⟨fa,h1,h2,h3⟩:=yMh k (l.drop sz) (λi hi=>by
   obtain⟨d,s,e,r⟩:=h (i+1) oM;refine⟨d,s,e,?_⟩;rw[zr,HA]at r;rw[Dl];exact r)
  refine⟨d::fa,by simp[h1],?_,?_⟩
  ·intro x hx;rcases jx.1 hx with rfl|hx
   ·exact⟨s,e⟩
   ·exact h2 x hx
  ·simp only[BJ];rw[Nat.zero_mul,Ee]at r;exact⟨l.take sz,l.drop sz,(Bb _ _).symm,r,h3⟩
def yAe {a:Addr} {n:Nat} {cs:List ac} (hn:0<n) (h:w.cells? base a n=aj cs):∃c T fr,w.heap[a.block]? =aj (.cells c T fr)/\a.spot=ak:=by
 obtain⟨_,h1,h2⟩:=World.cells?_some h;have h0:=h2 0 hn;rw[show a.add 0=a by simp[Addr.add],vd (by omega)]at h0;unfold World.cell? at h0;split at h0
 ·rename_i c T fr hc;split at h0
  ·cases h0
  ·rename_i hs;exact⟨c,T,fr,hc,i9 hs⟩
 ·cases h0
def yBr {a:Addr} {n:Nat} {cs:List ac} {c:Array ac} {T:ab} {fr:Nat×Nat} (h:w.cells? base a n=aj cs) (hc:w.heap[a.block]? =aj (.cells c T fr)) (hs:a.spot=ak):cs=(c.toList.drop a.off).take n:=by
 obtain⟨_,h1,h2⟩:=World.cells?_some h;apply Dn;intro i;by_cases hi:i<n
 ·have:=h2 i hi;rw[<- this];have ea:a.add i=⟨a.block,a.off+i,ak⟩:=by
   obtain⟨b,o,s⟩:=a;simp only at hs;subst hs;by_cases h0:i=0
   ·subst h0;simp[Addr.add]
   ·simp[Addr.add,h0]
  rw[ea];simp only[World.cell?,hc];rw[List.getElem?_take_of_lt hi,Bu];simp
 ·rw[ui (by omega),ui];simp only[nn];omega
def z8h (K:Kids P (·<P.types.size)):∀(m:Nat) {n:Nat} {t:ab} {cs:List ac} {x:af H×List MemPlace},t<P.types.size->lF P m t=am->DataW.trod enc P w base sp held n t cs=aj x->
 ∃ds,vf P m t ds/\iB (λb=>w.heap[b]?) ds cs:=by
 intro m
 induction m with
 |zero=>intro n t cs x _ h;simp[lF]at h
 |succ m ih=>
  intro n t cs x hT hp h;unfold lF at hp;unfold vf;split at hp
  ·rename_i hu;obtain⟨b,rfl,_⟩:=DataW.trod_bool hu h;exact⟨_,⟨b,rfl⟩,by simp only[iB,DR];exact⟨_,_,rfl,⟨rfl,rfl⟩,rfl⟩⟩
  ·rename_i k hu;obtain⟨z,rfl,_,hw⟩:=DataW.trod_int hu h;exact⟨_,⟨z,rfl,hw⟩,by simp only[iB,DR];exact⟨_,_,rfl,⟨rfl,rfl⟩,rfl⟩⟩
  ·rename_i hu;obtain⟨s,rfl,_,hw⟩:=DataW.trod_string hu h;exact⟨_,⟨s,rfl,hw⟩,by simp only[iB,DR];exact⟨_,_,rfl,⟨rfl,rfl⟩,rfl⟩⟩
  ·rename_i e hu;simp only[lr,tn]at hp;obtain⟨hp,hz⟩:=hp;rcases DataW.trod_slice hu h with⟨rfl,_⟩|⟨a,len,cap,elems,rest,n,_,rfl,_,hb,hl,hm,hlen,oS,_⟩
   ·exact⟨_,⟨[],rfl,by simp,by simp⟩,by simp only[iB,DR];exact⟨_,_,rfl,⟨ak,0,rfl,by simp,by simp,.inl trivial⟩,rfl⟩⟩
   ·by_cases h0:len=0
    ·subst h0;exact⟨_,⟨[],rfl,by simp,by simp⟩,by simp only[iB,DR];exact⟨_,_,rfl,⟨aj a,cap,rfl,by simp,by simp,.inl trivial⟩,rfl⟩⟩
    have el:∀i,i<len->∃CN y,w.cells? base (a.add (i*P.cellsOf e)) (P.cellsOf e)=aj CN/\DataW.trod enc P w base sp held n e CN=aj y:=by
     intro i hi;have:=oS i hi;rw[vd (by omega),Option.bind_eq_some_iff]at this;obtain⟨CN,h1,h2⟩:=this;exact⟨CN,_,h1,h2⟩
    obtain⟨cs0,_,q1,_⟩:=el 0 oM;rw[Nat.zero_mul,show a.add 0=a by simp[Addr.add]]at q1;obtain⟨c,T,fr,hc,hs⟩:=yAe hz q1;obtain⟨fa,r1,r2,r3⟩:=yMh (F:=λb=>w.heap[b]?) (S:=vf P m e) (sz:=P.cellsOf e) len (c.toList.drop a.off) (λi hi=>by
     obtain⟨CN,y,q1,q2⟩:=el i hi;obtain⟨ds,s1,s2⟩:=ih (K.slice hT hu) hp q2;have Ug:=(World.cells?_some q1).2.1;have tr:(a.add (i*P.cellsOf e)).spot=ak/\(a.add (i*P.cellsOf e)).off=a.off+i*P.cellsOf e/\(a.add (i*P.cellsOf e)).block=a.block:=by
      unfold Addr.add;split
      ·rename_i hi0;exact⟨hs,oM,rfl⟩
      ·exact⟨rfl,rfl,rfl⟩
     have:=yBr q1 (by rw[tr.2.2];exact hc) tr.1;rw[tr.2.1,<- Dl]at this;exact⟨ds,s1,by rw[<- s2.length,Ug],this▸s2⟩)
    refine⟨_,⟨fa,rfl,oM,λel oS=>(r2 el oS).1⟩,?_⟩;simp only[iB,DR];obtain⟨b,o,s⟩:=a;simp only at hs hc;subst hs;refine⟨_,_,rfl,⟨aj ⟨b,o,ak⟩,cap,by rw[r1],oM,λel oS=>(r2 el oS).2,.inr ⟨b,o,c.toList,T,fr,rfl,i9 hc,r3⟩⟩,rfl⟩
  ·rename_i fs hu;obtain⟨xs,n,_,_,hl,CK,hx⟩:=DataW.trod_struct hu h;obtain⟨k1,k2,k3⟩:=K.struct hT hu;have:=yUa (F:=λb=>w.heap[b]?) (S:=vf P m) (sz:=P.cellsOf) fs.toList 0 cs (λj f hj=>by rw[nq];exact k3 j f hj) (by rw[nq,hl,k2]) (λf hf=>by
    obtain⟨i,hi⟩:=Oq hf;have OQ:fs[i]? =aj f:=i9 hi
    have gu:i<fs.size:=by
     have:=(jm.1 hi).1;simpa using this
    have:=hx i f OQ;rw[vd (by omega)]at this;exact ih (k1 f hf) (Ef.1 hp f hf) this)
   simpa using this
  ·rename_i k e hu;obtain⟨xs,n,_,_,hl,CK,hx⟩:=DataW.trod_array hu h;obtain⟨k1,k2⟩:=K.array hT hu;obtain⟨F3,d1,d2,d3⟩:=yGh (F:=λb=>w.heap[b]?) (S:=vf P m e) (sz:=P.cellsOf e) k cs (by rw[hl,k2]) (λi hi=>by
    have:=hx i hi;rw[vd (by omega)]at this;exact ih k1 hp this)
   exact⟨_,⟨F3,rfl,d1,d2⟩,d3⟩
  ·cases hp
def yOu (K:Kids P (·<P.types.size)) (m:Nat) {t:ab} {v:ac} {d:af H} {ps:List MemPlace} (hT:t<P.types.size) (hp:lF P m t=am) (h:DataW.Trod enc P w base sp held t v d ps):
 ∃ds,vf P m t ds/\iB (λb=>w.heap[b]?) ds v.cells.toList:=by
 obtain⟨n,hn⟩:=h;exact z8h K m hT hp hn
def zVq {w':ag} (hB:Below w.heap.size w w') {p:MemPlace} (hp:p.block<w.heap.size):w.sameAt w' p:=by
 cases p with
 |cell b off=>
  have:=hB.block b hp;simp only[World.sameAt,World.cell?,this]
 |map b=>
  have:=hB.block b hp;exact this
def Ao {w':ag} (K:Kids P (·<P.types.size)) (hz:∀t e,t<P.types.size->P.underlying t=aj (.slice e)->0<P.cellsOf e) (hB:Below w.heap.size w w') {sp':Nat->Bool}:
 ∀{ts:List ab} {vs:List ac} {ds:List (af H)} {ps:List MemPlace},(∀t∈ts,t<P.types.size)->DataW.TrodAll enc P w 0 (λ_=>am) am ts vs ds ps->(∀p∈ps,p.block<w.heap.size)->(∀p∈ps,sp' p.block=am)->DataW.TrodAll enc P w' 0 sp' am ts vs ds ps
 |[],[],[],_,_,h,_,_=>h
 |t::ts,v::vs,d::ds,_,hT,⟨p,q,⟨n,h1⟩,h2,e⟩,hl,hs=>by
  refine⟨p,q,⟨n,?_⟩,Ao K hz hB (λt ht=>hT t (jx.2 (Or.inr ht))) h2 (λx hx=>hl x (by rw[e];exact zu _ hx)) (λx hx=>hs x (by rw[e];exact zu _ hx)),e⟩;exact DataW.trod_stays K (λ{t e} ht hu=>hz t e ht hu) (λh=>by cases h) (hT t iX) h1 (λx hx=>zVq hB (hl x (by rw[e];exact yo _ hx))) (λx hx=>hs x (by rw[e];exact yo _ hx))
def y4x {E:Ev} {cs:Array ac} {ds:List D} (h:iB E.F ds cs.toList):VR E (.agg (ds.map .d)) (.agg cs):=by
 simp only[VR];exact⟨cs.toList,by simp,h.Ow⟩
def Ap (K:Kids P (·<P.types.size)) (m:Nat) {t e:ab} {v:ac} {d:af H} {ps:List MemPlace} {r:Reach} {b0:Nat} (hT:t<P.types.size) (hu:P.underlying t=aj (.slice e)) (hp:lF P (m+1) t=am) (oX:Value.okWide P w r b0 t v) (h:DataW.Trod enc P w base sp held t v d ps):
 ∃fa,DR (λb=>w.heap[b]?) (.ro (P.cellsOf e) fa) v/\fa.length<=maxLen/\∀el∈fa,vf P m e el:=by
 obtain⟨ds,h1,h2⟩:=yOu K (m+1) hT hp h;obtain⟨a,l,c,rfl⟩:=okWide_slice hu oX;unfold vf at h1;rw[hu]at h1;obtain⟨fa,rfl,h3,h4⟩:=h1;simp only[Value.cells,iB]at h2;obtain⟨x,xs,e1,e2,_⟩:=h2;simp only[List.cons.injEq]at e1;obtain⟨rfl,_⟩:=e1;exact⟨fa,e2,h3,h4⟩
def Db (K:Kids P (·<P.types.size)) (m:Nat) {t:ab} {fs:Array Field} {v:ac} {d:af H} {ps:List MemPlace} {r:Reach} {b0:Nat} (hT:t<P.types.size) (hu:P.underlying t=aj (.struct fs)) (hp:lF P (m+1) t=am) (oX:Value.okWide P w r b0 t v) (h:DataW.Trod enc P w base sp held t v d ps):
 ∃ds,C2 (vf P m) (fs.toList.map (·.type)) ds/\VR (E0 w) (.agg (ds.map .d)) v:=by
 obtain⟨ds,h1,h2⟩:=yOu K (m+1) hT hp h;obtain⟨cs,rfl,_⟩:=okWide_struct hu oX;unfold vf at h1;rw[hu]at h1;exact⟨ds,h1,y4x (E:=E0 w) h2⟩
def AP {α β:Type} {f:α->β} {Q:α->Prop}:∀{l:List β},(∀y∈l,∃x,y=f x/\Q x)->∃xs:List α,l=xs.map f/\∀x∈xs,Q x
 |[],_=>⟨[],rfl,by simp⟩
 |y::l,h=>by
  obtain⟨x,h1,h2⟩:=h y iX;obtain⟨xs,h3,h4⟩:=AP (l:=l) λz hz=>h z (ji _ hz)
  refine⟨x::xs,by rw[jf,<- h1,<- h3],?_⟩;intro z hz;rcases jx.1 hz with rfl|hz
  ·exact h2
  ·exact h4 z hz
def kh {m:Nat} {t:ab} {k:IntKind} {ds:List D} (hu:P.underlying t=aj (.int k)) (h:vf P m t ds):∃n,ds=[.v (.int k n)]/\(Lit.int k n).wf=am:=by
 cases m with
 |zero=>exact h.elim
 |succ m=>unfold vf at h;rw[hu]at h;exact h
def He {m:Nat} {t:ab} {ds:List D} (hu:P.underlying t=aj .bool) (h:vf P m t ds):∃b,ds=[.v (.bool b)]:=by
 cases m with
 |zero=>exact h.elim
 |succ m=>unfold vf at h;rw[hu]at h;exact h
def yi {m:Nat} {t:ab} {ds:List D} (hu:P.underlying t=aj .string) (h:vf P m t ds):∃s,ds=[.v (.string s)]/\s.size<=maxLen:=by
 cases m with
 |zero=>exact h.elim
 |succ m=>unfold vf at h;rw[hu]at h;exact h
def EH {m:Nat} {t e:ab} {ds:List D} (hu:P.underlying t=aj (.slice e)) (h:vf P (m+1) t ds):∃fa,ds=[.ro (P.cellsOf e) fa]/\fa.length<=maxLen/\∀el∈fa,vf P m e el:=by
 unfold vf at h;rw[hu]at h;exact h
def Da {m:Nat} {t:ab} {fs:Array Field} {ds:List D} (hu:P.underlying t=aj (.struct fs)) (h:vf P (m+1) t ds):C2 (vf P m) (fs.toList.map (·.type)) ds:=by
 unfold vf at h;rw[hu]at h;exact h
end Sx
