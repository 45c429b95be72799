/- Texts of ours. No condition. -/
import Derived.OpenShut
import Derived.ProofKit
import Derived.Test.YtfmobncdogfbmaaGreatR15
set_option linter.all false
open Go renaming TypeId->aa,Value->ab,Program->ac,DataW->ae,World->af
open Option renaming some->ag,none->aj
open Bool renaming true->ak
namespace Sx
open Go Go.RowKit Go.ChangeShapes Go.WideShapes Go.ChangeAt
def Aa {H:Type} {enc:aa×ab->H} {P:ac} {f:Func} {s:ChangeSpec} {apart fresh handsOn again:Bool} {W W':af} {args:Array ab} {v:ab} {ds gs:List (ae H)} {before pa pv:List MemPlace}
 (hW:DataW.Whole enc P f.params.toList s.vars apart W args.toList ds gs before)
 (TA:∀(b:Nat) (sp:Nat->Bool) (hd:Bool),DataW.TrodAll enc P W' b sp hd f.resultTypes.toList (v.resultList f.resultTypes.size) (s.fn H (ds++gs)).results [])
 (oc:∀sp:Nat->Bool,(∀p∈before,sp p.block=ak)->DataW.TrodAll enc P W' 0 sp ak f.params.toList args.toList (s.fn H (ds++gs)).args pa)
 (K2:∀sp:Nat->Bool,(∀p∈before,sp p.block=ak)->DataW.TrodVars enc P W' sp s.vars (s.fn H (ds++gs)).vars pv)
 (Cn:before=pa++pv) (hB:Below W.heap.size W W')
 (oZ:∀(j:Nat) (t:aa) (r:ab),f.resultTypes[j]? =ag t->(v.resultList f.resultTypes.size)[j]? =ag r->Value.okWide P W' .any 0 t r):
 s.post enc P f apart fresh handsOn again W args v W':=by
 have hold:∀p∈before,(λb=>decide (b<W.heap.size)) p.block=ak:=λp hp=>by simpa using hW.lt p hp
 have gr:=hW.lt;refine⟨ds,gs,before,[],pa,pv,hW,TA _ _ _,oc _ hold,K2 _ hold,World.keptBut_mono (λp hp=>⟨hp,?_⟩) (hB.frame (·∈before)),λ_=> ?_⟩
 ·rw[Cn,oH]at hp;exact Or.inr hp
 ·obtain⟨_,_,_,_,_,hz,hn⟩:=hW;refine⟨oZ,_,_,([]++pa)++pv,⟨[]++pa,pv,trodAll_append (oc _ (λ_ _=>rfl)) (TA _ _ _),K2 _ (λ_ _=>rfl),rfl,?_,?_⟩,?_⟩
  ·intro b off hp;have hp:MemPlace.cell b off∈before:=by rw[Cn];simpa using hp
   have hl:b<W.heap.size:=gr _ hp;rw[hB.frozen (by exact hl)];exact hz b off hp
  ·intro ha;have:=hn ha;rw[Cn]at this;simpa using this
  ·intro p hp _;rw[Cn];simpa using hp
open Go Go.RowKit Go.ChangeShapes Go.WideShapes Cv
variable {H:Type} {enc:aa×ab->H} {P:ac} {w:af} {base:Nat} {sp:Nat->Bool} {held:Bool}
def lA (P:ac):Nat->aa->Bool
 |0,_=>false
 |m+1,t=>match P.underlying t with
  |some .bool=>ak
  |some (.int _)=>ak
  |some .string=>ak
  |some (.slice e)=>lA P m e && decide (0<P.cellsOf e)
  |some (.struct fs)=>fs.toList.all λf=>lA P m f.type
  |some (.array _ e)=>lA P m e
  |_=>false
def C9 (S:aa->List D->Prop):List aa->List D->Prop
 |[],ds=>ds=[]
 |t::ts,ds=>∃a b,ds=a++b/\S t a/\C9 S ts b
def vo (P:ac):Nat->aa->List D->Prop
 |0,_,_=>False
 |m+1,t,ds=>match P.underlying t with
  |some .bool=>∃b,ds=[.v (.bool b)]
  |some (.int k)=>∃n,ds=[.v (.int k n)]/\(Lit.int k n).wf=ak
  |some .string=>∃s,ds=[.v (.string s)]/\s.size<=maxLen
  |some (.slice e)=>∃fa,ds=[.ro (P.cellsOf e) fa]/\fa.length<=maxLen/\∀el∈fa,vo P m e el
  |some (.struct fs)=>C9 (vo P m) (fs.toList.map (·.type)) ds
  |some (.array k e)=>∃F8:Q_ D,ds=F8.flatten/\F8.length=k/\∀d∈F8,vo P m e d
  |_=>False
def yUu {F:PH} {S:aa->List D->Prop} {sz:aa->Nat}:∀(L:List Field) (o:Nat) (cs:List ab),(∀(j:Nat) f,L[j]? =ag f->f.offset=o+((L.take j).map λf=>sz f.type).sum)->cs.length=o+(L.map λf=>sz f.type).sum->
 (∀f∈L,∃ds,S f.type ds/\iC F ds ((cs.drop f.offset).take (sz f.type)))->∃ds,C9 S (L.map (·.type)) ds/\iC F ds (cs.drop o)
 |[],o,cs,ho,hl,h=>⟨[],rfl,by
   rw[IK (by simpa using Nat.le_of_eq hl)];simp only[iC]⟩
 |f::L,o,cs,ho,hl,h=>by
  have h0:=ho 0 f rfl;simp only[EX,Bz,List.sum_nil,FJ]at h0;obtain⟨d1,s1,r1⟩:=h f iY;simp only[jg,qi]at hl;obtain⟨d2,s2,r2⟩:=yUu L (o+sz f.type) cs (λj g hg=>by
   have:=ho (j+1) g (i9 hg);simp only[vj,jg,qi]at this;omega) oM (λg hg=>h g (jj _ hg))
  refine⟨d1++d2,⟨d1,d2,rfl,s1,s2⟩,?_⟩;rw[h0]at r1;have e:cs.drop o=(cs.drop o).take (sz f.type)++cs.drop (o+sz f.type):=by
   rw[<- Ds,Bi]
  rw[e];exact r1.append r2
def yJa {F:PH} {S:List D->Prop} {sz:Nat}:∀(k:Nat) (cs:List ab),cs.length=k*sz->(∀i,i<k->∃ds,S ds/\iC F ds ((cs.drop (i*sz)).take sz))->
 ∃F8:Q_ D,F8.length=k/\(∀d∈F8,S d)/\iC F F8.flatten cs
 |0,cs,hl,h=>⟨[],rfl,by simp,by
    have:cs=[]:=ye (i9 hl);subst this;simp only[List.flatten_nil,iC]⟩
 |k+1,cs,hl,h=>by
  obtain⟨d,s,r⟩:=h 0 oM;rw[Ad]at hl;obtain⟨F8,h1,h2,h3⟩:=yJa (F:=F) (S:=S) (sz:=sz) k (cs.drop sz) (by rw[pj,hl];omega) (λi hi=>by
   obtain⟨d,s,r⟩:=h (i+1) oM;refine⟨d,s,?_⟩;rw[Ad,FI]at r;rw[Ds];exact r)
  refine⟨d::F8,by simp[h1],?_,?_⟩
  ·intro x hx;rcases j'.1 hx with rfl|hx
   ·exact s
   ·exact h2 x hx
  ·rw[Bg];rw[Nat.zero_mul,Ei]at r;have:=r.append h3;rwa [Bi]at this
def yVa {F:PH} {S:List D->Prop} {sz:Nat}:∀(k:Nat) (l:List ab),(∀i,i<k->∃ds,S ds/\ds.length=sz/\iC F ds ((l.drop (i*sz)).take sz))->
 ∃fa:Q_ D,fa.length=k/\(∀d∈fa,S d/\d.length=sz)/\BP F fa l
 |0,l,h=>⟨[],rfl,by simp,by simp only[BP]⟩
 |k+1,l,h=>by
  obtain⟨d,s,e,r⟩:=h 0 oM;obtain⟨fa,h1,h2,h3⟩:=yVa k (l.drop sz) (λi hi=>by
   obtain⟨d,s,e,r⟩:=h (i+1) oM;refine⟨d,s,e,?_⟩;rw[Ad,FI]at r;rw[Ds];exact r)
  refine⟨d::fa,by simp[h1],?_,?_⟩
  ·intro x hx;rcases j'.1 hx with rfl|hx
   ·exact⟨s,e⟩
   ·exact h2 x hx
  ·simp only[BP];rw[Nat.zero_mul,Ei]at r;exact⟨l.take sz,l.drop sz,(Bi _ _).symm,r,h3⟩
def z9a {a:Addr} {n:Nat} {cs:List ab} (hn:0<n) (h:w.cells? base a n=ag cs):∃c T fr,w.heap[a.block]? =ag (.cells c T fr)/\a.spot=aj:=by
 obtain⟨_,h1,h2⟩:=World.cells?_some h;have h0:=h2 0 hn;rw[show a.add 0=a by simp[Addr.add],vl X_]at h0;unfold World.cell? at h0;split at h0
 ·rename_i c T fr hc;split at h0
  ·cases h0
  ·rename_i hs;exact⟨c,T,fr,hc,i9 hs⟩
 ·cases h0
def yAs {a:Addr} {n:Nat} {cs:List ab} {c:Array ab} {T:aa} {fr:Nat×Nat} (h:w.cells? base a n=ag cs) (hc:w.heap[a.block]? =ag (.cells c T fr)) (hs:a.spot=aj):cs=(c.toList.drop a.off).take n:=by
 obtain⟨_,h1,h2⟩:=World.cells?_some h;apply Du;intro i;by_cases hi:i<n
 ·have:=h2 i hi;rw[<- this];have ea:a.add i=⟨a.block,a.off+i,aj⟩:=by
   obtain⟨b,o,s⟩:=a;simp only at hs;subst hs;by_cases h0:i=0
   ·subst h0;simp[Addr.add]
   ·simp[Addr.add,h0]
  rw[ea];simp only[World.cell?,hc];rw[List.getElem?_take_of_lt hi,BA];simp
 ·rw[uv X_,uv];simp only[nr];omega
def z8n (K:Kids P (·<P.types.size)):∀(m:Nat) {n:Nat} {t:aa} {cs:List ab} {x:ae H×List MemPlace},t<P.types.size->lA P m t=ak->DataW.trod enc P w base sp held n t cs=ag x->
 ∃ds,vo P m t ds/\iC (λb=>w.heap[b]?) ds cs:=by
 intro m
 induction m with
 |zero=>intro n t cs x _ h;simp[lA]at h
 |succ m ih=>
  intro n t cs x hT hp h;unfold lA at hp;unfold vo;split at hp
  ·rename_i hu;obtain⟨b,rfl,_⟩:=DataW.trod_bool hu h;exact⟨_,⟨b,rfl⟩,by simp only[iC,DR];exact⟨_,_,rfl,⟨rfl,rfl⟩,rfl⟩⟩
  ·rename_i k hu;obtain⟨z,rfl,_,hw⟩:=DataW.trod_int hu h;exact⟨_,⟨z,rfl,hw⟩,by simp only[iC,DR];exact⟨_,_,rfl,⟨rfl,rfl⟩,rfl⟩⟩
  ·rename_i hu;obtain⟨s,rfl,_,hw⟩:=DataW.trod_string hu h;exact⟨_,⟨s,rfl,hw⟩,by simp only[iC,DR];exact⟨_,_,rfl,⟨rfl,rfl⟩,rfl⟩⟩
  ·rename_i e hu;simp only[lu,ua]at hp;obtain⟨hp,hz⟩:=hp;rcases DataW.trod_slice hu h with⟨rfl,_⟩|⟨a,len,cap,elems,rest,n,_,rfl,_,hb,hl,hm,hlen,oT,_⟩
   ·exact⟨_,⟨[],rfl,by simp,by simp⟩,by simp only[iC,DR];exact⟨_,_,rfl,⟨aj,0,rfl,by simp,by simp,.inl trivial⟩,rfl⟩⟩
   ·by_cases h0:len=0
    ·subst h0;exact⟨_,⟨[],rfl,by simp,by simp⟩,by simp only[iC,DR];exact⟨_,_,rfl,⟨ag a,cap,rfl,by simp,by simp,.inl trivial⟩,rfl⟩⟩
    have el:∀i,i<len->∃CV y,w.cells? base (a.add (i*P.cellsOf e)) (P.cellsOf e)=ag CV/\DataW.trod enc P w base sp held n e CV=ag y:=by
     intro i hi;have:=oT i hi;rw[vl X_,Option.bind_eq_some_iff]at this;obtain⟨CV,h1,h2⟩:=this;exact⟨CV,_,h1,h2⟩
    obtain⟨cs0,_,q1,_⟩:=el 0 oM;rw[Nat.zero_mul,show a.add 0=a by simp[Addr.add]]at q1;obtain⟨c,T,fr,hc,hs⟩:=z9a hz q1;obtain⟨fa,r1,r2,r3⟩:=yVa (F:=λb=>w.heap[b]?) (S:=vo P m e) (sz:=P.cellsOf e) len (c.toList.drop a.off) (λi hi=>by
     obtain⟨CV,y,q1,q2⟩:=el i hi;obtain⟨ds,s1,s2⟩:=ih (K.slice hT hu) hp q2;have Us:=(World.cells?_some q1).2.1;have ue:(a.add (i*P.cellsOf e)).spot=aj/\(a.add (i*P.cellsOf e)).off=a.off+i*P.cellsOf e/\(a.add (i*P.cellsOf e)).block=a.block:=by
      unfold Addr.add;split
      ·rename_i hi0;exact⟨hs,oM,rfl⟩
      ·exact⟨rfl,rfl,rfl⟩
     have:=yAs q1 (by rw[ue.2.2];exact hc) ue.1;rw[ue.2.1,<- Ds]at this;exact⟨ds,s1,by rw[<- s2.length,Us],this▸s2⟩)
    refine⟨_,⟨fa,rfl,oM,λel oT=>(r2 el oT).1⟩,?_⟩;simp only[iC,DR];obtain⟨b,o,s⟩:=a;simp only at hs hc;subst hs;refine⟨_,_,rfl,⟨ag ⟨b,o,aj⟩,cap,by rw[r1],oM,λel oT=>(r2 el oT).2,.inr ⟨b,o,c.toList,T,fr,rfl,i9 hc,r3⟩⟩,rfl⟩
  ·rename_i fs hu;obtain⟨xs,n,_,_,hl,CQ,hx⟩:=DataW.trod_struct hu h;obtain⟨k1,k2,k3⟩:=K.struct hT hu;have:=yUu (F:=λb=>w.heap[b]?) (S:=vo P m) (sz:=P.cellsOf) fs.toList 0 cs (λj f hj=>by rw[nt];exact k3 j f hj) (by rw[nt,hl,k2]) (λf hf=>by
    obtain⟨i,hi⟩:=Mi hf;have O8:fs[i]? =ag f:=i9 hi
    have gr:i<fs.size:=by
     have:=(jk.1 hi).1;simpa using this
    have:=hx i f O8;rw[vl X_]at this;exact ih (k1 f hf) (Ej.1 hp f hf) this)
   simpa using this
  ·rename_i k e hu;obtain⟨xs,n,_,_,hl,CQ,hx⟩:=DataW.trod_array hu h;obtain⟨k1,k2⟩:=K.array hT hu;obtain⟨F8,d1,d2,d3⟩:=yJa (F:=λb=>w.heap[b]?) (S:=vo P m e) (sz:=P.cellsOf e) k cs (by rw[hl,k2]) (λi hi=>by
    have:=hx i hi;rw[vl X_]at this;exact ih k1 hp this)
   exact⟨_,⟨F8,rfl,d1,d2⟩,d3⟩
  ·cases hp
def yVq (K:Kids P (·<P.types.size)) (m:Nat) {t:aa} {v:ab} {d:ae H} {ps:List MemPlace} (hT:t<P.types.size) (hp:lA P m t=ak) (h:DataW.Trod enc P w base sp held t v d ps):
 ∃ds,vo P m t ds/\iC (λb=>w.heap[b]?) ds v.cells.toList:=by
 obtain⟨n,hn⟩:=h;exact z8n K m hT hp hn
def zWb {w':af} (hB:Below w.heap.size w w') {p:MemPlace} (hp:p.block<w.heap.size):w.sameAt w' p:=by
 cases p with
 |cell b off=>
  have:=hB.block b hp;simp only[World.sameAt,World.cell?,this]
 |map b=>
  have:=hB.block b hp;exact this
def Az {w':af} (K:Kids P (·<P.types.size)) (hz:∀t e,t<P.types.size->P.underlying t=ag (.slice e)->0<P.cellsOf e) (hB:Below w.heap.size w w') {sp':Nat->Bool}:
 ∀{ts:List aa} {vs:List ab} {ds:List (ae H)} {ps:List MemPlace},(∀t∈ts,t<P.types.size)->DataW.TrodAll enc P w 0 (λ_=>ak) ak ts vs ds ps->(∀p∈ps,p.block<w.heap.size)->(∀p∈ps,sp' p.block=ak)->DataW.TrodAll enc P w' 0 sp' ak ts vs ds ps
 |[],[],[],_,_,h,_,_=>h
 |t::ts,v::vs,d::ds,_,hT,⟨p,q,⟨n,h1⟩,h2,e⟩,hl,hs=>by
  refine⟨p,q,⟨n,?_⟩,Az K hz hB (λt ht=>hT t (j'.2 (Or.inr ht))) h2 (λx hx=>hl x (by rw[e];exact Af _ hx)) (λx hx=>hs x (by rw[e];exact Af _ hx)),e⟩;exact DataW.trod_stays K (λ{t e} ht hu=>hz t e ht hu) (λh=>by cases h) (hT t iY) h1 (λx hx=>zWb hB (hl x (by rw[e];exact za _ hx))) (λx hx=>hs x (by rw[e];exact za _ hx))
def xBy {E:Ev} {cs:Array ab} {ds:List D} (h:iC E.F ds cs.toList):VR E (.agg (ds.map .d)) (.agg cs):=by
 simp only[VR];exact⟨cs.toList,by simp,h.OJ⟩
def wv (K:Kids P (·<P.types.size)) (m:Nat) {t e:aa} {v:ab} {d:ae H} {ps:List MemPlace} {r:Reach} {b0:Nat} (hT:t<P.types.size) (hu:P.underlying t=ag (.slice e)) (hp:lA P (m+1) t=ak) (oZ:Value.okWide P w r b0 t v) (h:DataW.Trod enc P w base sp held t v d ps):
 ∃fa,DR (λb=>w.heap[b]?) (.ro (P.cellsOf e) fa) v/\fa.length<=maxLen/\∀el∈fa,vo P m e el:=by
 obtain⟨ds,h1,h2⟩:=yVq K (m+1) hT hp h;obtain⟨a,l,c,rfl⟩:=okWide_slice hu oZ;unfold vo at h1;rw[hu]at h1;obtain⟨fa,rfl,h3,h4⟩:=h1;simp only[Value.cells,iC]at h2;obtain⟨x,xs,e1,e2,_⟩:=h2;simp only[List.cons.injEq]at e1;obtain⟨rfl,_⟩:=e1;exact⟨fa,e2,h3,h4⟩
def Di (K:Kids P (·<P.types.size)) (m:Nat) {t:aa} {fs:Array Field} {v:ab} {d:ae H} {ps:List MemPlace} {r:Reach} {b0:Nat} (hT:t<P.types.size) (hu:P.underlying t=ag (.struct fs)) (hp:lA P (m+1) t=ak) (oZ:Value.okWide P w r b0 t v) (h:DataW.Trod enc P w base sp held t v d ps):
 ∃ds,C9 (vo P m) (fs.toList.map (·.type)) ds/\VR (E0 w) (.agg (ds.map .d)) v:=by
 obtain⟨ds,h1,h2⟩:=yVq K (m+1) hT hp h;obtain⟨cs,rfl,_⟩:=okWide_struct hu oZ;unfold vo at h1;rw[hu]at h1;exact⟨ds,h1,xBy (E:=E0 w) h2⟩
def yt {α β:Type} {f:α->β} {Q:α->Prop}:∀{l:List β},(∀y∈l,∃x,y=f x/\Q x)->∃xs:List α,l=xs.map f/\∀x∈xs,Q x
 |[],_=>⟨[],rfl,by simp⟩
 |y::l,h=>by
  obtain⟨x,h1,h2⟩:=h y iY;obtain⟨xs,h3,h4⟩:=yt (l:=l) λz hz=>h z (jj _ hz)
  refine⟨x::xs,by rw[jg,<- h1,<- h3],?_⟩;intro z hz;rcases j'.1 hz with rfl|hz
  ·exact h2
  ·exact h4 z hz
def jw {m:Nat} {t:aa} {k:IntKind} {ds:List D} (hu:P.underlying t=ag (.int k)) (h:vo P m t ds):∃n,ds=[.v (.int k n)]/\(Lit.int k n).wf=ak:=by
 cases m with
 |zero=>exact h.elim
 |succ m=>unfold vo at h;rw[hu]at h;exact h
def Hl {m:Nat} {t:aa} {ds:List D} (hu:P.underlying t=ag .bool) (h:vo P m t ds):∃b,ds=[.v (.bool b)]:=by
 cases m with
 |zero=>exact h.elim
 |succ m=>unfold vo at h;rw[hu]at h;exact h
def yu {m:Nat} {t:aa} {ds:List D} (hu:P.underlying t=ag .string) (h:vo P m t ds):∃s,ds=[.v (.string s)]/\s.size<=maxLen:=by
 cases m with
 |zero=>exact h.elim
 |succ m=>unfold vo at h;rw[hu]at h;exact h
def EK {m:Nat} {t e:aa} {ds:List D} (hu:P.underlying t=ag (.slice e)) (h:vo P (m+1) t ds):∃fa,ds=[.ro (P.cellsOf e) fa]/\fa.length<=maxLen/\∀el∈fa,vo P m e el:=by
 unfold vo at h;rw[hu]at h;exact h
def Dh {m:Nat} {t:aa} {fs:Array Field} {ds:List D} (hu:P.underlying t=ag (.struct fs)) (h:vo P (m+1) t ds):C9 (vo P m) (fs.toList.map (·.type)) ds:=by
 unfold vo at h;rw[hu]at h;exact h
end Sx
