/- Texts of ours. No condition. -/
import Derived.OpenShut
import Derived.ProofKit
import Derived.Test.YtgmmlhddihaocaaGreatH15
set_option linter.all false
open Go renaming TypeId->aa,Value->ab,Program->ac,DataW->ae,World->af
open Option renaming some->ag,none->aj
open Bool renaming true->ak
namespace Sx
open Go Go.RowKit Go.ChangeShapes Go.WideShapes Go.ChangeAt
def Ah {H:Type} {enc:aa×ab->H} {P:ac} {f:Func} {s:ChangeSpec} {apart fresh handsOn again:Bool} {W W':af} {args:Array ab} {v:ab} {ds gs:List (ae H)} {before pa pv:List MemPlace}
 (hW:DataW.Whole enc P f.params.toList s.vars apart W args.toList ds gs before)
 (Sg:∀(b:Nat) (sp:Nat->Bool) (hd:Bool),DataW.TrodAll enc P W' b sp hd f.resultTypes.toList (v.resultList f.resultTypes.size) (s.fn H (ds++gs)).results [])
 (ot:∀sp:Nat->Bool,(∀p∈before,sp p.block=ak)->DataW.TrodAll enc P W' 0 sp ak f.params.toList args.toList (s.fn H (ds++gs)).args pa)
 (J7:∀sp:Nat->Bool,(∀p∈before,sp p.block=ak)->DataW.TrodVars enc P W' sp s.vars (s.fn H (ds++gs)).vars pv)
 (C4:before=pa++pv) (hB:Below W.heap.size W W')
 (pg:∀(j:Nat) (t:aa) (r:ab),f.resultTypes[j]? =ag t->(v.resultList f.resultTypes.size)[j]? =ag r->Value.okWide P W' .any 0 t r):
 s.post enc P f apart fresh handsOn again W args v W':=by
 have hold:∀p∈before,(λb=>decide (b<W.heap.size)) p.block=ak:=λp hp=>by simpa using hW.lt p hp
 have iq:=hW.lt;refine⟨ds,gs,before,[],pa,pv,hW,Sg _ _ _,ot _ hold,J7 _ hold,World.keptBut_mono (λp hp=>⟨hp,?_⟩) (hB.frame (·∈before)),λ_=> ?_⟩
 ·rw[C4,qq]at hp;exact Or.inr hp
 ·obtain⟨_,_,_,_,_,hz,hn⟩:=hW;refine⟨pg,_,_,([]++pa)++pv,⟨[]++pa,pv,trodAll_append (ot _ (λ_ _=>rfl)) (Sg _ _ _),J7 _ (λ_ _=>rfl),rfl,?_,?_⟩,?_⟩
  ·intro b off hp;have hp:MemPlace.cell b off∈before:=by rw[C4];simpa using hp
   have hl:b<W.heap.size:=iq _ hp;rw[hB.frozen (by exact hl)];exact hz b off hp
  ·intro ha;have:=hn ha;rw[C4]at this;simpa using this
  ·intro p hp _;rw[C4];simpa using hp
open Go Go.RowKit Go.ChangeShapes Go.WideShapes Cv
variable {H:Type} {enc:aa×ab->H} {P:ac} {w:af} {base:Nat} {sp:Nat->Bool} {held:Bool}
def eF (P:ac):Nat->aa->Bool
 |0,_=>false
 |m+1,t=>match P.underlying t with
  |some .bool=>ak
  |some (.int _)=>ak
  |some .string=>ak
  |some (.slice e)=>eF P m e && decide (0<P.cellsOf e)
  |some (.struct fs)=>fs.toList.all λf=>eF P m f.type
  |some (.array _ e)=>eF P m e
  |_=>false
def CF (S:aa->List D->Prop):List aa->List D->Prop
 |[],ds=>ds=[]
 |t::ts,ds=>∃a b,ds=a++b/\S t a/\CF S ts b
def xm (P:ac):Nat->aa->List D->Prop
 |0,_,_=>False
 |m+1,t,ds=>match P.underlying t with
  |some .bool=>∃b,ds=[.v (.bool b)]
  |some (.int k)=>∃n,ds=[.v (.int k n)]/\(Lit.int k n).wf=ak
  |some .string=>∃s,ds=[.v (.string s)]/\s.size<=maxLen
  |some (.slice e)=>∃fh,ds=[.ro (P.cellsOf e) fh]/\fh.length<=maxLen/\∀el∈fh,xm P m e el
  |some (.struct fs)=>CF (xm P m) (fs.toList.map (·.type)) ds
  |some (.array k e)=>∃Fu:List (List D),ds=Fu.flatten/\Fu.length=k/\∀d∈Fu,xm P m e d
  |_=>False
def yNl {F:PH} {S:aa->List D->Prop} {sz:aa->Nat}:∀(L:List Field) (o:Nat) (cs:List ab),(∀(j:Nat) f,L[j]? =ag f->f.offset=o+((L.take j).map λf=>sz f.type).sum)->cs.length=o+(L.map λf=>sz f.type).sum->
 (∀f∈L,∃ds,S f.type ds/\iI F ds ((cs.drop f.offset).take (sz f.type)))->∃ds,CF S (L.map (·.type)) ds/\iI F ds (cs.drop o)
 |[],o,cs,ho,hl,h=>⟨[],rfl,by
   rw[HD (by simpa using Nat.le_of_eq hl)];simp only[iI]⟩
 |f::L,o,cs,ho,hl,h=>by
  have h0:=ho 0 f rfl;simp only[GU,CS,List.sum_nil,E8]at h0;obtain⟨d1,s1,r1⟩:=h f jg;simp only[iT,oR]at hl;obtain⟨d2,s2,r2⟩:=yNl L (o+sz f.type) cs (λj g hg=>by
   have:=ho (j+1) g (by simpa using hg);simp only[xk,iT,oR]at this;omega) oM (λg hg=>h g (jx _ hg))
  refine⟨d1++d2,⟨d1,d2,rfl,s1,s2⟩,?_⟩;rw[h0]at r1;have e:cs.drop o=(cs.drop o).take (sz f.type)++cs.drop (o+sz f.type):=by
   rw[<- CU,A3]
  rw[e];exact r1.append r2
def yCk {F:PH} {S:List D->Prop} {sz:Nat}:∀(k:Nat) (cs:List ab),cs.length=k*sz->(∀i,i<k->∃ds,S ds/\iI F ds ((cs.drop (i*sz)).take sz))->
 ∃Fu:List (List D),Fu.length=k/\(∀d∈Fu,S d)/\iI F Fu.flatten cs
 |0,cs,hl,h=>⟨[],rfl,by simp,by
    have:cs=[]:=zm (by simpa using hl);subst this;simp only[List.flatten_nil,iI]⟩
 |k+1,cs,hl,h=>by
  obtain⟨d,s,r⟩:=h 0 oM;rw[Ak]at hl;obtain⟨Fu,h1,h2,h3⟩:=yCk (F:=F) (S:=S) (sz:=sz) k (cs.drop sz) (by rw[qc,hl];omega) (λi hi=>by
   obtain⟨d,s,r⟩:=h (i+1) oM;refine⟨d,s,?_⟩;rw[Ak,Hw]at r;rw[CU];exact r)
  refine⟨d::Fu,by simp[h1],?_,?_⟩
  ·intro x hx;rcases ku.1 hx with rfl|hx
   ·exact s
   ·exact h2 x hx
  ·rw[A2];rw[Nat.zero_mul,Eu]at r;have:=r.append h3;rwa [A3]at this
def yLt {F:PH} {S:List D->Prop} {sz:Nat}:∀(k:Nat) (l:List ab),(∀i,i<k->∃ds,S ds/\ds.length=sz/\iI F ds ((l.drop (i*sz)).take sz))->
 ∃fh:List (List D),fh.length=k/\(∀d∈fh,S d/\d.length=sz)/\Bu F fh l
 |0,l,h=>⟨[],rfl,by simp,by simp only[Bu]⟩
 |k+1,l,h=>by
  obtain⟨d,s,e,r⟩:=h 0 oM;obtain⟨fh,h1,h2,h3⟩:=yLt k (l.drop sz) (λi hi=>by
   obtain⟨d,s,e,r⟩:=h (i+1) oM;refine⟨d,s,e,?_⟩;rw[Ak,Hw]at r;rw[CU];exact r)
  refine⟨d::fh,by simp[h1],?_,?_⟩
  ·intro x hx;rcases ku.1 hx with rfl|hx
   ·exact⟨s,e⟩
   ·exact h2 x hx
  ·simp only[Bu];rw[Nat.zero_mul,Eu]at r;exact⟨l.take sz,l.drop sz,(A3 _ _).symm,r,h3⟩
def z9q {a:Addr} {n:Nat} {cs:List ab} (hn:0<n) (h:w.cells? base a n=ag cs):∃c T fr,w.heap[a.block]? =ag (.cells c T fr)/\a.spot=aj:=by
 obtain⟨_,h1,h2⟩:=World.cells?_some h;have h0:=h2 0 hn;rw[show a.add 0=a by simp[Addr.add],xl (by omega)]at h0;unfold World.cell? at h0;split at h0
 ·rename_i c T fr hc;split at h0
  ·cases h0
  ·rename_i hs;exact⟨c,T,fr,hc,by simpa using hs⟩
 ·cases h0
def z9o {a:Addr} {n:Nat} {cs:List ab} {c:Array ab} {T:aa} {fr:Nat×Nat} (h:w.cells? base a n=ag cs) (hc:w.heap[a.block]? =ag (.cells c T fr)) (hs:a.spot=aj):cs=(c.toList.drop a.off).take n:=by
 obtain⟨_,h1,h2⟩:=World.cells?_some h;apply Hz;intro i;by_cases hi:i<n
 ·have:=h2 i hi;rw[<- this];have ea:a.add i=⟨a.block,a.off+i,aj⟩:=by
   obtain⟨b,o,s⟩:=a;simp only at hs;subst hs;by_cases h0:i=0
   ·subst h0;simp[Addr.add]
   ·simp[Addr.add,h0]
  rw[ea];simp only[World.cell?,hc];rw[List.getElem?_take_of_lt hi,Bg];simp
 ·rw[ue (by omega),ue];simp only[oK];omega
def z2r (K:Kids P (·<P.types.size)):∀(m:Nat) {n:Nat} {t:aa} {cs:List ab} {x:ae H×List MemPlace},t<P.types.size->eF P m t=ak->DataW.trod enc P w base sp held n t cs=ag x->
 ∃ds,xm P m t ds/\iI (λb=>w.heap[b]?) ds cs:=by
 intro m
 induction m with
 |zero=>intro n t cs x _ h;simp[eF]at h
 |succ m ih=>
  intro n t cs x hT hp h;unfold eF at hp;unfold xm;split at hp
  ·rename_i hu;obtain⟨b,rfl,_⟩:=DataW.trod_bool hu h;exact⟨_,⟨b,rfl⟩,by simp only[iI,DR];exact⟨_,_,rfl,⟨rfl,rfl⟩,rfl⟩⟩
  ·rename_i k hu;obtain⟨z,rfl,_,hw⟩:=DataW.trod_int hu h;exact⟨_,⟨z,rfl,hw⟩,by simp only[iI,DR];exact⟨_,_,rfl,⟨rfl,rfl⟩,rfl⟩⟩
  ·rename_i hu;obtain⟨s,rfl,_,hw⟩:=DataW.trod_string hu h;exact⟨_,⟨s,rfl,hw⟩,by simp only[iI,DR];exact⟨_,_,rfl,⟨rfl,rfl⟩,rfl⟩⟩
  ·rename_i e hu;simp only[ld,sm]at hp;obtain⟨hp,hz⟩:=hp;rcases DataW.trod_slice hu h with⟨rfl,_⟩|⟨a,len,cap,elems,rest,n,_,rfl,_,hb,hl,hm,hlen,qf,_⟩
   ·exact⟨_,⟨[],rfl,by simp,by simp⟩,by simp only[iI,DR];exact⟨_,_,rfl,⟨aj,0,rfl,by simp,by simp,.inl trivial⟩,rfl⟩⟩
   ·by_cases h0:len=0
    ·subst h0;exact⟨_,⟨[],rfl,by simp,by simp⟩,by simp only[iI,DR];exact⟨_,_,rfl,⟨ag a,cap,rfl,by simp,by simp,.inl trivial⟩,rfl⟩⟩
    have el:∀i,i<len->∃Cp y,w.cells? base (a.add (i*P.cellsOf e)) (P.cellsOf e)=ag Cp/\DataW.trod enc P w base sp held n e Cp=ag y:=by
     intro i hi;have:=qf i hi;rw[xl (by omega),Option.bind_eq_some_iff]at this;obtain⟨Cp,h1,h2⟩:=this;exact⟨Cp,_,h1,h2⟩
    obtain⟨cs0,_,q1,_⟩:=el 0 oM;rw[Nat.zero_mul,show a.add 0=a by simp[Addr.add]]at q1;obtain⟨c,T,fr,hc,hs⟩:=z9q hz q1;obtain⟨fh,r1,r2,r3⟩:=yLt (F:=λb=>w.heap[b]?) (S:=xm P m e) (sz:=P.cellsOf e) len (c.toList.drop a.off) (λi hi=>by
     obtain⟨Cp,y,q1,q2⟩:=el i hi;obtain⟨ds,s1,s2⟩:=ih (K.slice hT hu) hp q2;have S1:=(World.cells?_some q1).2.1;have te:(a.add (i*P.cellsOf e)).spot=aj/\(a.add (i*P.cellsOf e)).off=a.off+i*P.cellsOf e/\(a.add (i*P.cellsOf e)).block=a.block:=by
      unfold Addr.add;split
      ·rename_i hi0;exact⟨hs,oM,rfl⟩
      ·exact⟨rfl,rfl,rfl⟩
     have:=z9o q1 (by rw[te.2.2];exact hc) te.1;rw[te.2.1,<- CU]at this;exact⟨ds,s1,by rw[<- s2.length,S1],this▸s2⟩)
    refine⟨_,⟨fh,rfl,oM,λel qf=>(r2 el qf).1⟩,?_⟩;simp only[iI,DR];obtain⟨b,o,s⟩:=a;simp only at hs hc;subst hs;refine⟨_,_,rfl,⟨ag ⟨b,o,aj⟩,cap,by rw[r1],oM,λel qf=>(r2 el qf).2,.inr ⟨b,o,c.toList,T,fr,rfl,by simpa using hc,r3⟩⟩,rfl⟩
  ·rename_i fs hu;obtain⟨xs,n,_,_,hl,Cm,hx⟩:=DataW.trod_struct hu h;obtain⟨k1,k2,k3⟩:=K.struct hT hu;have:=yNl (F:=λb=>w.heap[b]?) (S:=xm P m) (sz:=P.cellsOf) fs.toList 0 cs (λj f hj=>by rw[oC];exact k3 j f hj) (by rw[oC,hl,k2]) (λf hf=>by
    obtain⟨i,hi⟩:=Np hf;have NO:fs[i]? =ag f:=by simpa using hi
    have iq:i<fs.size:=by
     have:=(ju.1 hi).1;simpa using this
    have:=hx i f NO;rw[xl (by omega)]at this;exact ih (k1 f hf) (DO.1 hp f hf) this)
   simpa using this
  ·rename_i k e hu;obtain⟨xs,n,_,_,hl,Cm,hx⟩:=DataW.trod_array hu h;obtain⟨k1,k2⟩:=K.array hT hu;obtain⟨Fu,d1,d2,d3⟩:=yCk (F:=λb=>w.heap[b]?) (S:=xm P m e) (sz:=P.cellsOf e) k cs (by rw[hl,k2]) (λi hi=>by
    have:=hx i hi;rw[xl (by omega)]at this;exact ih k1 hp this)
   exact⟨_,⟨Fu,rfl,d1,d2⟩,d3⟩
  ·cases hp
def yLa (K:Kids P (·<P.types.size)) (m:Nat) {t:aa} {v:ab} {d:ae H} {ps:List MemPlace} (hT:t<P.types.size) (hp:eF P m t=ak) (h:DataW.Trod enc P w base sp held t v d ps):
 ∃ds,xm P m t ds/\iI (λb=>w.heap[b]?) ds v.cells.toList:=by
 obtain⟨n,hn⟩:=h;exact z2r K m hT hp hn
def zUr {w':af} (hB:Below w.heap.size w w') {p:MemPlace} (hp:p.block<w.heap.size):w.sameAt w' p:=by
 cases p with
 |cell b off=>
  have:=hB.block b hp;simp only[World.sameAt,World.cell?,this]
 |map b=>
  have:=hB.block b hp;exact this
def Ay {w':af} (K:Kids P (·<P.types.size)) (hz:∀t e,t<P.types.size->P.underlying t=ag (.slice e)->0<P.cellsOf e) (hB:Below w.heap.size w w') {sp':Nat->Bool}:
 ∀{ts:List aa} {vs:List ab} {ds:List (ae H)} {ps:List MemPlace},(∀t∈ts,t<P.types.size)->DataW.TrodAll enc P w 0 (λ_=>ak) ak ts vs ds ps->(∀p∈ps,p.block<w.heap.size)->(∀p∈ps,sp' p.block=ak)->DataW.TrodAll enc P w' 0 sp' ak ts vs ds ps
 |[],[],[],_,_,h,_,_=>h
 |t::ts,v::vs,d::ds,_,hT,⟨p,q,⟨n,h1⟩,h2,e⟩,hl,hs=>by
  refine⟨p,q,⟨n,?_⟩,Ay K hz hB (λt ht=>hT t (ku.2 (Or.inr ht))) h2 (λx hx=>hl x (by rw[e];exact zp _ hx)) (λx hx=>hs x (by rw[e];exact zp _ hx)),e⟩;exact DataW.trod_stays K (λ{t e} ht hu=>hz t e ht hu) (λh=>by cases h) (hT t jg) h1 (λx hx=>zUr hB (hl x (by rw[e];exact yo _ hx))) (λx hx=>hs x (by rw[e];exact yo _ hx))
def y5j {E:Ev} {cs:Array ab} {ds:List D} (h:iI E.F ds cs.toList):VR E (.agg (ds.map .d)) (.agg cs):=by
 simp only[VR];exact⟨cs.toList,by simp,h.Nt⟩
def Az (K:Kids P (·<P.types.size)) (m:Nat) {t e:aa} {v:ab} {d:ae H} {ps:List MemPlace} {r:Reach} {b0:Nat} (hT:t<P.types.size) (hu:P.underlying t=ag (.slice e)) (hp:eF P (m+1) t=ak) (pg:Value.okWide P w r b0 t v) (h:DataW.Trod enc P w base sp held t v d ps):
 ∃fh,DR (λb=>w.heap[b]?) (.ro (P.cellsOf e) fh) v/\fh.length<=maxLen/\∀el∈fh,xm P m e el:=by
 obtain⟨ds,h1,h2⟩:=yLa K (m+1) hT hp h;obtain⟨a,l,c,rfl⟩:=okWide_slice hu pg;unfold xm at h1;rw[hu]at h1;obtain⟨fh,rfl,h3,h4⟩:=h1;simp only[Value.cells,iI]at h2;obtain⟨x,xs,e1,e2,_⟩:=h2;simp only[List.cons.injEq]at e1;obtain⟨rfl,_⟩:=e1;exact⟨fh,e2,h3,h4⟩
def CN (K:Kids P (·<P.types.size)) (m:Nat) {t:aa} {fs:Array Field} {v:ab} {d:ae H} {ps:List MemPlace} {r:Reach} {b0:Nat} (hT:t<P.types.size) (hu:P.underlying t=ag (.struct fs)) (hp:eF P (m+1) t=ak) (pg:Value.okWide P w r b0 t v) (h:DataW.Trod enc P w base sp held t v d ps):
 ∃ds,CF (xm P m) (fs.toList.map (·.type)) ds/\VR (E0 w) (.agg (ds.map .d)) v:=by
 obtain⟨ds,h1,h2⟩:=yLa K (m+1) hT hp h;obtain⟨cs,rfl,_⟩:=okWide_struct hu pg;unfold xm at h1;rw[hu]at h1;exact⟨ds,h1,y5j (E:=E0 w) h2⟩
def AV {α β:Type} {f:α->β} {Q:α->Prop}:∀{l:List β},(∀y∈l,∃x,y=f x/\Q x)->∃xs:List α,l=xs.map f/\∀x∈xs,Q x
 |[],_=>⟨[],rfl,by simp⟩
 |y::l,h=>by
  obtain⟨x,h1,h2⟩:=h y jg;obtain⟨xs,h3,h4⟩:=AV (l:=l) λz hz=>h z (jx _ hz)
  refine⟨x::xs,by rw[iT,<- h1,<- h3],?_⟩;intro z hz;rcases ku.1 hz with rfl|hz
  ·exact h2
  ·exact h4 z hz
def jw {m:Nat} {t:aa} {k:IntKind} {ds:List D} (hu:P.underlying t=ag (.int k)) (h:xm P m t ds):∃n,ds=[.v (.int k n)]/\(Lit.int k n).wf=ak:=by
 cases m with
 |zero=>exact h.elim
 |succ m=>unfold xm at h;rw[hu]at h;exact h
def ze {m:Nat} {t:aa} {ds:List D} (hu:P.underlying t=ag .string) (h:xm P m t ds):∃s,ds=[.v (.string s)]/\s.size<=maxLen:=by
 cases m with
 |zero=>exact h.elim
 |succ m=>unfold xm at h;rw[hu]at h;exact h
def Ef {m:Nat} {t e:aa} {ds:List D} (hu:P.underlying t=ag (.slice e)) (h:xm P (m+1) t ds):∃fh,ds=[.ro (P.cellsOf e) fh]/\fh.length<=maxLen/\∀el∈fh,xm P m e el:=by
 unfold xm at h;rw[hu]at h;exact h
def CM {m:Nat} {t:aa} {fs:Array Field} {ds:List D} (hu:P.underlying t=ag (.struct fs)) (h:xm P (m+1) t ds):CF (xm P m) (fs.toList.map (·.type)) ds:=by
 unfold xm at h;rw[hu]at h;exact h
end Sx
