/- Texts of ours. No condition. -/
import Derived.OpenShut
import Derived.ProofKit
import Derived.Test.YtaafldgiafcgfaaGreatC14
set_option linter.all false
open Go renaming TypeId->aa,Value->ab,Program->ac,DataW->ae,World->af
open Option renaming some->ag,none->aj
open Bool renaming true->ak
namespace Sx
open Go Go.RowKit Go.ChangeShapes Go.WideShapes Go.ChangeAt
def post_of_below {H:Type} {enc:aa×ab->H} {P:ac} {f:Func} {s:ChangeSpec} {apart fresh handsOn again:Bool} {W W':af} {args:Array ab} {v:ab} {ds gs:List (ae H)} {before pa pv:List MemPlace}
 (hW:DataW.Whole enc P f.params.toList s.vars apart W args.toList ds gs before)
 (hres:∀(b:Nat) (sp:Nat->Bool) (hd:Bool),DataW.TrodAll enc P W' b sp hd f.resultTypes.toList (v.resultList f.resultTypes.size) (s.fn H (ds++gs)).results [])
 (hargs:∀sp:Nat->Bool,(∀p∈before,sp p.block=ak)->DataW.TrodAll enc P W' 0 sp ak f.params.toList args.toList (s.fn H (ds++gs)).args pa)
 (hvars:∀sp:Nat->Bool,(∀p∈before,sp p.block=ak)->DataW.TrodVars enc P W' sp s.vars (s.fn H (ds++gs)).vars pv)
 (hps:before=pa++pv) (hB:Below W.heap.size W W')
 (hok:∀(j:Nat) (t:aa) (r:ab),f.resultTypes[j]? =ag t->(v.resultList f.resultTypes.size)[j]? =ag r->Value.okWide P W' .any 0 t r):
 s.post enc P f apart fresh handsOn again W args v W':=by
 have hold:∀p∈before,(λb=>decide (b<W.heap.size)) p.block=ak:=λp hp=>by simpa using hW.lt p hp
 have hlt:=hW.lt;refine⟨ds,gs,before,[],pa,pv,hW,hres _ _ _,hargs _ hold,hvars _ hold,World.keptBut_mono (λp hp=>⟨hp,?_⟩) (hB.frame (·∈before)),λ_=> ?_⟩
 ·rw[hps,y6f]at hp;exact Or.inr hp
 ·obtain⟨_,_,_,_,_,hz,hn⟩:=hW;refine⟨hok,_,_,([]++pa)++pv,⟨[]++pa,pv,trodAll_append (hargs _ (λ_ _=>rfl)) (hres _ _ _),hvars _ (λ_ _=>rfl),rfl,?_,?_⟩,?_⟩
  ·intro b off hp;have hp:MemPlace.cell b off∈before:=by rw[hps];simpa using hp
   have hl:b<W.heap.size:=hlt _ hp;rw[hB.frozen (by exact hl)];exact hz b off hp
  ·intro ha;have:=hn ha;rw[hps]at this;simpa using this
  ·intro p hp _;rw[hps];simpa using hp
open Go Go.RowKit Go.ChangeShapes Go.WideShapes Cv
variable {H:Type} {enc:aa×ab->H} {P:ac} {w:af} {base:Nat} {sp:Nat->Bool} {held:Bool}
def sX (P:ac):Nat->aa->Bool
 |0,_=>false
 |m+1,t=>match P.underlying t with
  |some .bool=>ak
  |some (.int _)=>ak
  |some .string=>ak
  |some (.slice e)=>sX P m e && decide (0<P.cellsOf e)
  |some (.struct fs)=>fs.toList.all λf=>sX P m f.type
  |some (.array _ e)=>sX P m e
  |_=>false
def ShpF (S:aa->List D->Prop):List aa->List D->Prop
 |[],ds=>ds=[]
 |t::ts,ds=>∃a b,ds=a++b/\S t a/\ShpF S ts b
def Shp (P:ac):Nat->aa->List D->Prop
 |0,_,_=>False
 |m+1,t,ds=>match P.underlying t with
  |some .bool=>∃b,ds=[.v (.bool b)]
  |some (.int k)=>∃n,ds=[.v (.int k n)]/\(Lit.int k n).wf=ak
  |some .string=>∃s,ds=[.v (.string s)]/\s.size<=maxLen
  |some (.slice e)=>∃els,ds=[.ro (P.cellsOf e) els]/\els.length<=maxLen/\∀el∈els,Shp P m e el
  |some (.struct fs)=>ShpF (Shp P m) (fs.toList.map (·.type)) ds
  |some (.array k e)=>∃dss:List (List D),ds=dss.flatten/\dss.length=k/\∀d∈dss,Shp P m e d
  |_=>False
def yJl {F:PH} {S:aa->List D->Prop} {sz:aa->Nat}:∀(L:List Field) (o:Nat) (cs:List ab),(∀(j:Nat) f,L[j]? =ag f->f.offset=o+((L.take j).map λf=>sz f.type).sum)->cs.length=o+(L.map λf=>sz f.type).sum->
 (∀f∈L,∃ds,S f.type ds/\DRL F ds ((cs.drop f.offset).take (sz f.type)))->∃ds,ShpF S (L.map (·.type)) ds/\DRL F ds (cs.drop o)
 |[],o,cs,ho,hl,h=>⟨[],rfl,by
   rw[y8j (by simpa using Nat.le_of_eq hl)];simp only[DRL]⟩
 |f::L,o,cs,ho,hl,h=>by
  have h0:=ho 0 f rfl;simp only[y9s,y8t,List.sum_nil,y9n]at h0;obtain⟨d1,s1,r1⟩:=h f y5h;simp only[y5p,y6s]at hl;obtain⟨d2,s2,r2⟩:=yJl L (o+sz f.type) cs (λj g hg=>by
   have:=ho (j+1) g (by simpa using hg);simp only[y6l,y5p,y6s]at this;omega) (by omega) (λg hg=>h g (y5j _ hg))
  refine⟨d1++d2,⟨d1,d2,rfl,s1,s2⟩,?_⟩;rw[h0]at r1;have e:cs.drop o=(cs.drop o).take (sz f.type)++cs.drop (o+sz f.type):=by
   rw[<- y8l,y7g]
  rw[e];exact r1.append r2
def z9o {F:PH} {S:List D->Prop} {sz:Nat}:∀(k:Nat) (cs:List ab),cs.length=k*sz->(∀i,i<k->∃ds,S ds/\DRL F ds ((cs.drop (i*sz)).take sz))->
 ∃dss:List (List D),dss.length=k/\(∀d∈dss,S d)/\DRL F dss.flatten cs
 |0,cs,hl,h=>⟨[],rfl,by simp,by
    have:cs=[]:=y6d (by simpa using hl);subst this;simp only[List.flatten_nil,DRL]⟩
 |k+1,cs,hl,h=>by
  obtain⟨d,s,r⟩:=h 0 (by omega);rw[y8a]at hl;obtain⟨dss,h1,h2,h3⟩:=z9o (F:=F) (S:=S) (sz:=sz) k (cs.drop sz) (by rw[y5z,hl];omega) (λi hi=>by
   obtain⟨d,s,r⟩:=h (i+1) (by omega);refine⟨d,s,?_⟩;rw[y8a,xAj]at r;rw[y8l];exact r)
  refine⟨d::dss,by simp[h1],?_,?_⟩
  ·intro x hx;rcases y5w.1 hx with rfl|hx
   ·exact s
   ·exact h2 x hx
  ·rw[y7o];rw[Nat.zero_mul,y8q]at r;have:=r.append h3;rwa [y7g]at this
def yEy {F:PH} {S:List D->Prop} {sz:Nat}:∀(k:Nat) (l:List ab),(∀i,i<k->∃ds,S ds/\ds.length=sz/\DRL F ds ((l.drop (i*sz)).take sz))->
 ∃els:List (List D),els.length=k/\(∀d∈els,S d/\d.length=sz)/\DRS F els l
 |0,l,h=>⟨[],rfl,by simp,by simp only[DRS]⟩
 |k+1,l,h=>by
  obtain⟨d,s,e,r⟩:=h 0 (by omega);obtain⟨els,h1,h2,h3⟩:=yEy k (l.drop sz) (λi hi=>by
   obtain⟨d,s,e,r⟩:=h (i+1) (by omega);refine⟨d,s,e,?_⟩;rw[y8a,xAj]at r;rw[y8l];exact r)
  refine⟨d::els,by simp[h1],?_,?_⟩
  ·intro x hx;rcases y5w.1 hx with rfl|hx
   ·exact⟨s,e⟩
   ·exact h2 x hx
  ·simp only[DRS];rw[Nat.zero_mul,y8q]at r;exact⟨l.take sz,l.drop sz,(y7g _ _).symm,r,h3⟩
def z4c {a:Addr} {n:Nat} {cs:List ab} (hn:0<n) (h:w.cells? base a n=ag cs):∃c T fr,w.heap[a.block]? =ag (.cells c T fr)/\a.spot=aj:=by
 obtain⟨_,h1,h2⟩:=World.cells?_some h;have h0:=h2 0 hn;rw[show a.add 0=a by simp[Addr.add],y6e (by omega)]at h0;unfold World.cell? at h0;split at h0
 ·rename_i c T fr hc;split at h0
  ·cases h0
  ·rename_i hs;exact⟨c,T,fr,hc,by simpa using hs⟩
 ·cases h0
def z5c {a:Addr} {n:Nat} {cs:List ab} {c:Array ab} {T:aa} {fr:Nat×Nat} (h:w.cells? base a n=ag cs) (hc:w.heap[a.block]? =ag (.cells c T fr)) (hs:a.spot=aj):cs=(c.toList.drop a.off).take n:=by
 obtain⟨_,h1,h2⟩:=World.cells?_some h;apply y9a;intro i;by_cases hi:i<n
 ·have:=h2 i hi;rw[<- this];have ea:a.add i=⟨a.block,a.off+i,aj⟩:=by
   obtain⟨b,o,s⟩:=a;simp only at hs;subst hs;by_cases h0:i=0
   ·subst h0;simp[Addr.add]
   ·simp[Addr.add,h0]
  rw[ea];simp only[World.cell?,hc];rw[List.getElem?_take_of_lt hi,y7p];simp
 ·rw[y6h (by omega),y6h];simp only[y5t];omega
def z0a (K:Kids P (·<P.types.size)):∀(m:Nat) {n:Nat} {t:aa} {cs:List ab} {x:ae H×List MemPlace},t<P.types.size->sX P m t=ak->DataW.trod enc P w base sp held n t cs=ag x->
 ∃ds,Shp P m t ds/\DRL (λb=>w.heap[b]?) ds cs:=by
 intro m
 induction m with
 |zero=>intro n t cs x _ h;simp[sX]at h
 |succ m ih=>
  intro n t cs x hT hp h;unfold sX at hp;unfold Shp;split at hp
  ·rename_i hu;obtain⟨b,rfl,_⟩:=DataW.trod_bool hu h;exact⟨_,⟨b,rfl⟩,by simp only[DRL,DR];exact⟨_,_,rfl,⟨rfl,rfl⟩,rfl⟩⟩
  ·rename_i k hu;obtain⟨z,rfl,_,hw⟩:=DataW.trod_int hu h;exact⟨_,⟨z,rfl,hw⟩,by simp only[DRL,DR];exact⟨_,_,rfl,⟨rfl,rfl⟩,rfl⟩⟩
  ·rename_i hu;obtain⟨s,rfl,_,hw⟩:=DataW.trod_string hu h;exact⟨_,⟨s,rfl,hw⟩,by simp only[DRL,DR];exact⟨_,_,rfl,⟨rfl,rfl⟩,rfl⟩⟩
  ·rename_i e hu;simp only[y5o,y6p]at hp;obtain⟨hp,hz⟩:=hp;rcases DataW.trod_slice hu h with⟨rfl,_⟩|⟨a,len,cap,elems,rest,n,_,rfl,_,hb,hl,hm,hlen,hel,_⟩
   ·exact⟨_,⟨[],rfl,by simp,by simp⟩,by simp only[DRL,DR];exact⟨_,_,rfl,⟨aj,0,rfl,by simp,by simp,.inl trivial⟩,rfl⟩⟩
   ·by_cases h0:len=0
    ·subst h0;exact⟨_,⟨[],rfl,by simp,by simp⟩,by simp only[DRL,DR];exact⟨_,_,rfl,⟨ag a,cap,rfl,by simp,by simp,.inl trivial⟩,rfl⟩⟩
    have el:∀i,i<len->∃cs' y,w.cells? base (a.add (i*P.cellsOf e)) (P.cellsOf e)=ag cs'/\DataW.trod enc P w base sp held n e cs'=ag y:=by
     intro i hi;have:=hel i hi;rw[y6e (by omega),Option.bind_eq_some_iff]at this;obtain⟨cs',h1,h2⟩:=this;exact⟨cs',_,h1,h2⟩
    obtain⟨cs0,_,q1,_⟩:=el 0 (by omega);rw[Nat.zero_mul,show a.add 0=a by simp[Addr.add]]at q1;obtain⟨c,T,fr,hc,hs⟩:=z4c hz q1;obtain⟨els,r1,r2,r3⟩:=yEy (F:=λb=>w.heap[b]?) (S:=Shp P m e) (sz:=P.cellsOf e) len (c.toList.drop a.off) (λi hi=>by
     obtain⟨cs',y,q1,q2⟩:=el i hi;obtain⟨ds,s1,s2⟩:=ih (K.slice hT hu) hp q2;have hlen':=(World.cells?_some q1).2.1;have hsp:(a.add (i*P.cellsOf e)).spot=aj/\(a.add (i*P.cellsOf e)).off=a.off+i*P.cellsOf e/\(a.add (i*P.cellsOf e)).block=a.block:=by
      unfold Addr.add;split
      ·rename_i hi0;exact⟨hs,by omega,rfl⟩
      ·exact⟨rfl,rfl,rfl⟩
     have:=z5c q1 (by rw[hsp.2.2];exact hc) hsp.1;rw[hsp.2.1,<- y8l]at this;exact⟨ds,s1,by rw[<- s2.length,hlen'],this▸s2⟩)
    refine⟨_,⟨els,rfl,by omega,λel hel=>(r2 el hel).1⟩,?_⟩;simp only[DRL,DR];obtain⟨b,o,s⟩:=a;simp only at hs hc;subst hs;refine⟨_,_,rfl,⟨ag ⟨b,o,aj⟩,cap,by rw[r1],by omega,λel hel=>(r2 el hel).2,.inr ⟨b,o,c.toList,T,fr,rfl,by simpa using hc,r3⟩⟩,rfl⟩
  ·rename_i fs hu;obtain⟨xs,n,_,_,hl,hxl,hx⟩:=DataW.trod_struct hu h;obtain⟨k1,k2,k3⟩:=K.struct hT hu;have:=yJl (F:=λb=>w.heap[b]?) (S:=Shp P m) (sz:=P.cellsOf) fs.toList 0 cs (λj f hj=>by rw[y6c];exact k3 j f hj) (by rw[y6c,hl,k2]) (λf hf=>by
    obtain⟨i,hi⟩:=xAo hf;have hi':fs[i]? =ag f:=by simpa using hi
    have hlt:i<fs.size:=by
     have:=(y5f.1 hi).1;simpa using this
    have:=hx i f hi';rw[y6e (by omega)]at this;exact ih (k1 f hf) (y8h.1 hp f hf) this)
   simpa using this
  ·rename_i k e hu;obtain⟨xs,n,_,_,hl,hxl,hx⟩:=DataW.trod_array hu h;obtain⟨k1,k2⟩:=K.array hT hu;obtain⟨dss,d1,d2,d3⟩:=z9o (F:=λb=>w.heap[b]?) (S:=Shp P m e) (sz:=P.cellsOf e) k cs (by rw[hl,k2]) (λi hi=>by
    have:=hx i hi;rw[y6e (by omega)]at this;exact ih k1 hp this)
   exact⟨_,⟨dss,rfl,d1,d2⟩,d3⟩
  ·cases hp
def yJb (K:Kids P (·<P.types.size)) (m:Nat) {t:aa} {v:ab} {d:ae H} {ps:List MemPlace} (hT:t<P.types.size) (hp:sX P m t=ak) (h:DataW.Trod enc P w base sp held t v d ps):
 ∃ds,Shp P m t ds/\DRL (λb=>w.heap[b]?) ds v.cells.toList:=by
 obtain⟨n,hn⟩:=h;exact z0a K m hT hp hn
def zQg {w':af} (hB:Below w.heap.size w w') {p:MemPlace} (hp:p.block<w.heap.size):w.sameAt w' p:=by
 cases p with
 |cell b off=>
  have:=hB.block b hp;simp only[World.sameAt,World.cell?,this]
 |map b=>
  have:=hB.block b hp;exact this
def args_stay {w':af} (K:Kids P (·<P.types.size)) (hz:∀t e,t<P.types.size->P.underlying t=ag (.slice e)->0<P.cellsOf e) (hB:Below w.heap.size w w') {sp':Nat->Bool}:
 ∀{ts:List aa} {vs:List ab} {ds:List (ae H)} {ps:List MemPlace},(∀t∈ts,t<P.types.size)->DataW.TrodAll enc P w 0 (λ_=>ak) ak ts vs ds ps->(∀p∈ps,p.block<w.heap.size)->(∀p∈ps,sp' p.block=ak)->DataW.TrodAll enc P w' 0 sp' ak ts vs ds ps
 |[],[],[],_,_,h,_,_=>h
 |t::ts,v::vs,d::ds,_,hT,⟨p,q,⟨n,h1⟩,h2,e⟩,hl,hs=>by
  refine⟨p,q,⟨n,?_⟩,args_stay K hz hB (λt ht=>hT t (y5w.2 (Or.inr ht))) h2 (λx hx=>hl x (by rw[e];exact y6x _ hx)) (λx hx=>hs x (by rw[e];exact y6x _ hx)),e⟩;exact DataW.trod_stays K (λ{t e} ht hu=>hz t e ht hu) (λh=>by cases h) (hT t y5h) h1 (λx hx=>zQg hB (hl x (by rw[e];exact y6u _ hx))) (λx hx=>hs x (by rw[e];exact y6u _ hx))
def yVd {E:Ev} {cs:Array ab} {ds:List D} (h:DRL E.F ds cs.toList):VR E (.agg (ds.map .d)) (.agg cs):=by
 simp only[VR];exact⟨cs.toList,by simp,h.vrl⟩
def arg_slice (K:Kids P (·<P.types.size)) (m:Nat) {t e:aa} {v:ab} {d:ae H} {ps:List MemPlace} {r:Reach} {b0:Nat} (hT:t<P.types.size) (hu:P.underlying t=ag (.slice e)) (hp:sX P (m+1) t=ak) (hok:Value.okWide P w r b0 t v) (h:DataW.Trod enc P w base sp held t v d ps):
 ∃els,DR (λb=>w.heap[b]?) (.ro (P.cellsOf e) els) v/\els.length<=maxLen/\∀el∈els,Shp P m e el:=by
 obtain⟨ds,h1,h2⟩:=yJb K (m+1) hT hp h;obtain⟨a,l,c,rfl⟩:=okWide_slice hu hok;unfold Shp at h1;rw[hu]at h1;obtain⟨els,rfl,h3,h4⟩:=h1;simp only[Value.cells,DRL]at h2;obtain⟨x,xs,e1,e2,_⟩:=h2;simp only[List.cons.injEq]at e1;obtain⟨rfl,_⟩:=e1;exact⟨els,e2,h3,h4⟩
def arg_struct (K:Kids P (·<P.types.size)) (m:Nat) {t:aa} {fs:Array Field} {v:ab} {d:ae H} {ps:List MemPlace} {r:Reach} {b0:Nat} (hT:t<P.types.size) (hu:P.underlying t=ag (.struct fs)) (hp:sX P (m+1) t=ak) (hok:Value.okWide P w r b0 t v) (h:DataW.Trod enc P w base sp held t v d ps):
 ∃ds,ShpF (Shp P m) (fs.toList.map (·.type)) ds/\VR (E0 w) (.agg (ds.map .d)) v:=by
 obtain⟨ds,h1,h2⟩:=yJb K (m+1) hT hp h;obtain⟨cs,rfl,_⟩:=okWide_struct hu hok;unfold Shp at h1;rw[hu]at h1;exact⟨ds,h1,yVd (E:=E0 w) h2⟩
def map_of {α β:Type} {f:α->β} {Q:α->Prop}:∀{l:List β},(∀y∈l,∃x,y=f x/\Q x)->∃xs:List α,l=xs.map f/\∀x∈xs,Q x
 |[],_=>⟨[],rfl,by simp⟩
 |y::l,h=>by
  obtain⟨x,h1,h2⟩:=h y y5h;obtain⟨xs,h3,h4⟩:=map_of (l:=l) λz hz=>h z (y5j _ hz)
  refine⟨x::xs,by rw[y5p,<- h1,<- h3],?_⟩;intro z hz;rcases y5w.1 hz with rfl|hz
  ·exact h2
  ·exact h4 z hz
def shp_int {m:Nat} {t:aa} {k:IntKind} {ds:List D} (hu:P.underlying t=ag (.int k)) (h:Shp P m t ds):∃n,ds=[.v (.int k n)]/\(Lit.int k n).wf=ak:=by
 cases m with
 |zero=>exact h.elim
 |succ m=>unfold Shp at h;rw[hu]at h;exact h
def shp_string {m:Nat} {t:aa} {ds:List D} (hu:P.underlying t=ag .string) (h:Shp P m t ds):∃s,ds=[.v (.string s)]/\s.size<=maxLen:=by
 cases m with
 |zero=>exact h.elim
 |succ m=>unfold Shp at h;rw[hu]at h;exact h
def shp_slice {m:Nat} {t e:aa} {ds:List D} (hu:P.underlying t=ag (.slice e)) (h:Shp P (m+1) t ds):∃els,ds=[.ro (P.cellsOf e) els]/\els.length<=maxLen/\∀el∈els,Shp P m e el:=by
 unfold Shp at h;rw[hu]at h;exact h
def shp_struct {m:Nat} {t:aa} {fs:Array Field} {ds:List D} (hu:P.underlying t=ag (.struct fs)) (h:Shp P (m+1) t ds):ShpF (Shp P m) (fs.toList.map (·.type)) ds:=by
 unfold Shp at h;rw[hu]at h;exact h
end Sx
