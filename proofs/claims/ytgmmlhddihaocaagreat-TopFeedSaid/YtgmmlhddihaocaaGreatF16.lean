/- Texts of ours. No condition. -/
import Derived.OpenShut
import Derived.ProofKit
import Derived.Test.YtgmmlhddihaocaaGreatF15
set_option linter.all false
open Go renaming TypeId->ab,Value->ac,Program->ae,DataW->af,World->ag
open Option renaming some->aj,none->ak
open Bool renaming true->am
namespace Sx
open Go Go.RowKit Go.ChangeShapes Go.WideShapes Go.ChangeAt
def zn {H:Type} {enc:ab×ac->H} {P:ae} {f:Func} {s:ChangeSpec} {apart fresh handsOn again:Bool} {W W':ag} {args:Array ac} {v:ac} {ds gs:List (af H)} {before pa pv:List MemPlace}
 (hW:DataW.Whole enc P f.params.toList s.vars apart W args.toList ds gs before)
 (S9:∀(b:Nat) (sp:Nat->Bool) (hd:Bool),DataW.TrodAll enc P W' b sp hd f.resultTypes.toList (v.resultList f.resultTypes.size) (s.fn H (ds++gs)).results [])
 (nr:∀sp:Nat->Bool,(∀p∈before,sp p.block=am)->DataW.TrodAll enc P W' 0 sp am f.params.toList args.toList (s.fn H (ds++gs)).args pa)
 (KB:∀sp:Nat->Bool,(∀p∈before,sp p.block=am)->DataW.TrodVars enc P W' sp s.vars (s.fn H (ds++gs)).vars pv)
 (Cf:before=pa++pv) (hB:Below W.heap.size W W')
 (oT:∀(j:Nat) (t:ab) (r:ac),f.resultTypes[j]? =aj t->(v.resultList f.resultTypes.size)[j]? =aj r->Value.okWide P W' .any 0 t r):
 s.post enc P f apart fresh handsOn again W args v W':=by
 have hold:∀p∈before,(λb=>decide (b<W.heap.size)) p.block=am:=λp hp=>by simpa using hW.lt p hp
 have gn:=hW.lt;refine⟨ds,gs,before,[],pa,pv,hW,S9 _ _ _,nr _ hold,KB _ hold,World.keptBut_mono (λp hp=>⟨hp,?_⟩) (hB.frame (·∈before)),λ_=> ?_⟩
 ·rw[Cf,oK]at hp;exact Or.inr hp
 ·obtain⟨_,_,_,_,_,hz,hn⟩:=hW;refine⟨oT,_,_,([]++pa)++pv,⟨[]++pa,pv,trodAll_append (nr _ (λ_ _=>rfl)) (S9 _ _ _),KB _ (λ_ _=>rfl),rfl,?_,?_⟩,?_⟩
  ·intro b off hp;have hp:MemPlace.cell b off∈before:=by rw[Cf];simpa using hp
   have hl:b<W.heap.size:=gn _ hp;rw[hB.frozen (by exact hl)];exact hz b off hp
  ·intro ha;have:=hn ha;rw[Cf]at this;simpa using this
  ·intro p hp _;rw[Cf];simpa using hp
open Go Go.RowKit Go.ChangeShapes Go.WideShapes Cv
variable {H:Type} {enc:ab×ac->H} {P:ae} {w:ag} {base:Nat} {sp:Nat->Bool} {held:Bool}
def eZ (P:ae):Nat->ab->Bool
 |0,_=>false
 |m+1,t=>match P.underlying t with
  |some .bool=>am
  |some (.int _)=>am
  |some .string=>am
  |some (.slice e)=>eZ P m e && decide (0<P.cellsOf e)
  |some (.struct fs)=>fs.toList.all λf=>eZ P m f.type
  |some (.array _ e)=>eZ P m e
  |_=>false
def CX (S:ab->List D->Prop):List ab->List D->Prop
 |[],ds=>ds=[]
 |t::ts,ds=>∃a b,ds=a++b/\S t a/\CX S ts b
def wu (P:ae):Nat->ab->List D->Prop
 |0,_,_=>False
 |m+1,t,ds=>match P.underlying t with
  |some .bool=>∃b,ds=[.v (.bool b)]
  |some (.int k)=>∃n,ds=[.v (.int k n)]/\(Lit.int k n).wf=am
  |some .string=>∃s,ds=[.v (.string s)]/\s.size<=maxLen
  |some (.slice e)=>∃ez,ds=[.ro (P.cellsOf e) ez]/\ez.length<=maxLen/\∀el∈ez,wu P m e el
  |some (.struct fs)=>CX (wu P m) (fs.toList.map (·.type)) ds
  |some (.array k e)=>∃FW:List (List D),ds=FW.flatten/\FW.length=k/\∀d∈FW,wu P m e d
  |_=>False
def yNi {F:PH} {S:ab->List D->Prop} {sz:ab->Nat}:∀(L:List Field) (o:Nat) (cs:List ac),(∀(j:Nat) f,L[j]? =aj f->f.offset=o+((L.take j).map λf=>sz f.type).sum)->cs.length=o+(L.map λf=>sz f.type).sum->
 (∀f∈L,∃ds,S f.type ds/\iy F ds ((cs.drop f.offset).take (sz f.type)))->∃ds,CX S (L.map (·.type)) ds/\iy F ds (cs.drop o)
 |[],o,cs,ho,hl,h=>⟨[],rfl,by
   rw[Ik (by simpa using Nat.le_of_eq hl)];simp only[iy]⟩
 |f::L,o,cs,ho,hl,h=>by
  have h0:=ho 0 f rfl;simp only[EN,B9,List.sum_nil,Fw]at h0;obtain⟨d1,s1,r1⟩:=h f iS;simp only[jj,rk]at hl;obtain⟨d2,s2,r2⟩:=yNi L (o+sz f.type) cs (λj g hg=>by
   have:=ho (j+1) g (by simpa using hg);simp only[ux,jj,rk]at this;omega) oM (λg hg=>h g (jc _ hg))
  refine⟨d1++d2,⟨d1,d2,rfl,s1,s2⟩,?_⟩;rw[h0]at r1;have e:cs.drop o=(cs.drop o).take (sz f.type)++cs.drop (o+sz f.type):=by
   rw[<- Db,Bb]
  rw[e];exact r1.append r2
def yGj {F:PH} {S:List D->Prop} {sz:Nat}:∀(k:Nat) (cs:List ac),cs.length=k*sz->(∀i,i<k->∃ds,S ds/\iy F ds ((cs.drop (i*sz)).take sz))->
 ∃FW:List (List D),FW.length=k/\(∀d∈FW,S d)/\iy F FW.flatten cs
 |0,cs,hl,h=>⟨[],rfl,by simp,by
    have:cs=[]:=xu (by simpa using hl);subst this;simp only[List.flatten_nil,iy]⟩
 |k+1,cs,hl,h=>by
  obtain⟨d,s,r⟩:=h 0 oM;rw[zq]at hl;obtain⟨FW,h1,h2,h3⟩:=yGj (F:=F) (S:=S) (sz:=sz) k (cs.drop sz) (by rw[o8,hl];omega) (λi hi=>by
   obtain⟨d,s,r⟩:=h (i+1) oM;refine⟨d,s,?_⟩;rw[zq,Ih]at r;rw[Db];exact r)
  refine⟨d::FW,by simp[h1],?_,?_⟩
  ·intro x hx;rcases jq.1 hx with rfl|hx
   ·exact s
   ·exact h2 x hx
  ·rw[A9];rw[Nat.zero_mul,Ea]at r;have:=r.append h3;rwa [Bb]at this
def yRp {F:PH} {S:List D->Prop} {sz:Nat}:∀(k:Nat) (l:List ac),(∀i,i<k->∃ds,S ds/\ds.length=sz/\iy F ds ((l.drop (i*sz)).take sz))->
 ∃ez:List (List D),ez.length=k/\(∀d∈ez,S d/\d.length=sz)/\BG F ez l
 |0,l,h=>⟨[],rfl,by simp,by simp only[BG]⟩
 |k+1,l,h=>by
  obtain⟨d,s,e,r⟩:=h 0 oM;obtain⟨ez,h1,h2,h3⟩:=yRp k (l.drop sz) (λi hi=>by
   obtain⟨d,s,e,r⟩:=h (i+1) oM;refine⟨d,s,e,?_⟩;rw[zq,Ih]at r;rw[Db];exact r)
  refine⟨d::ez,by simp[h1],?_,?_⟩
  ·intro x hx;rcases jq.1 hx with rfl|hx
   ·exact⟨s,e⟩
   ·exact h2 x hx
  ·simp only[BG];rw[Nat.zero_mul,Ea]at r;exact⟨l.take sz,l.drop sz,(Bb _ _).symm,r,h3⟩
def z7p {a:Addr} {n:Nat} {cs:List ac} (hn:0<n) (h:w.cells? base a n=aj cs):∃c T fr,w.heap[a.block]? =aj (.cells c T fr)/\a.spot=ak:=by
 obtain⟨_,h1,h2⟩:=World.cells?_some h;have h0:=h2 0 hn;rw[show a.add 0=a by simp[Addr.add],u' (by omega)]at h0;unfold World.cell? at h0;split at h0
 ·rename_i c T fr hc;split at h0
  ·cases h0
  ·rename_i hs;exact⟨c,T,fr,hc,by simpa using hs⟩
 ·cases h0
def z8b {a:Addr} {n:Nat} {cs:List ac} {c:Array ac} {T:ab} {fr:Nat×Nat} (h:w.cells? base a n=aj cs) (hc:w.heap[a.block]? =aj (.cells c T fr)) (hs:a.spot=ak):cs=(c.toList.drop a.off).take n:=by
 obtain⟨_,h1,h2⟩:=World.cells?_some h;apply Dd;intro i;by_cases hi:i<n
 ·have:=h2 i hi;rw[<- this];have ea:a.add i=⟨a.block,a.off+i,ak⟩:=by
   obtain⟨b,o,s⟩:=a;simp only at hs;subst hs;by_cases h0:i=0
   ·subst h0;simp[Addr.add]
   ·simp[Addr.add,h0]
  rw[ea];simp only[World.cell?,hc];rw[List.getElem?_take_of_lt hi,Bs];simp
 ·rw[ud (by omega),ud];simp only[ng];omega
def z5i (K:Kids P (·<P.types.size)):∀(m:Nat) {n:Nat} {t:ab} {cs:List ac} {x:af H×List MemPlace},t<P.types.size->eZ P m t=am->DataW.trod enc P w base sp held n t cs=aj x->
 ∃ds,wu P m t ds/\iy (λb=>w.heap[b]?) ds cs:=by
 intro m
 induction m with
 |zero=>intro n t cs x _ h;simp[eZ]at h
 |succ m ih=>
  intro n t cs x hT hp h;unfold eZ at hp;unfold wu;split at hp
  ·rename_i hu;obtain⟨b,rfl,_⟩:=DataW.trod_bool hu h;exact⟨_,⟨b,rfl⟩,by simp only[iy,DR];exact⟨_,_,rfl,⟨rfl,rfl⟩,rfl⟩⟩
  ·rename_i k hu;obtain⟨z,rfl,_,hw⟩:=DataW.trod_int hu h;exact⟨_,⟨z,rfl,hw⟩,by simp only[iy,DR];exact⟨_,_,rfl,⟨rfl,rfl⟩,rfl⟩⟩
  ·rename_i hu;obtain⟨s,rfl,_,hw⟩:=DataW.trod_string hu h;exact⟨_,⟨s,rfl,hw⟩,by simp only[iy,DR];exact⟨_,_,rfl,⟨rfl,rfl⟩,rfl⟩⟩
  ·rename_i e hu;simp only[lj,tq]at hp;obtain⟨hp,hz⟩:=hp;rcases DataW.trod_slice hu h with⟨rfl,_⟩|⟨a,len,cap,elems,rest,n,_,rfl,_,hb,hl,hm,hlen,oV,_⟩
   ·exact⟨_,⟨[],rfl,by simp,by simp⟩,by simp only[iy,DR];exact⟨_,_,rfl,⟨ak,0,rfl,by simp,by simp,.inl trivial⟩,rfl⟩⟩
   ·by_cases h0:len=0
    ·subst h0;exact⟨_,⟨[],rfl,by simp,by simp⟩,by simp only[iy,DR];exact⟨_,_,rfl,⟨aj a,cap,rfl,by simp,by simp,.inl trivial⟩,rfl⟩⟩
    have el:∀i,i<len->∃CJ y,w.cells? base (a.add (i*P.cellsOf e)) (P.cellsOf e)=aj CJ/\DataW.trod enc P w base sp held n e CJ=aj y:=by
     intro i hi;have:=oV i hi;rw[u' (by omega),Option.bind_eq_some_iff]at this;obtain⟨CJ,h1,h2⟩:=this;exact⟨CJ,_,h1,h2⟩
    obtain⟨cs0,_,q1,_⟩:=el 0 oM;rw[Nat.zero_mul,show a.add 0=a by simp[Addr.add]]at q1;obtain⟨c,T,fr,hc,hs⟩:=z7p hz q1;obtain⟨ez,r1,r2,r3⟩:=yRp (F:=λb=>w.heap[b]?) (S:=wu P m e) (sz:=P.cellsOf e) len (c.toList.drop a.off) (λi hi=>by
     obtain⟨CJ,y,q1,q2⟩:=el i hi;obtain⟨ds,s1,s2⟩:=ih (K.slice hT hu) hp q2;have TZ:=(World.cells?_some q1).2.1;have tv:(a.add (i*P.cellsOf e)).spot=ak/\(a.add (i*P.cellsOf e)).off=a.off+i*P.cellsOf e/\(a.add (i*P.cellsOf e)).block=a.block:=by
      unfold Addr.add;split
      ·rename_i hi0;exact⟨hs,oM,rfl⟩
      ·exact⟨rfl,rfl,rfl⟩
     have:=z8b q1 (by rw[tv.2.2];exact hc) tv.1;rw[tv.2.1,<- Db]at this;exact⟨ds,s1,by rw[<- s2.length,TZ],this▸s2⟩)
    refine⟨_,⟨ez,rfl,oM,λel oV=>(r2 el oV).1⟩,?_⟩;simp only[iy,DR];obtain⟨b,o,s⟩:=a;simp only at hs hc;subst hs;refine⟨_,_,rfl,⟨aj ⟨b,o,ak⟩,cap,by rw[r1],oM,λel oV=>(r2 el oV).2,.inr ⟨b,o,c.toList,T,fr,rfl,by simpa using hc,r3⟩⟩,rfl⟩
  ·rename_i fs hu;obtain⟨xs,n,_,_,hl,CG,hx⟩:=DataW.trod_struct hu h;obtain⟨k1,k2,k3⟩:=K.struct hT hu;have:=yNi (F:=λb=>w.heap[b]?) (S:=wu P m) (sz:=P.cellsOf) fs.toList 0 cs (λj f hj=>by rw[nh];exact k3 j f hj) (by rw[nh,hl,k2]) (λf hf=>by
    obtain⟨i,hi⟩:=N7 hf;have OB:fs[i]? =aj f:=by simpa using hi
    have gn:i<fs.size:=by
     have:=(jf.1 hi).1;simpa using this
    have:=hx i f OB;rw[u' (by omega)]at this;exact ih (k1 f hf) (Eb.1 hp f hf) this)
   simpa using this
  ·rename_i k e hu;obtain⟨xs,n,_,_,hl,CG,hx⟩:=DataW.trod_array hu h;obtain⟨k1,k2⟩:=K.array hT hu;obtain⟨FW,d1,d2,d3⟩:=yGj (F:=λb=>w.heap[b]?) (S:=wu P m e) (sz:=P.cellsOf e) k cs (by rw[hl,k2]) (λi hi=>by
    have:=hx i hi;rw[u' (by omega)]at this;exact ih k1 hp this)
   exact⟨_,⟨FW,rfl,d1,d2⟩,d3⟩
  ·cases hp
def yMt (K:Kids P (·<P.types.size)) (m:Nat) {t:ab} {v:ac} {d:af H} {ps:List MemPlace} (hT:t<P.types.size) (hp:eZ P m t=am) (h:DataW.Trod enc P w base sp held t v d ps):
 ∃ds,wu P m t ds/\iy (λb=>w.heap[b]?) ds v.cells.toList:=by
 obtain⟨n,hn⟩:=h;exact z5i K m hT hp hn
def zVb {w':ag} (hB:Below w.heap.size w w') {p:MemPlace} (hp:p.block<w.heap.size):w.sameAt w' p:=by
 cases p with
 |cell b off=>
  have:=hB.block b hp;simp only[World.sameAt,World.cell?,this]
 |map b=>
  have:=hB.block b hp;exact this
def Am {w':ag} (K:Kids P (·<P.types.size)) (hz:∀t e,t<P.types.size->P.underlying t=aj (.slice e)->0<P.cellsOf e) (hB:Below w.heap.size w w') {sp':Nat->Bool}:
 ∀{ts:List ab} {vs:List ac} {ds:List (af H)} {ps:List MemPlace},(∀t∈ts,t<P.types.size)->DataW.TrodAll enc P w 0 (λ_=>am) am ts vs ds ps->(∀p∈ps,p.block<w.heap.size)->(∀p∈ps,sp' p.block=am)->DataW.TrodAll enc P w' 0 sp' am ts vs ds ps
 |[],[],[],_,_,h,_,_=>h
 |t::ts,v::vs,d::ds,_,hT,⟨p,q,⟨n,h1⟩,h2,e⟩,hl,hs=>by
  refine⟨p,q,⟨n,?_⟩,Am K hz hB (λt ht=>hT t (jq.2 (Or.inr ht))) h2 (λx hx=>hl x (by rw[e];exact zu _ hx)) (λx hx=>hs x (by rw[e];exact zu _ hx)),e⟩;exact DataW.trod_stays K (λ{t e} ht hu=>hz t e ht hu) (λh=>by cases h) (hT t iS) h1 (λx hx=>zVb hB (hl x (by rw[e];exact yl _ hx))) (λx hx=>hs x (by rw[e];exact yl _ hx))
def y5q {E:Ev} {cs:Array ac} {ds:List D} (h:iy E.F ds cs.toList):VR E (.agg (ds.map .d)) (.agg cs):=by
 simp only[VR];exact⟨cs.toList,by simp,h.Ob⟩
def An (K:Kids P (·<P.types.size)) (m:Nat) {t e:ab} {v:ac} {d:af H} {ps:List MemPlace} {r:Reach} {b0:Nat} (hT:t<P.types.size) (hu:P.underlying t=aj (.slice e)) (hp:eZ P (m+1) t=am) (oT:Value.okWide P w r b0 t v) (h:DataW.Trod enc P w base sp held t v d ps):
 ∃ez,DR (λb=>w.heap[b]?) (.ro (P.cellsOf e) ez) v/\ez.length<=maxLen/\∀el∈ez,wu P m e el:=by
 obtain⟨ds,h1,h2⟩:=yMt K (m+1) hT hp h;obtain⟨a,l,c,rfl⟩:=okWide_slice hu oT;unfold wu at h1;rw[hu]at h1;obtain⟨ez,rfl,h3,h4⟩:=h1;simp only[Value.cells,iy]at h2;obtain⟨x,xs,e1,e2,_⟩:=h2;simp only[List.cons.injEq]at e1;obtain⟨rfl,_⟩:=e1;exact⟨ez,e2,h3,h4⟩
def C7 (K:Kids P (·<P.types.size)) (m:Nat) {t:ab} {fs:Array Field} {v:ac} {d:af H} {ps:List MemPlace} {r:Reach} {b0:Nat} (hT:t<P.types.size) (hu:P.underlying t=aj (.struct fs)) (hp:eZ P (m+1) t=am) (oT:Value.okWide P w r b0 t v) (h:DataW.Trod enc P w base sp held t v d ps):
 ∃ds,CX (wu P m) (fs.toList.map (·.type)) ds/\VR (E0 w) (.agg (ds.map .d)) v:=by
 obtain⟨ds,h1,h2⟩:=yMt K (m+1) hT hp h;obtain⟨cs,rfl,_⟩:=okWide_struct hu oT;unfold wu at h1;rw[hu]at h1;exact⟨ds,h1,y5q (E:=E0 w) h2⟩
def AN {α β:Type} {f:α->β} {Q:α->Prop}:∀{l:List β},(∀y∈l,∃x,y=f x/\Q x)->∃xs:List α,l=xs.map f/\∀x∈xs,Q x
 |[],_=>⟨[],rfl,by simp⟩
 |y::l,h=>by
  obtain⟨x,h1,h2⟩:=h y iS;obtain⟨xs,h3,h4⟩:=AN (l:=l) λz hz=>h z (jc _ hz)
  refine⟨x::xs,by rw[jj,<- h1,<- h3],?_⟩;intro z hz;rcases jq.1 hz with rfl|hz
  ·exact h2
  ·exact h4 z hz
def jo {m:Nat} {t:ab} {k:IntKind} {ds:List D} (hu:P.underlying t=aj (.int k)) (h:wu P m t ds):∃n,ds=[.v (.int k n)]/\(Lit.int k n).wf=am:=by
 cases m with
 |zero=>exact h.elim
 |succ m=>unfold wu at h;rw[hu]at h;exact h
def yh {m:Nat} {t:ab} {ds:List D} (hu:P.underlying t=aj .string) (h:wu P m t ds):∃s,ds=[.v (.string s)]/\s.size<=maxLen:=by
 cases m with
 |zero=>exact h.elim
 |succ m=>unfold wu at h;rw[hu]at h;exact h
def EB {m:Nat} {t e:ab} {ds:List D} (hu:P.underlying t=aj (.slice e)) (h:wu P (m+1) t ds):∃ez,ds=[.ro (P.cellsOf e) ez]/\ez.length<=maxLen/\∀el∈ez,wu P m e el:=by
 unfold wu at h;rw[hu]at h;exact h
def C6 {m:Nat} {t:ab} {fs:Array Field} {ds:List D} (hu:P.underlying t=aj (.struct fs)) (h:wu P (m+1) t ds):CX (wu P m) (fs.toList.map (·.type)) ds:=by
 unfold wu at h;rw[hu]at h;exact h
end Sx
