/- Texts of ours. No condition. -/
import Derived.OpenShut
import Derived.ProofKit
import Derived.Test.YtgmmlhddihaocaaGreatS16
set_option linter.all false
open Go renaming TypeId->aa,Value->ab,Program->ac,DataW->ae,World->af
open Option renaming some->ag,none->aj
open Bool renaming true->ak
namespace Sx
open Go Go.RowKit Go.ChangeShapes Go.WideShapes Go.ChangeAt
def zg {H:Type} {enc:aa×ab->H} {P:ac} {f:Func} {s:ChangeSpec} {apart fresh handsOn again:Bool} {W W':af} {args:Array ab} {v:ab} {ds gs:List (ae H)} {before pa pv:List MemPlace}
 (hW:DataW.Whole enc P f.params.toList s.vars apart W args.toList ds gs before)
 (Qx:∀(b:Nat) (sp:Nat->Bool) (hd:Bool),DataW.TrodAll enc P W' b sp hd f.resultTypes.toList (v.resultList f.resultTypes.size) (s.fn H (ds++gs)).results [])
 (nt:∀sp:Nat->Bool,(∀p∈before,sp p.block=ak)->DataW.TrodAll enc P W' 0 sp ak f.params.toList args.toList (s.fn H (ds++gs)).args pa)
 (JW:∀sp:Nat->Bool,(∀p∈before,sp p.block=ak)->DataW.TrodVars enc P W' sp s.vars (s.fn H (ds++gs)).vars pv)
 (CQ:before=pa++pv) (hB:Below W.heap.size W W')
 (oS:∀(j:Nat) (t:aa) (r:ab),f.resultTypes[j]? =ag t->(v.resultList f.resultTypes.size)[j]? =ag r->Value.okWide P W' .any 0 t r):
 s.post enc P f apart fresh handsOn again W args v W':=by
 have hold:∀p∈before,(λb=>decide (b<W.heap.size)) p.block=ak:=λp hp=>by simpa using hW.lt p hp
 have gv:=hW.lt;refine⟨ds,gs,before,[],pa,pv,hW,Qx _ _ _,nt _ hold,JW _ hold,World.keptBut_mono (λp hp=>⟨hp,?_⟩) (hB.frame (·∈before)),λ_=> ?_⟩
 ·rw[CQ,pz]at hp;exact Or.inr hp
 ·obtain⟨_,_,_,_,_,hz,hn⟩:=hW;refine⟨oS,_,_,([]++pa)++pv,⟨[]++pa,pv,trodAll_append (nt _ (λ_ _=>rfl)) (Qx _ _ _),JW _ (λ_ _=>rfl),rfl,?_,?_⟩,?_⟩
  ·intro b off hp;have hp:MemPlace.cell b off∈before:=by rw[CQ];simpa using hp
   have hl:b<W.heap.size:=gv _ hp;rw[hB.frozen (by exact hl)];exact hz b off hp
  ·intro ha;have:=hn ha;rw[CQ]at this;simpa using this
  ·intro p hp _;rw[CQ];simpa using hp
open Go Go.RowKit Go.ChangeShapes Go.WideShapes Cv
variable {H:Type} {enc:aa×ab->H} {P:ac} {w:af} {base:Nat} {sp:Nat->Bool} {held:Bool}
def eR (P:ac):Nat->aa->Bool
 |0,_=>false
 |m+1,t=>match P.underlying t with
  |some .bool=>ak
  |some (.int _)=>ak
  |some .string=>ak
  |some (.slice e)=>eR P m e && decide (0<P.cellsOf e)
  |some (.struct fs)=>fs.toList.all λf=>eR P m f.type
  |some (.array _ e)=>eR P m e
  |_=>false
def Cu (S:aa->List D->Prop):List aa->List D->Prop
 |[],ds=>ds=[]
 |t::ts,ds=>∃a b,ds=a++b/\S t a/\Cu S ts b
def ux (P:ac):Nat->aa->List D->Prop
 |0,_,_=>False
 |m+1,t,ds=>match P.underlying t with
  |some .bool=>∃b,ds=[.v (.bool b)]
  |some (.int k)=>∃n,ds=[.v (.int k n)]/\(Lit.int k n).wf=ak
  |some .string=>∃s,ds=[.v (.string s)]/\s.size<=maxLen
  |some (.slice e)=>∃ez,ds=[.ro (P.cellsOf e) ez]/\ez.length<=maxLen/\∀el∈ez,ux P m e el
  |some (.struct fs)=>Cu (ux P m) (fs.toList.map (·.type)) ds
  |some (.array k e)=>∃Fa:List (List D),ds=Fa.flatten/\Fa.length=k/\∀d∈Fa,ux P m e d
  |_=>False
def yIb {F:PH} {S:aa->List D->Prop} {sz:aa->Nat}:∀(L:List Field) (o:Nat) (cs:List ab),(∀(j:Nat) f,L[j]? =ag f->f.offset=o+((L.take j).map λf=>sz f.type).sum)->cs.length=o+(L.map λf=>sz f.type).sum->
 (∀f∈L,∃ds,S f.type ds/\iF F ds ((cs.drop f.offset).take (sz f.type)))->∃ds,Cu S (L.map (·.type)) ds/\iF F ds (cs.drop o)
 |[],o,cs,ho,hl,h=>⟨[],rfl,by
   rw[Hz (by simpa using Nat.le_of_eq hl)];simp only[iF]⟩
 |f::L,o,cs,ho,hl,h=>by
  have h0:=ho 0 f rfl;simp only[Hu,CG,List.sum_nil,EJ]at h0;obtain⟨d1,s1,r1⟩:=h f jm;simp only[jx,ra]at hl;obtain⟨d2,s2,r2⟩:=yIb L (o+sz f.type) cs (λj g hg=>by
   have:=ho (j+1) g (by simpa using hg);simp only[vo,jx,ra]at this;omega) oM (λg hg=>h g (kg _ hg))
  refine⟨d1++d2,⟨d1,d2,rfl,s1,s2⟩,?_⟩;rw[h0]at r1;have e:cs.drop o=(cs.drop o).take (sz f.type)++cs.drop (o+sz f.type):=by
   rw[<- CJ,BK]
  rw[e];exact r1.append r2
def yCq {F:PH} {S:List D->Prop} {sz:Nat}:∀(k:Nat) (cs:List ab),cs.length=k*sz->(∀i,i<k->∃ds,S ds/\iF F ds ((cs.drop (i*sz)).take sz))->
 ∃Fa:List (List D),Fa.length=k/\(∀d∈Fa,S d)/\iF F Fa.flatten cs
 |0,cs,hl,h=>⟨[],rfl,by simp,by
    have:cs=[]:=yh (by simpa using hl);subst this;simp only[List.flatten_nil,iF]⟩
 |k+1,cs,hl,h=>by
  obtain⟨d,s,r⟩:=h 0 oM;rw[zj]at hl;obtain⟨Fa,h1,h2,h3⟩:=yCq (F:=F) (S:=S) (sz:=sz) k (cs.drop sz) (by rw[pd,hl];omega) (λi hi=>by
   obtain⟨d,s,r⟩:=h (i+1) oM;refine⟨d,s,?_⟩;rw[zj,EI]at r;rw[CJ];exact r)
  refine⟨d::Fa,by simp[h1],?_,?_⟩
  ·intro x hx;rcases mn.1 hx with rfl|hx
   ·exact s
   ·exact h2 x hx
  ·rw[AM];rw[Nat.zero_mul,DA]at r;have:=r.append h3;rwa [BK]at this
def yKt {F:PH} {S:List D->Prop} {sz:Nat}:∀(k:Nat) (l:List ab),(∀i,i<k->∃ds,S ds/\ds.length=sz/\iF F ds ((l.drop (i*sz)).take sz))->
 ∃ez:List (List D),ez.length=k/\(∀d∈ez,S d/\d.length=sz)/\A' F ez l
 |0,l,h=>⟨[],rfl,by simp,by simp only[A']⟩
 |k+1,l,h=>by
  obtain⟨d,s,e,r⟩:=h 0 oM;obtain⟨ez,h1,h2,h3⟩:=yKt k (l.drop sz) (λi hi=>by
   obtain⟨d,s,e,r⟩:=h (i+1) oM;refine⟨d,s,e,?_⟩;rw[zj,EI]at r;rw[CJ];exact r)
  refine⟨d::ez,by simp[h1],?_,?_⟩
  ·intro x hx;rcases mn.1 hx with rfl|hx
   ·exact⟨s,e⟩
   ·exact h2 x hx
  ·simp only[A'];rw[Nat.zero_mul,DA]at r;exact⟨l.take sz,l.drop sz,(BK _ _).symm,r,h3⟩
def z5u {a:Addr} {n:Nat} {cs:List ab} (hn:0<n) (h:w.cells? base a n=ag cs):∃c T fr,w.heap[a.block]? =ag (.cells c T fr)/\a.spot=aj:=by
 obtain⟨_,h1,h2⟩:=World.cells?_some h;have h0:=h2 0 hn;rw[show a.add 0=a by simp[Addr.add],vd (by omega)]at h0;unfold World.cell? at h0;split at h0
 ·rename_i c T fr hc;split at h0
  ·cases h0
  ·rename_i hs;exact⟨c,T,fr,hc,by simpa using hs⟩
 ·cases h0
def z5k {a:Addr} {n:Nat} {cs:List ab} {c:Array ab} {T:aa} {fr:Nat×Nat} (h:w.cells? base a n=ag cs) (hc:w.heap[a.block]? =ag (.cells c T fr)) (hs:a.spot=aj):cs=(c.toList.drop a.off).take n:=by
 obtain⟨_,h1,h2⟩:=World.cells?_some h;apply Hw;intro i;by_cases hi:i<n
 ·have:=h2 i hi;rw[<- this];have ea:a.add i=⟨a.block,a.off+i,aj⟩:=by
   obtain⟨b,o,s⟩:=a;simp only at hs;subst hs;by_cases h0:i=0
   ·subst h0;simp[Addr.add]
   ·simp[Addr.add,h0]
  rw[ea];simp only[World.cell?,hc];rw[List.getElem?_take_of_lt hi,AZ];simp
 ·rw[ue (by omega),ue];simp only[om];omega
def z3e (K:Kids P (·<P.types.size)):∀(m:Nat) {n:Nat} {t:aa} {cs:List ab} {x:ae H×List MemPlace},t<P.types.size->eR P m t=ak->DataW.trod enc P w base sp held n t cs=ag x->
 ∃ds,ux P m t ds/\iF (λb=>w.heap[b]?) ds cs:=by
 intro m
 induction m with
 |zero=>intro n t cs x _ h;simp[eR]at h
 |succ m ih=>
  intro n t cs x hT hp h;unfold eR at hp;unfold ux;split at hp
  ·rename_i hu;obtain⟨b,rfl,_⟩:=DataW.trod_bool hu h;exact⟨_,⟨b,rfl⟩,by simp only[iF,DR];exact⟨_,_,rfl,⟨rfl,rfl⟩,rfl⟩⟩
  ·rename_i k hu;obtain⟨z,rfl,_,hw⟩:=DataW.trod_int hu h;exact⟨_,⟨z,rfl,hw⟩,by simp only[iF,DR];exact⟨_,_,rfl,⟨rfl,rfl⟩,rfl⟩⟩
  ·rename_i hu;obtain⟨s,rfl,_,hw⟩:=DataW.trod_string hu h;exact⟨_,⟨s,rfl,hw⟩,by simp only[iF,DR];exact⟨_,_,rfl,⟨rfl,rfl⟩,rfl⟩⟩
  ·rename_i e hu;simp only[lr,ud]at hp;obtain⟨hp,hz⟩:=hp;rcases DataW.trod_slice hu h with⟨rfl,_⟩|⟨a,len,cap,elems,rest,n,_,rfl,_,hb,hl,hm,hlen,oT,_⟩
   ·exact⟨_,⟨[],rfl,by simp,by simp⟩,by simp only[iF,DR];exact⟨_,_,rfl,⟨aj,0,rfl,by simp,by simp,.inl trivial⟩,rfl⟩⟩
   ·by_cases h0:len=0
    ·subst h0;exact⟨_,⟨[],rfl,by simp,by simp⟩,by simp only[iF,DR];exact⟨_,_,rfl,⟨ag a,cap,rfl,by simp,by simp,.inl trivial⟩,rfl⟩⟩
    have el:∀i,i<len->∃Ce y,w.cells? base (a.add (i*P.cellsOf e)) (P.cellsOf e)=ag Ce/\DataW.trod enc P w base sp held n e Ce=ag y:=by
     intro i hi;have:=oT i hi;rw[vd (by omega),Option.bind_eq_some_iff]at this;obtain⟨Ce,h1,h2⟩:=this;exact⟨Ce,_,h1,h2⟩
    obtain⟨cs0,_,q1,_⟩:=el 0 oM;rw[Nat.zero_mul,show a.add 0=a by simp[Addr.add]]at q1;obtain⟨c,T,fr,hc,hs⟩:=z5u hz q1;obtain⟨ez,r1,r2,r3⟩:=yKt (F:=λb=>w.heap[b]?) (S:=ux P m e) (sz:=P.cellsOf e) len (c.toList.drop a.off) (λi hi=>by
     obtain⟨Ce,y,q1,q2⟩:=el i hi;obtain⟨ds,s1,s2⟩:=ih (K.slice hT hu) hp q2;have RL:=(World.cells?_some q1).2.1;have tq:(a.add (i*P.cellsOf e)).spot=aj/\(a.add (i*P.cellsOf e)).off=a.off+i*P.cellsOf e/\(a.add (i*P.cellsOf e)).block=a.block:=by
      unfold Addr.add;split
      ·rename_i hi0;exact⟨hs,oM,rfl⟩
      ·exact⟨rfl,rfl,rfl⟩
     have:=z5k q1 (by rw[tq.2.2];exact hc) tq.1;rw[tq.2.1,<- CJ]at this;exact⟨ds,s1,by rw[<- s2.length,RL],this▸s2⟩)
    refine⟨_,⟨ez,rfl,oM,λel oT=>(r2 el oT).1⟩,?_⟩;simp only[iF,DR];obtain⟨b,o,s⟩:=a;simp only at hs hc;subst hs;refine⟨_,_,rfl,⟨ag ⟨b,o,aj⟩,cap,by rw[r1],oM,λel oT=>(r2 el oT).2,.inr ⟨b,o,c.toList,T,fr,rfl,by simpa using hc,r3⟩⟩,rfl⟩
  ·rename_i fs hu;obtain⟨xs,n,_,_,hl,xd,hx⟩:=DataW.trod_struct hu h;obtain⟨k1,k2,k3⟩:=K.struct hT hu;have:=yIb (F:=λb=>w.heap[b]?) (S:=ux P m) (sz:=P.cellsOf) fs.toList 0 cs (λj f hj=>by rw[oa];exact k3 j f hj) (by rw[oa,hl,k2]) (λf hf=>by
    obtain⟨i,hi⟩:=M5 hf;have Nw:fs[i]? =ag f:=by simpa using hi
    have gv:i<fs.size:=by
     have:=(jv.1 hi).1;simpa using this
    have:=hx i f Nw;rw[vd (by omega)]at this;exact ih (k1 f hf) (DB.1 hp f hf) this)
   simpa using this
  ·rename_i k e hu;obtain⟨xs,n,_,_,hl,xd,hx⟩:=DataW.trod_array hu h;obtain⟨k1,k2⟩:=K.array hT hu;obtain⟨Fa,d1,d2,d3⟩:=yCq (F:=λb=>w.heap[b]?) (S:=ux P m e) (sz:=P.cellsOf e) k cs (by rw[hl,k2]) (λi hi=>by
    have:=hx i hi;rw[vd (by omega)]at this;exact ih k1 hp this)
   exact⟨_,⟨Fa,rfl,d1,d2⟩,d3⟩
  ·cases hp
def yLt (K:Kids P (·<P.types.size)) (m:Nat) {t:aa} {v:ab} {d:ae H} {ps:List MemPlace} (hT:t<P.types.size) (hp:eR P m t=ak) (h:DataW.Trod enc P w base sp held t v d ps):
 ∃ds,ux P m t ds/\iF (λb=>w.heap[b]?) ds v.cells.toList:=by
 obtain⟨n,hn⟩:=h;exact z3e K m hT hp hn
def zSs {w':af} (hB:Below w.heap.size w w') {p:MemPlace} (hp:p.block<w.heap.size):w.sameAt w' p:=by
 cases p with
 |cell b off=>
  have:=hB.block b hp;simp only[World.sameAt,World.cell?,this]
 |map b=>
  have:=hB.block b hp;exact this
def Ad {w':af} (K:Kids P (·<P.types.size)) (hz:∀t e,t<P.types.size->P.underlying t=ag (.slice e)->0<P.cellsOf e) (hB:Below w.heap.size w w') {sp':Nat->Bool}:
 ∀{ts:List aa} {vs:List ab} {ds:List (ae H)} {ps:List MemPlace},(∀t∈ts,t<P.types.size)->DataW.TrodAll enc P w 0 (λ_=>ak) ak ts vs ds ps->(∀p∈ps,p.block<w.heap.size)->(∀p∈ps,sp' p.block=ak)->DataW.TrodAll enc P w' 0 sp' ak ts vs ds ps
 |[],[],[],_,_,h,_,_=>h
 |t::ts,v::vs,d::ds,_,hT,⟨p,q,⟨n,h1⟩,h2,e⟩,hl,hs=>by
  refine⟨p,q,⟨n,?_⟩,Ad K hz hB (λt ht=>hT t (mn.2 (Or.inr ht))) h2 (λx hx=>hl x (by rw[e];exact zn _ hx)) (λx hx=>hs x (by rw[e];exact zn _ hx)),e⟩;exact DataW.trod_stays K (λ{t e} ht hu=>hz t e ht hu) (λh=>by cases h) (hT t jm) h1 (λx hx=>zSs hB (hl x (by rw[e];exact yg _ hx))) (λx hx=>hs x (by rw[e];exact yg _ hx))
def y2b {E:Ev} {cs:Array ab} {ds:List D} (h:iF E.F ds cs.toList):VR E (.agg (ds.map .d)) (.agg cs):=by
 simp only[VR];exact⟨cs.toList,by simp,h.M9⟩
def sw (K:Kids P (·<P.types.size)) (m:Nat) {t e:aa} {v:ab} {d:ae H} {ps:List MemPlace} {r:Reach} {b0:Nat} (hT:t<P.types.size) (hu:P.underlying t=ag (.slice e)) (hp:eR P (m+1) t=ak) (oS:Value.okWide P w r b0 t v) (h:DataW.Trod enc P w base sp held t v d ps):
 ∃ez,DR (λb=>w.heap[b]?) (.ro (P.cellsOf e) ez) v/\ez.length<=maxLen/\∀el∈ez,ux P m e el:=by
 obtain⟨ds,h1,h2⟩:=yLt K (m+1) hT hp h;obtain⟨a,l,c,rfl⟩:=okWide_slice hu oS;unfold ux at h1;rw[hu]at h1;obtain⟨ez,rfl,h3,h4⟩:=h1;simp only[Value.cells,iF]at h2;obtain⟨x,xs,e1,e2,_⟩:=h2;simp only[List.cons.injEq]at e1;obtain⟨rfl,_⟩:=e1;exact⟨ez,e2,h3,h4⟩
def CC (K:Kids P (·<P.types.size)) (m:Nat) {t:aa} {fs:Array Field} {v:ab} {d:ae H} {ps:List MemPlace} {r:Reach} {b0:Nat} (hT:t<P.types.size) (hu:P.underlying t=ag (.struct fs)) (hp:eR P (m+1) t=ak) (oS:Value.okWide P w r b0 t v) (h:DataW.Trod enc P w base sp held t v d ps):
 ∃ds,Cu (ux P m) (fs.toList.map (·.type)) ds/\VR (E0 w) (.agg (ds.map .d)) v:=by
 obtain⟨ds,h1,h2⟩:=yLt K (m+1) hT hp h;obtain⟨cs,rfl,_⟩:=okWide_struct hu oS;unfold ux at h1;rw[hu]at h1;exact⟨ds,h1,y2b (E:=E0 w) h2⟩
def vl {α β:Type} {f:α->β} {Q:α->Prop}:∀{l:List β},(∀y∈l,∃x,y=f x/\Q x)->∃xs:List α,l=xs.map f/\∀x∈xs,Q x
 |[],_=>⟨[],rfl,by simp⟩
 |y::l,h=>by
  obtain⟨x,h1,h2⟩:=h y jm;obtain⟨xs,h3,h4⟩:=vl (l:=l) λz hz=>h z (kg _ hz)
  refine⟨x::xs,by rw[jx,<- h1,<- h3],?_⟩;intro z hz;rcases mn.1 hz with rfl|hz
  ·exact h2
  ·exact h4 z hz
def jq {m:Nat} {t:aa} {k:IntKind} {ds:List D} (hu:P.underlying t=ag (.int k)) (h:ux P m t ds):∃n,ds=[.v (.int k n)]/\(Lit.int k n).wf=ak:=by
 cases m with
 |zero=>exact h.elim
 |succ m=>unfold ux at h;rw[hu]at h;exact h
def Ge {m:Nat} {t:aa} {ds:List D} (hu:P.underlying t=ag .bool) (h:ux P m t ds):∃b,ds=[.v (.bool b)]:=by
 cases m with
 |zero=>exact h.elim
 |succ m=>unfold ux at h;rw[hu]at h;exact h
def yd {m:Nat} {t:aa} {ds:List D} (hu:P.underlying t=ag .string) (h:ux P m t ds):∃s,ds=[.v (.string s)]/\s.size<=maxLen:=by
 cases m with
 |zero=>exact h.elim
 |succ m=>unfold ux at h;rw[hu]at h;exact h
def DY {m:Nat} {t e:aa} {ds:List D} (hu:P.underlying t=ag (.slice e)) (h:ux P (m+1) t ds):∃ez,ds=[.ro (P.cellsOf e) ez]/\ez.length<=maxLen/\∀el∈ez,ux P m e el:=by
 unfold ux at h;rw[hu]at h;exact h
def yb {m:Nat} {t:aa} {fs:Array Field} {ds:List D} (hu:P.underlying t=ag (.struct fs)) (h:ux P (m+1) t ds):Cu (ux P m) (fs.toList.map (·.type)) ds:=by
 unfold ux at h;rw[hu]at h;exact h
end Sx
