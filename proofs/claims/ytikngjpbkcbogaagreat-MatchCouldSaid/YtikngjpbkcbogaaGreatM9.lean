/- Texts of ours, one behind the other: a walk that the kernel reckons, and contracts of functions. No condition. -/
import Derived.Test.YtikngjpbkcbogaaGreatM8
namespace Sx
set_option linter.unusedVariables false
set_option linter.unusedSimpArgs false
set_option maxRecDepth 100000
open Go Cv Go.Proofs
open Go Cv Go.Proofs
structure z9n (p:Prd) (B:List (List zI)) (q:Int) (g:List uO) (k:Nat) (s pr:Int):Prop where
 lt:k<B.length
 s12:s=1∨s=2
 eq:g=yF k s (atL (B.getD k []) s pr) (xA ⟨p,atL (B.getD k []) s pr,q⟩)
 sh:eH ((atL (B.getD k []) s pr).map (·.qty)) (xA ⟨p,atL (B.getD k []) s pr,q⟩) q
 ne:g≠[]
theorem lB {inst s:Int}:∀{os:List zI} {sh:List Int},sh.length=os.length→yF inst s os sh=[]→(∀n,0≤sh.getD n 0)→sh.sum=0
 |[],[],_,_,_=>rfl
 |[],_::_,h,_,_=>by cases h
 |_::_,[],h,_,_=>by cases h
 |o::os,x::sh,h,h2,h3=>by
  rw[yF]at h2
  split at h2
  ·cases h2
  ·have:=lB (os:=os) (sh:=sh) (by simpa using h) h2 fun n=>h3 (n+1)
   have h0:0≤x:=h3 0
   rw[List.sum_cons];omega
theorem z6t {p:Prd} {B:List (List zI)} (h:BWf p B) {k:Nat} {L:List zI} (hL:B[k]? =some L) {s:Int} (hs:s=1∨s=2) {q:Int} (hb:(bestL L s).2=true) (hq:1≤q∧q≤(bestL L s).1.qty):
 z9n p B q (yH p B k s q) k s (bestL L s).1.price:=by
 have ho:=h.od k L hL
 have hsr:=h.srt k L hL s hs
 have hlv:mP B k s=atL L s (bestL L s).1.price:=by rw[mP,Int.toNat_natCast,zP hL]
 obtain⟨v,vs,hl⟩:∃v vs,kA L s=v::vs:=by
  cases e:kA L s with
  |nil=>rw[bestL,e]at hb;cases hb
  |cons v vs=>exact⟨v,vs,rfl⟩
 have hv:(bestL L s).1=v:=by rw[bestL,hl]
 rw[hv]at hq hlv ⊢
 have hgs:=mK hsr (v:=v) (vs:=vs) (by rw[← hl];rfl)
 have hat:atL L s v.price=(jL L s).filter fun o=>decide (o.price=v.price):=zSx L s v.price
 have hvq:v.qty=((atL L s v.price).map (·.qty)).sum:=by
  have:=congrArg Lv.qty hgs.1
  rw[hat];exact this
 have hr:yE ((atL L s v.price).map (·.qty)) q=true:=by
  refine zKi ?_ (by omega) (fun x hx=> ?_) (by omega)
  ·rw[List.length_map];exact Nat.le_trans (List.length_filter_le _ _) ho.2.2
  ·obtain⟨o,hm,rfl⟩:=List.mem_map.1 hx
   exact(ho.1 o (List.mem_filter.1 hm).1).q
 have hS:=bM h.ok.pc hr
 have e:yH p B k s q=yF k s (atL (B.getD k []) s v.price) (xA ⟨p,atL (B.getD k []) s v.price,q⟩):=by
  rw[yH,hlv,zP hL]
 refine⟨(List.getElem?_eq_some_iff.1 hL).1,hs,e,by rw[zP hL];exact hS,fun e2=> ?_⟩
 rw[e,zP hL]at e2
 have:=lB (by rw[hS.len,List.length_map]) e2 fun n=>(hS.bd n).1
 have:=hS.sum
 omega
theorem m9 {j:Nat} {L:List zI}:∀{fs:List uO} {B:List (List zI)},B[j]? =some L→(∀f∈fs,qI L f.id=false)→(y7 B fs)[j]? =some L
 |[],B,h,_=>h
 |f::fs,B,h,hf=>by
  refine m9 (fs:=fs) (B:=(qD B f.id f.qty).1) ?_ fun g hg=>hf g (List.mem_cons_of_mem _ hg)
  rw[qD]
  split
  ·exact h
  ·rename_i k hk
   dsimp only
   have hne:k≠j:=by
    rintro rfl
    obtain⟨L',hL',hh⟩:=jY hk
    rw[h]at hL'
    cases hL'
    rw[hf f List.mem_cons_self]at hh
    cases hh
   rw[List.getElem?_set_ne hne];exact h
theorem c9 {inst s:Int} {f:uO}:∀{os:List zI} {sh:List Int},f∈yF inst s os sh→∃o∈os,f.id=o.id
 |[],sh,h=>by cases h
 |o::os,[],h=>by cases h
 |o::os,k::sh,h=>by
  rw[yF]at h
  split at h
  ·rcases List.mem_cons.1 h with rfl|h
   ·exact⟨o,List.mem_cons_self,rfl⟩
   ·obtain⟨o',c,d⟩:=c9 h
    exact⟨o',List.mem_cons_of_mem _ c,d⟩
  ·obtain⟨o',c,d⟩:=c9 h
   exact⟨o',List.mem_cons_of_mem _ c,d⟩
theorem wS {p:Prd} {B:List (List zI)} (h:BWf p B) {k j:Nat} (hne:k≠j) {L L':List zI} (hL:B[k]? =some L) (hL':B[j]? =some L') (s q:Int):(y7 B (yH p B k s q))[j]? =some L':=by
 refine m9 hL' fun f hf=> ?_
 obtain⟨o,ho,e⟩:=c9 hf
 have ho:=(List.mem_filter.1 ho).1
 rw[Int.toNat_natCast,zP hL]at ho
 cases hh:qI L' f.id with
 |false=>rfl
 |true=>
  have a:=h.inst hL' (hasId_iff.1 hh)
  have b:=h.inst hL (id:=f.id) (by rw[e];exact List.mem_map.2 ⟨o,ho,rfl⟩)
  rw[a]at b
  cases b
  exact absurd rfl hne
open Go Cv Go.Proofs
def lpq (l:List Lv):List (Int×Int):=l.map fun v=>(v.price,v.qty)
def mC (l:List (Int×Int)) (x:Int):List (Int×Int):=match l with
 |[]=>[]
 |(p,q)::l=>if q≤x then l else(p,q-x)::l
theorem sY {A:List zI} {id x:Int} (h:∀o∈A,o.id≠id):yN A id x=A:=by
 rw[yN]
 induction A with
 |nil=>rfl
 |cons a A ih=>
  rw[List.filterMap_cons,if_neg (h a List.mem_cons_self)]
  simp only
  rw[ih fun o ho=>h o (List.mem_cons_of_mem _ ho)]
theorem zEt {id x:Int}:∀{A:List zI} {o:zI},(A.map (·.id)).Nodup→o∈A→o.id=id→((yN A id x).map (·.qty)).sum=(A.map (·.qty)).sum-x
 |a::A,o,hn,ho,e=>by
  rw[List.map_cons,List.nodup_cons]at hn
  rw[yN,List.filterMap_cons]
  by_cases h:a.id=id
  ·have hno:∀y∈A,y.id≠id:=by
    intro y hy e2
    exact hn.1 (by rw[h,← e2];exact List.mem_map.2 ⟨y,hy,rfl⟩)
   have ht:A.filterMap (fun o=>if o.id=id then if o.qty=x then none else some {o with qty:=o.qty-x}else some o)=A:=sY hno
   rw[if_pos h]
   by_cases h2:a.qty=x
   ·rw[if_pos h2]
    simp only
    rw[ht,List.map_cons,List.sum_cons];omega
   ·rw[if_neg h2]
    simp only
    rw[ht,List.map_cons,List.map_cons,List.sum_cons,List.sum_cons]
    simp only
    omega
  ·rw[if_neg h]
   simp only
   have ho:o∈A:=by
    rcases List.mem_cons.1 ho with rfl|ho
    ·exact absurd e h
    ·exact ho
   have:=zEt (x:=x) hn.2 ho e
   rw[yN]at this
   rw[List.map_cons,List.map_cons,List.sum_cons,List.sum_cons,this];omega
theorem zJp (L:List zI) (id q pr:Int):(yN L id q).filter (fun o=>decide (o.price=pr))=yN (L.filter fun o=>decide (o.price=pr)) id q:=by
 rw[yN,yN,List.filter_filterMap,List.filterMap_filter]
 refine kR fun o _=> ?_
 by_cases e1:o.id=id
 ·rw[if_pos e1]
  by_cases e2:o.qty=q
  ·rw[if_pos e2];simp
  ·rw[if_neg e2];by_cases e3:o.price=pr<;>simp[Option.filter,e3]
 ·rw[if_neg e1];by_cases e3:o.price=pr<;>simp[Option.filter,e3]
theorem zEj (L:List zI) (id q pr:Int):(yN L id q).filter (fun o=> !decide (o.price=pr))=yN (L.filter fun o=> !decide (o.price=pr)) id q:=by
 rw[yN,yN,List.filter_filterMap,List.filterMap_filter]
 refine kR fun o _=> ?_
 by_cases e1:o.id=id
 ·rw[if_pos e1]
  by_cases e2:o.qty=q
  ·rw[if_pos e2];simp
  ·rw[if_neg e2];by_cases e3:o.price=pr<;>simp[Option.filter,e3]
 ·rw[if_neg e1];by_cases e3:o.price=pr<;>simp[Option.filter,e3]
theorem zTl {A:List zI} {id x:Int} {y:zI} (h:y∈yN A id x):∃z∈A,y.price=z.price:=by
 obtain⟨z,hz,e⟩:=List.mem_filterMap.1 h
 refine⟨z,hz,?_⟩
 split at e
 ·split at e
  ·cases e
  ·cases e;rfl
 ·cases e;rfl
theorem z2w {A:List zI} (h:A≠[]):∃v vs,grp A=v::vs:=by
 cases A with
 |nil=>exact absurd rfl h
 |cons a A=>
  rw[grp]
  split
  ·exact⟨_,_,rfl⟩
  ·split<;>exact⟨_,_,rfl⟩
theorem r9:∀{l:List Int} {a:Int},(∀q∈l,0≤q)→a∈l→a≤l.sum
 |b::l,a,h,ha=>by
  rw[List.sum_cons]
  have h1:=h b List.mem_cons_self
  have h2:=rW fun q hq=>h q (List.mem_cons_of_mem _ hq)
  rcases List.mem_cons.1 ha with rfl|ha
  ·omega
  ·have:=r9 (fun q hq=>h q (List.mem_cons_of_mem _ hq)) ha
   omega
theorem zSa {s:Int} {F:List zI} (hs:nV s F) (hn:(F.map (·.id)).Nodup) {o:zI} (ho:o∈F) {v:Lv} {vs:List Lv} (hg:grp F=v::vs) (hp:o.price=v.price) {x:Int} (hq:∀y∈yN F o.id x,1≤y.qty) (hs2:nV s (yN F o.id x)):
 lpq (grp (yN F o.id x))=mC (lpq (grp F)) x:=by
 obtain⟨a1,a2,a3⟩:=mK hs hg
 have hol:o∈F.filter fun o=>decide (o.price=v.price):=List.mem_filter.2 ⟨ho,by simpa using hp⟩
 have hsum:=zEt (x:=x) (hn.sublist (List.Sublist.map _ (List.filter_sublist (p:=fun o=>decide (o.price=v.price)) (l:=F)))) hol rfl
 have hv:v.qty=((F.filter fun o=>decide (o.price=v.price)).map (·.qty)).sum:=congrArg Lv.qty a1
 have hout:yN (F.filter fun o=> !decide (o.price=v.price)) o.id x=F.filter fun o=> !decide (o.price=v.price):=by
  refine sY fun y hy e=> ?_
  obtain⟨y1,y2⟩:=List.mem_filter.1 hy
  have h1:=wM hn y1
  have h2:=wM hn ho
  rw[e,h2]at h1
  rw[← h1]at y2
  simp[hp]at y2
 rw[hg]
 have hd:mC (lpq (v::vs)) x=if v.qty≤x then lpq vs else(v.price,v.qty-x)::lpq vs:=rfl
 rw[hd]
 rw[← zJp,← hv]at hsum
 rw[← zEj]at hout
 have hmem:∀y∈yN F o.id x,∃z∈F,y.price=z.price:=fun y hy=>zTl hy
 generalize yN F o.id x=F' at*
 by_cases hE:F'.filter (fun o=>decide (o.price=v.price))=[]
 ·rw[hE]at hsum
  have hsum:(0:Int)=v.qty-x:=hsum
  rw[if_pos (by omega),a2,← hout]
  congr 2
  symm
  rw[List.filter_eq_self]
  intro y hy
  have:=List.filter_eq_nil_iff.1 hE y hy
  simpa using this
 ·obtain⟨y,hy⟩:=List.exists_mem_of_ne_nil _ hE
  obtain⟨y1,y2⟩:=List.mem_filter.1 hy
  have y2:y.price=v.price:=by simpa using y2
  obtain⟨v',vs',hg'⟩:=z2w (A:=F') (by rintro rfl;cases y1)
  obtain⟨b1,b2,b3⟩:=mK hs2 hg'
  obtain⟨w,wr,hw,hwp⟩:=aD hg'
  have e1:=b3 y y1
  obtain⟨z,hz,hzp⟩:=hmem w (by rw[hw];exact List.mem_cons_self)
  have e2:=a3 z hz
  rw[← hzp,hwp]at e2
  rw[y2]at e1
  have ep:v'.price=v.price:=zVn e1 e2
  have hv':v'.qty=((F'.filter fun o=>decide (o.price=v'.price)).map (·.qty)).sum:=congrArg Lv.qty b1
  rw[ep,hsum]at hv'
  have hpos:1≤v.qty-x:=by
   rw[← hsum]
   have hyq:=hq y y1
   have h0:∀q∈(F'.filter fun o=>decide (o.price=v.price)).map (·.qty),0≤q:=by
    intro q hq2
    obtain⟨u,hu,rfl⟩:=List.mem_map.1 hq2
    have:=hq u (List.mem_filter.1 hu).1
    omega
   have:=r9 h0 (List.mem_map.2 ⟨y,hy,rfl⟩)
   omega
  rw[if_neg (by omega),hg',b2,ep,hout,← a2]
  show(v'.price,v'.qty)::lpq vs=_
  rw[ep,hv']
open Go Cv Go.Proofs
theorem zSt {L:List zI} {s pr Q:Int} {rest:List (Int×Int)} (h:lpq (kA L s)=(pr,Q)::rest):∃v vs,kA L s=v::vs∧v.price=pr∧v.qty=Q∧lpq vs=rest:=by
 cases e:kA L s with
 |nil=>rw[e]at h;cases h
 |cons v vs=>rw[e]at h;cases h;exact⟨v,vs,rfl,rfl,rfl,rfl⟩
theorem lE (L:List zI) (s id q:Int):jL (yN L id q) s=yN (jL L s) id q:=by
 rw[jL,jL,yN,yN,List.filter_filterMap,List.filterMap_filter]
 refine kR fun o _=> ?_
 by_cases e1:o.id=id
 ·rw[if_pos e1]
  by_cases e2:o.qty=q
  ·rw[if_pos e2];simp
  ·rw[if_neg e2];by_cases e3:o.side=s<;>simp[Option.filter,e3]
 ·rw[if_neg e1];by_cases e3:o.side=s<;>simp[Option.filter,e3]
theorem tV {inst s:Int}:∀{os:List zI} {sh:List Int},(∀n,0≤sh.getD n 0)→sh.sum=0→yF inst s os sh=[]
 |[],sh,_,_=>by rw[yF];simp
 |_::_,[],_,_=>by rw[yF];simp
 |o::os,x::sh,h,h2=>by
  have h0:0≤x:=h 0
  have h1:0≤sh.sum:=rW fun y hy=>by
   obtain⟨n,hn⟩:=List.getElem?_of_mem hy
   have:=h (n+1)
   have e:(x::sh).getD (n+1) 0=y:=zP (by rw[List.getElem?_cons_succ];exact hn)
   omega
  rw[List.sum_cons]at h2
  rw[yF,if_neg (by omega)]
  exact tV (fun n=>h (n+1)) (by omega)
theorem zLf {pr Q x y:Int} {rest:List (Int×Int)} (h:x<Q):mC (mC ((pr,Q)::rest) x) y=mC ((pr,Q)::rest) (x+y):=by
 have e:mC ((pr,Q)::rest) x=(pr,Q-x)::rest:=if_neg (by omega)
 rw[e]
 show(if Q-x≤y then rest else(pr,Q-x-y)::rest)=if Q≤x+y then rest else(pr,Q-(x+y))::rest
 by_cases c:Q≤x+y
 ·rw[if_pos (by omega),if_pos c]
 ·rw[if_neg (by omega),if_neg c,show Q-x-y=Q-(x+y)by omega]
theorem mU {p:Prd} {k:Nat} {i s pr:Int} (hs:s=1∨s=2):∀{os:List zI} {sh:List Int} {B:List (List zI)} {L:List zI} {Q:Int} {rest:List (Int×Int)},BWf p B→B[k]? =some L→
 (∀o∈os,o∈L∧o.side=s∧o.price=pr)→(os.map (·.id)).Nodup→sh.length=os.length→(∀n,0≤sh.getD n 0∧sh.getD n 0≤(os.map (·.qty)).getD n 0)→lpq (kA L s)=(pr,Q)::rest→sh.sum≤Q→1≤Q→
 ∃L1,(y7 B (yF i s os sh))[k]? =some L1∧lpq (kA L1 s)=mC ((pr,Q)::rest) sh.sum∧∀z,z≠s→kA L1 z=kA L z
 |[],sh,B,L,Q,rest,h,hL,_,_,hl,_,hd,_,hQ=>by
  have:sh=[]:=List.length_eq_zero_iff.1 hl
  subst this
  refine⟨L,hL,?_,fun _ _=>rfl⟩
  rw[hd,List.sum_nil]
  show _=if Q≤0 then rest else(pr,Q-0)::rest
  rw[if_neg (by omega),Int.sub_zero]
 |o::os,[],B,L,Q,rest,h,hL,_,_,hl,_,_,_,_=>by cases hl
 |o::os,x::sh,B,L,Q,rest,h,hL,ho,hn,hl,hb,hd,hsum,hQ=>by
  have hx:0≤x∧x≤o.qty:=hb 0
  have hb':∀n,0≤sh.getD n 0∧sh.getD n 0≤(os.map (·.qty)).getD n 0:=fun n=>hb (n+1)
  have hl':sh.length=os.length:=by simpa using hl
  rw[List.map_cons,List.nodup_cons]at hn
  obtain⟨ho0,hos,hop⟩:=ho o List.mem_cons_self
  have ho':∀y∈os,y∈L∧y.side=s∧y.price=pr:=fun y hy=>ho y (List.mem_cons_of_mem _ hy)
  rw[List.sum_cons]at hsum ⊢
  have hs0:0≤sh.sum:=rW fun y hy=>by
   obtain⟨n,hn⟩:=List.getElem?_of_mem hy
   have:=(hb' n).1
   have e:sh.getD n 0=y:=zP hn
   omega
  rw[yF]
  by_cases c:0<x
  ·rw[if_pos c]
   have hod:=h.od k L hL
   have hk:=(List.getElem?_eq_some_iff.1 hL).1
   have hi:=h.inst hL (List.mem_map_of_mem (f:=(·.id)) ho0)
   have hg:=wM hod.2.1 ho0
   have hh:qI L o.id=true:=hasId_iff.2 (List.mem_map_of_mem (f:=(·.id)) ho0)
   have ht:(qD B o.id x).1=B.set k (yN L o.id x):=by
    simp only[qD,hi,zP hL]
    rw[yV,if_neg (by rw[hh];decide),if_neg (by rw[hg];omega)]
   have hW:=h.take o.id x
   show ∃L1,(y7 (qD B o.id x).1 (yF i s os sh))[k]? =some L1∧_
   rw[ht]at hW ⊢
   have hL':(B.set k (yN L o.id x))[k]? =some (yN L o.id x):=jT hk
   obtain⟨v,vs,e1,e2,e3,e4⟩:=zSt hd
   have hF:o∈jL L s:=List.mem_filter.2 ⟨ho0,by simpa using hos⟩
   have hsd:=lE L s o.id x
   have hlt:=zSa (h.srt k L hL s hs) (hod.2.1.sublist (List.Sublist.map _ List.filter_sublist)) hF (v:=v) (vs:=vs) (by rw[← e1];rfl) (by rw[hop,e2]) (x:=x) (fun y hy=>by
    rw[← hsd]at hy
    exact((hW.od k _ hL').1 y (List.mem_filter.1 hy).1).q.1) (by rw[← hsd];exact hW.srt k _ hL' s hs)
   rw[← hsd]at hlt
   have hlt:lpq (kA (yN L o.id x) s)=mC (lpq (kA L s)) x:=hlt
   rw[hd]at hlt
   have hoth:∀z,z≠s→kA (yN L o.id x) z=kA L z:=by
    intro z hz
    show grp (jL (yN L o.id x) z)=grp (jL L z)
    rw[lE,sY fun y hy e=> ?_]
    obtain⟨y1,y2⟩:=List.mem_filter.1 hy
    have:=wM hod.2.1 y1
    rw[e,hg]at this
    subst this
    have y2:o.side=z:=by simpa using y2
    exact hz (by rw[← y2,hos])
   by_cases c2:sh.sum=0
   ·rw[tV (fun n=>(hb' n).1) c2,c2,Int.add_zero]
    exact⟨_,hL',hlt,hoth⟩
   ·have e5:mC ((pr,Q)::rest) x=(pr,Q-x)::rest:=if_neg (by omega)
    have hlt2:=hlt
    rw[e5]at hlt2
    obtain⟨L1,g1,g2,g3⟩:=mU (i:=i) hs hW hL' (fun y hy=>⟨List.mem_filterMap.2 ⟨y,(ho' y hy).1,if_neg fun(e:y.id=o.id)=>hn.1 (e▸List.mem_map_of_mem (f:=(·.id)) hy)⟩,(ho' y hy).2⟩) hn.2 hl' hb' hlt2 (by omega) (by omega)
    refine⟨L1,g1,?_,fun z hz=>(g3 z hz).trans (hoth z hz)⟩
    rw[g2,← e5,zLf (by omega)]
  ·rw[if_neg c]
   have:x=0:=by omega
   subst this
   rw[Int.zero_add]at hsum ⊢
   exact mU hs h hL ho' hn.2 hl' hb' hd hsum hQ
theorem mR {p:Prd} {B:List (List zI)} (h:BWf p B) {k:Nat} {L:List zI} (hL:B[k]? =some L) {s:Int} (hs:s=1∨s=2) {q:Int} (hb:(bestL L s).2=true) (hq:1≤q∧q≤(bestL L s).1.qty):
 ∃L1,(y7 B (yH p B k s q))[k]? =some L1∧lpq (kA L1 s)=mC (lpq (kA L s)) q∧∀z,z≠s→kA L1 z=kA L z:=by
 have G:=z6t h hL hs hb hq
 have e:=G.eq
 have S:=G.sh
 rw[zP hL]at e S
 have ho:=h.od k L hL
 cases hl:kA L s with
 |nil=>rw[bestL,hl]at hb;cases hb
 |cons v vs=>
  have hv:(bestL L s).1=v:=by rw[bestL,hl]
  rw[hv]at e S hq
  obtain⟨L1,g1,g2,g3⟩:=mU (i:=k) (pr:=v.price) (Q:=v.qty) (rest:=lpq vs) (os:=atL L s v.price) hs h hL (fun o hm=>by
   obtain⟨a,b⟩:=List.mem_filter.1 hm
   simp only[Bool.and_eq_true,decide_eq_true_eq]at b
   exact⟨a,b⟩) (ho.2.1.sublist (List.Sublist.map _ List.filter_sublist)) (by rw[S.len,List.length_map]) S.bd (by rw[hl];rfl) (by rw[S.sum];omega) (by omega)
  rw[e]
  refine⟨L1,g1,?_,g3⟩
  rw[g2,S.sum];rfl
def hdQ:List (Int×Int)→Int×Int×Bool
 |[]=>(0,0,false)
 |(p,q)::_=>(p,q,true)
theorem gP (L:List zI) (s:Int):((bestL L s).1.price,(bestL L s).1.qty,(bestL L s).2)=hdQ (lpq (kA L s)):=by
 rw[bestL]
 cases kA L s<;>rfl
def PEq (B B':List (List zI)):Prop:=B'.length=B.length∧∀(k:Nat) (s:Int),s=1∨s=2→(bestL (B'.getD k []) s).1.price=(bestL (B.getD k []) s).1.price∧(bestL (B'.getD k []) s).2=(bestL (B.getD k []) s).2
def LadEq (B B':List (List zI)):Prop:=B'.length=B.length∧∀(k:Nat) (s:Int),s=1∨s=2→lpq (kA (B'.getD k []) s)=lpq (kA (B.getD k []) s)
theorem LadEq.refl (B:List (List zI)):LadEq B B:=⟨rfl,fun _ _ _=>rfl⟩
theorem LadEq.best {B B':List (List zI)} (h:LadEq B B') (k:Nat) {s:Int} (hs:s=1∨s=2):(bestL (B'.getD k []) s).1.price=(bestL (B.getD k []) s).1.price∧(bestL (B'.getD k []) s).1.qty=(bestL (B.getD k []) s).1.qty∧(bestL (B'.getD k []) s).2=(bestL (B.getD k []) s).2:=by
 have a:=gP (B'.getD k []) s
 rw[h.2 k s hs,← gP]at a
 simp only[Prod.mk.injEq]at a
 exact a
theorem LadEq.p {B B':List (List zI)} (h:LadEq B B'):PEq B B':=⟨h.1,fun k s hs=>⟨(h.best k hs).1,(h.best k hs).2.2⟩⟩
def qz (q:Quote):Quote:={q with qty:=0}
theorem zAm {x y:Quote} (h:qz x=qz y):x.price=y.price∧x.a=y.a∧x.b=y.b:=by
 cases x;cases y;cases h;exact⟨rfl,rfl,rfl⟩
def TEq (T T':List Top):Prop:=T'.length=T.length∧∀k s,s=1∨s=2→((T'.getD k top0).has s=(T.getD k top0).has s∧(T'.getD k top0).price s=(T.getD k top0).price s)
theorem wX (B:List (List zI)) (k:Nat) (s:Int) (hs:s=1∨s=2):((B.map kQ).getD k top0).has s=(bestL (B.getD k []) s).2∧((B.map kQ).getD k top0).qty s=(bestL (B.getD k []) s).1.qty∧((B.map kQ).getD k top0).price s=(bestL (B.getD k []) s).1.price:=by
 by_cases h:k<B.length
 ·obtain⟨L,hL⟩:=z9 h
  rw[sW hL,zP hL];exact vA L hs
 ·rw[List.getD_eq_getElem?_getD,List.getD_eq_getElem?_getD,List.getElem?_eq_none (by rw[List.length_map];omega),List.getElem?_eq_none (by omega)]
  rcases hs with rfl|rfl<;>exact⟨rfl,rfl,rfl⟩
theorem PEq.t {B B':List (List zI)} (h:PEq B B'):TEq (B.map kQ) (B'.map kQ):=by
 refine⟨by rw[List.length_map,List.length_map,h.1],fun k s hs=> ?_⟩
 have a:=wX B k s hs
 have b:=wX B' k s hs
 have c:=h.2 k s hs
 exact⟨by rw[a.1,b.1,c.2],by rw[a.2.2,b.2.2,c.1]⟩
theorem zTp {T T':List Top} (h:TEq T T') {a b:Leg} (ha:a.side=1∨a.side=2) (hb:b.side=1∨b.side=2) (less:Bool):(mkq T' a b less).map qz=(mkq T a b less).map qz:=by
 have x:=h.2 a.inst.toNat a.side ha
 have y:=h.2 b.inst.toNat b.side hb
 cases less<;>simp only[mkq,x.1,x.2,y.1,y.2,Bool.false_eq_true,↓reduceIte]<;>split<;>rfl
theorem z4n {p:Prd} {T T':List Top} (h:TEq T T') {inst s:Int} (hs:s=1∨s=2):(xF ⟨p,T',inst⟩ s).map qz=(xF ⟨p,T,inst⟩ s).map qz:=by
 rw[xF,xF]
 dsimp only
 rw[h.1]
 split
 ·rfl
 split
 ·have e:∀l:List Quote,(l.map (xX ⟨p,T',inst⟩ s)).map qz=(l.map qz).map (xX ⟨p,T,inst⟩ s):=by
   intro l
   rw[List.map_map,List.map_map]
   exact List.map_congr_left fun q _=>rfl
  have e2:∀l:List Quote,(l.map (xX ⟨p,T,inst⟩ s)).map qz=(l.map qz).map (xX ⟨p,T,inst⟩ s):=by
   intro l
   rw[List.map_map,List.map_map]
   exact List.map_congr_left fun q _=>rfl
  rw[e,e2,zW,zW]
  dsimp only
  rw[zTp h (by dsimp only;omega) (by dsimp only;omega)]
 ·rw[List.map_append,List.map_append]
  congr 1
  ·rw[y9,y9,List.map_flatMap,List.map_flatMap]
   dsimp only
   congr 1
   funext k
   rw[zTp h (by dsimp only;omega) (by dsimp only;omega)]
  ·rw[yY,yY,List.map_flatMap,List.map_flatMap]
   dsimp only
   congr 1
   funext k
   rw[zTp h (by dsimp only;omega) (by dsimp only;omega)]
theorem zVe {p:Prd} {T T':List Top} (h:TEq T T') {inst s:Int} (hs:s=1∨s=2):(xC ⟨p,T',inst⟩ s).map qz=(xC ⟨p,T,inst⟩ s).map qz:=by
 have e:∀l:List Quote,(l.filter fun q=>decide (p.price inst q.price=0)).map qz=(l.map qz).filter fun q=>decide (p.price inst q.price=0):=by
  intro l
  rw[List.filter_map];rfl
 rw[xC,xC]
 dsimp only
 rw[e,e,z4n h hs]
theorem zRb (s:Int):∀(r:List Quote) (q:Quote),qz (r.foldl (fun b q=>if btr s q.price b.price then q else b) q)=(r.map qz).foldl (fun b q=>if btr s q.price b.price then q else b) (qz q)
 |[],q=>rfl
 |x::r,q=>by
  rw[List.foldl_cons,List.map_cons,List.foldl_cons,zRb s r]
  congr 1
  show qz (if btr s x.price q.price=true then x else q)=if btr s x.price q.price=true then qz x else qz q
  split<;>rfl
theorem zSq (l:List Quote) (s:Int):(qz (zV l s).1,(zV l s).2)=zV (l.map qz) s:=by
 cases l with
 |nil=>rfl
 |cons q r=>show(qz (r.foldl _ q),true)=((r.map qz).foldl _ (qz q),true);rw[zRb]
theorem z4c {p:Prd} {B B':List (List zI)} (h:PEq B B') {inst s:Int} (hs:s=1∨s=2):(zF p B' inst s).2=(zF p B inst s).2∧qz (zF p B' inst s).1=qz (zF p B inst s).1:=by
 have a:=zSq (xC ⟨p,B'.map kQ,inst⟩ s) s
 rw[zVe h.t hs,← zSq]at a
 have a:=Prod.mk.inj a
 have b:=h.2 inst.toNat s hs
 have c:(zV (xC ⟨p,B'.map kQ,inst⟩ s) s).1.price=(zV (xC ⟨p,B.map kQ,inst⟩ s) s).1.price:=(zAm a.1).1
 rw[zF,zF]
 rw[a.2,b.1,b.2,c]
 split
 ·exact⟨rfl,rfl⟩
 ·exact⟨rfl,a.1⟩
def j8 (inst s:Int) (n:Quote×Bool×Bool) (k:Nat) (z:Int):Prop:=if n.2.1=true then(k=n.1.a.inst.toNat∧z=n.1.a.side)∨(k=n.1.b.inst.toNat∧z=n.1.b.side)else k=inst.toNat∧z=s
def Dec (S:Nat→Int→Prop) (x:Int) (B B':List (List zI)):Prop:=B'.length=B.length∧∀(k:Nat) (s:Int),s=1∨s=2→(S k s→lpq (kA (B'.getD k []) s)=mC (lpq (kA (B.getD k []) s)) x)∧(¬S k s→lpq (kA (B'.getD k []) s)=lpq (kA (B.getD k []) s))
theorem Dec.eq {S:Nat→Int→Prop} {x:Int} {B B' C C':List (List zI)} (h:Dec S x B C) (h':Dec S x B' C') (e:LadEq B B'):LadEq C C':=by
 refine⟨by rw[h'.1,h.1,e.1],fun k s hs=> ?_⟩
 by_cases c:S k s
 ·rw[((h'.2 k s hs).1 c),((h.2 k s hs).1 c),e.2 k s hs]
 ·rw[((h'.2 k s hs).2 c),((h.2 k s hs).2 c),e.2 k s hs]
def goB (p:Prd) (B:List (List zI)) (inst:Int) (sd:Bool) (price:Int):Bool:=(zF p B inst (zB (!sd))).2.2 && (gZ sd price (zF p B inst (zB (!sd))).1.price && decide (1≤(zF p B inst (zB (!sd))).1.qty))
theorem z0i {p:Prd} {B:List (List zI)} {inst:Int} {sd:Bool} {price:Int} (h:goB p B inst sd price=false) (q:Int):v7 p B inst sd price q=none:=by
 rw[v7]
 dsimp only
 rw[if_neg]
 rw[goB]at h
 rw[h];decide
theorem uK {p:Prd} {B:List (List zI)} (h:BWf p B) {inst:Int} (hi:0≤inst∧inst<B.length) {sd:Bool} {price:Int} (hg:goB p B inst sd price=true) {q:Int} (hq:1≤q):
 ∃t B',v7 p B inst sd price q=some (t,B')∧t.qty=min q (zF p B inst (zB (!sd))).1.qty∧1≤t.qty∧BWf p B'∧Dec (j8 inst (zB (!sd)) (zF p B inst (zB (!sd)))) t.qty B B':=by
 have hs:zB (!sd)=1∨zB (!sd)=2:=qZ _
 have hg0:=hg
 rw[goB]at hg0
 simp only[Bool.and_eq_true,decide_eq_true_eq]at hg0
 obtain⟨c1,c2,c3⟩:=hg0
 obtain⟨hq1,h1,h2⟩:=dP h.ok h.od hi hs c1
 rw[v7]
 dsimp only
 rw[if_pos (by rw[goB]at hg;exact hg)]
 by_cases c:(zF p B inst (zB (!sd))).2.1=true
 ·obtain⟨_,ok⟩:=h1 c
  rw[if_pos c]
  refine⟨_,_,rfl,rfl,by dsimp only;omega,h.takes.takes,?_⟩
  dsimp only
  have hlg:j8 inst (zB (!sd)) (zF p B inst (zB (!sd)))=fun k z=>(k=(zF p B inst (zB (!sd))).1.a.inst.toNat∧z=(zF p B inst (zB (!sd))).1.a.side)∨(k=(zF p B inst (zB (!sd))).1.b.inst.toNat∧z=(zF p B inst (zB (!sd))).1.b.side):=by
   funext k z;rw[j8,if_pos c]
  rw[hlg]
  generalize (zF p B inst (zB (!sd))).1=n at*
  obtain⟨np,nq,⟨ai,az⟩,⟨bi,bs⟩⟩:=n
  have a:=ok.a
  have b:=ok.b
  have ne:=ok.ne
  rw[List.length_map]at a b
  dsimp only at a b ne hq1 c3 ⊢
  obtain⟨ka,rfl⟩:∃k:Nat,ai=k:=⟨ai.toNat,by omega⟩
  obtain⟨kb,rfl⟩:∃k:Nat,bi=k:=⟨bi.toNat,by omega⟩
  have hab:ka≠kb:=fun e=>ne (by rw[e])
  obtain⟨La,hLa⟩:=z9 (l:=B) (i:=ka) (by omega)
  obtain⟨Lb,hLb⟩:=z9 (l:=B) (i:=kb) (by omega)
  have e1:=ok.ha
  have e2:=ok.hb
  have e3:=ok.qty
  have sa:az=1∨az=2:=ok.sa
  have bz:bs=1∨bs=2:=ok.sb
  dsimp only at e1 e2 e3
  rw[Int.toNat_natCast,sW hLa]at e1 e3
  rw[Int.toNat_natCast,sW hLb]at e2 e3
  rw[(vA La sa).1]at e1
  rw[(vA Lb bz).1]at e2
  rw[(vA La sa).2.1,(vA Lb bz).2.1]at e3
  have hW1:BWf p (y7 B (yH p B ka az (min q nq))):=h.takes
  have hl:=wS h (k:=ka) (j:=kb) hab hLa hLb az (min q nq)
  obtain⟨L1,g1,g2,g3⟩:=mR h hLa sa e1 (q:=min q nq) (by omega)
  obtain⟨L2,f1,f2,f3⟩:=mR hW1 hl bz e2 (q:=min q nq) (by omega)
  have hl2:=wS hW1 (k:=kb) (j:=ka) (fun e=>hab e.symm) hl g1 bs (min q nq)
  refine⟨by rw[x7,x7],fun k s hs=> ?_⟩
  rw[Int.toNat_natCast,Int.toNat_natCast]
  by_cases ca:k=ka
  ·subst ca
   rw[zP hl2,zP hLa]
   by_cases cs:s=az
   ·subst cs
    exact⟨fun _=>g2,fun x=>absurd (.inl ⟨rfl,rfl⟩) x⟩
   ·exact⟨fun x=>by rcases x with x|x;exact absurd x.2 cs;exact absurd x.1 hab,fun _=>by rw[g3 s cs]⟩
  by_cases cb:k=kb
  ·subst cb
   rw[zP f1,zP hLb]
   by_cases cs:s=bs
   ·subst cs
    exact⟨fun _=>f2,fun x=>absurd (.inr ⟨rfl,rfl⟩) x⟩
   ·exact⟨fun x=>by rcases x with x|x;exact absurd x.1 ca;exact absurd x.2 cs,fun _=>by rw[f3 s cs]⟩
  refine⟨fun x=>by rcases x with x|x;exact absurd x.1 ca;exact absurd x.1 cb,fun _=> ?_⟩
  by_cases hk:k<B.length
  ·obtain⟨L,hL⟩:=z9 hk
   have m1:=wS h (k:=ka) (j:=k) (fun e=>ca e.symm) hLa hL az (min q nq)
   have m2:=wS hW1 (k:=kb) (j:=k) (fun e=>cb e.symm) hl m1 bs (min q nq)
   rw[zP hL,zP m2]
  ·rw[List.getD_eq_getElem?_getD,List.getD_eq_getElem?_getD,List.getElem?_eq_none (by rw[x7,x7];omega),List.getElem?_eq_none (by omega)]
 ·obtain⟨d1,d2,d3⟩:=h2 (by simpa using c)
  rw[if_neg c]
  refine⟨_,_,rfl,rfl,by dsimp only;omega,h.takes,?_⟩
  dsimp only
  have hlg:j8 inst (zB (!sd)) (zF p B inst (zB (!sd)))=fun k z=>k=inst.toNat∧z=zB (!sd):=by
   funext k z;rw[j8,if_neg c]
  rw[hlg]
  obtain⟨k0,rfl⟩:∃k:Nat,inst=k:=⟨inst.toNat,by omega⟩
  obtain⟨L,hL⟩:=z9 (l:=B) (i:=k0) (by omega)
  rw[Int.toNat_natCast,zP hL]at d1 d3
  rw[Int.toNat_natCast]
  obtain⟨L1,g1,g2,g3⟩:=mR h hL hs d1 (q:=min q (zF p B k0 (zB (!sd))).1.qty) (by omega)
  refine⟨by rw[x7],fun k s hs2=> ?_⟩
  by_cases ca:k=k0
  ·subst ca
   rw[zP g1,zP hL]
   by_cases cs:s=zB (!sd)
   ·rw[cs]
    exact⟨fun _=>g2,fun x=>absurd ⟨rfl,rfl⟩ x⟩
   ·exact⟨fun x=>absurd x.2 cs,fun _=>by rw[g3 s cs]⟩
  refine⟨fun x=>absurd x.1 ca,fun _=> ?_⟩
  by_cases hk:k<B.length
  ·obtain⟨M,hM⟩:=z9 hk
   have m1:=wS h (k:=k0) (j:=k) (fun e=>ca e.symm) hL hM (zB (!sd)) (min q (zF p B k0 (zB (!sd))).1.qty)
   rw[zP hM,zP m1]
  ·rw[List.getD_eq_getElem?_getD,List.getD_eq_getElem?_getD,List.getElem?_eq_none (by rw[x7];omega),List.getElem?_eq_none (by omega)]
open Go Cv Go.Proofs
theorem mB {L L':List zI} {s x:Int} (h:lpq (kA L' s)=mC (lpq (kA L s)) x) (hb:(bestL L s).2=true) (hx:x<(bestL L s).1.qty):(bestL L' s).1.price=(bestL L s).1.price∧(bestL L' s).1.qty=(bestL L s).1.qty-x∧(bestL L' s).2=true:=by
 have a:=gP L' s
 have b:=gP L s
 rw[h]at a
 cases e:lpq (kA L s)with
 |nil=>rw[e]at b;simp only[hdQ,Prod.mk.injEq]at b;rw[b.2.2]at hb;cases hb
 |cons v vs=>
  obtain⟨pr,Q⟩:=v
  rw[e]at a b
  simp only[hdQ,Prod.mk.injEq]at b
  have e2:mC ((pr,Q)::vs) x=(pr,Q-x)::vs:=if_neg (by omega)
  rw[e2]at a
  simp only[hdQ,Prod.mk.injEq]at a
  rw[a.1,a.2.1,b.1,b.2.1]
  exact⟨rfl,rfl,a.2.2⟩
theorem aJ {p:Prd} {B:List (List zI)} (h:BWf p B) {inst:Int} (hi:0≤inst∧inst<B.length) {s:Int} (hs:s=1∨s=2) (hn:(zF p B inst s).2.2=true) {k:Nat} {z:Int} (hl:j8 inst s (zF p B inst s) k z):
 (bestL (B.getD k []) z).2=true∧(zF p B inst s).1.qty≤(bestL (B.getD k []) z).1.qty:=by
 obtain⟨_,h1,h2⟩:=dP h.ok h.od hi hs hn
 rw[j8]at hl
 split at hl
 ·rename_i c
  obtain⟨_,ok⟩:=h1 c
  have e1:=ok.ha
  have e2:=ok.hb
  have e3:=ok.qty
  have a:=wX B (zF p B inst s).1.a.inst.toNat _ ok.sa
  have b:=wX B (zF p B inst s).1.b.inst.toNat _ ok.sb
  rw[a.1]at e1
  rw[b.1]at e2
  rw[a.2.1,b.2.1]at e3
  rcases hl with⟨rfl,rfl⟩|⟨rfl,rfl⟩
  ·exact⟨e1,by omega⟩
  ·exact⟨e2,by omega⟩
 ·rename_i c
  obtain⟨d1,d2,d3⟩:=h2 (by simpa using c)
  obtain⟨rfl,rfl⟩:=hl
  exact⟨d1,by omega⟩
theorem zPo {p:Prd} {B B1:List (List zI)} (h:BWf p B) (h1:BWf p B1) {inst:Int} (hi:0≤inst∧inst<B.length) {s:Int} (hs:s=1∨s=2) (hn:(zF p B inst s).2.2=true) {x:Int} (hd:Dec (j8 inst s (zF p B inst s)) x B B1) (hx:x<(zF p B inst s).1.qty):
 zF p B1 inst s=({(zF p B inst s).1 with qty:=(zF p B inst s).1.qty-x},(zF p B inst s).2):=by
 have hpe:PEq B B1:=by
  refine⟨hd.1,fun k z hz=> ?_⟩
  by_cases c:j8 inst s (zF p B inst s) k z
  ·have a:=aJ h hi hs hn c
   have b:=mB ((hd.2 k z hz).1 c) a.1 (by omega)
   exact⟨b.1,b.2.2.trans a.1.symm⟩
  ·have a:=gP (B1.getD k []) z
   rw[(hd.2 k z hz).2 c,← gP]at a
   simp only[Prod.mk.injEq]at a
   exact⟨a.1,a.2.2⟩
 obtain⟨z1,z2⟩:=z4c (p:=p) (inst:=inst) hpe hs
 have hi1:0≤inst∧inst<B1.length:=by rw[hd.1];exact hi
 have hn1:(zF p B1 inst s).2.2=true:=by rw[z1];exact hn
 obtain⟨_,p1,p2⟩:=dP h.ok h.od hi hs hn
 obtain⟨_,r1,r2⟩:=dP h1.ok h1.od hi1 hs hn1
 have hq:(zF p B1 inst s).1.qty=(zF p B inst s).1.qty-x:=by
  cases c:(zF p B inst s).2.1 with
  |true=>
   obtain⟨_,ok⟩:=p1 c
   obtain⟨_,ok1⟩:=r1 (by rw[z1];exact c)
   have ea:(zF p B1 inst s).1.a=(zF p B inst s).1.a:=(zAm z2).2.1
   have eb:(zF p B1 inst s).1.b=(zF p B inst s).1.b:=(zAm z2).2.2
   have q1:=ok1.qty
   have q0:=ok.qty
   rw[ea,eb,(wX B1 _ _ ok.sa).2.1,(wX B1 _ _ ok.sb).2.1]at q1
   rw[(wX B _ _ ok.sa).2.1,(wX B _ _ ok.sb).2.1]at q0
   have la:j8 inst s (zF p B inst s) (zF p B inst s).1.a.inst.toNat (zF p B inst s).1.a.side:=by rw[j8,if_pos c];exact .inl ⟨rfl,rfl⟩
   have lb:j8 inst s (zF p B inst s) (zF p B inst s).1.b.inst.toNat (zF p B inst s).1.b.side:=by rw[j8,if_pos c];exact .inr ⟨rfl,rfl⟩
   have ha:=aJ h hi hs hn la
   have hb:=aJ h hi hs hn lb
   have da:=mB ((hd.2 _ _ ok.sa).1 la) ha.1 (by omega)
   have db:=mB ((hd.2 _ _ ok.sb).1 lb) hb.1 (by omega)
   omega
  |false=>
   obtain⟨d1,d2,d3⟩:=p2 c
   obtain⟨f1,f2,f3⟩:=r2 (by rw[z1];exact c)
   have la:j8 inst s (zF p B inst s) inst.toNat s:=by rw[j8,if_neg (by rw[c];decide)];exact⟨rfl,rfl⟩
   have da:=mB ((hd.2 _ _ hs).1 la) d1 (by omega)
   omega
 refine Prod.ext ?_ z1
 have e1:(zF p B1 inst s).1.price=(zF p B inst s).1.price:=(zAm z2).1
 have e2:(zF p B1 inst s).1.a=(zF p B inst s).1.a:=(zAm z2).2.1
 have e3:(zF p B1 inst s).1.b=(zF p B inst s).1.b:=(zAm z2).2.2
 generalize (zF p B1 inst s).1=n1 at*
 generalize (zF p B inst s).1=n0 at*
 cases n1;cases n0
 dsimp only at*
 rw[e1,e2,e3,hq]
theorem LadEq.tops {B B':List (List zI)} (h:LadEq B B'):B'.map kQ=B.map kQ:=by
 apply List.ext_getElem?
 intro k
 rw[List.getElem?_map,List.getElem?_map]
 by_cases c:k<B.length
 ·obtain⟨L,hL⟩:=z9 c
  obtain⟨L',hL'⟩:=z9 (l:=B') (i:=k) (by rw[h.1];exact c)
  rw[hL,hL']
  have a:=h.best k (.inl rfl)
  have b:=h.best k (.inr rfl)
  rw[zP hL,zP hL']at a b
  obtain⟨x1,x2,x3,x4,x5,x6⟩:=bF L
  obtain⟨y1,y2,y3,y4,y5,y6⟩:=bF L'
  show some (kQ L')=some (kQ L)
  congr 1
  generalize kQ L'=t' at*
  generalize kQ L=t at*
  cases t';cases t
  dsimp only at*
  simp[x1,x2,x3,x4,x5,x6,y1,y2,y3,y4,y5,y6,a,b]
 ·rw[List.getElem?_eq_none (by rw[h.1];omega),List.getElem?_eq_none (by omega)]
theorem LadEq.next {B B':List (List zI)} (h:LadEq B B') (p:Prd) (inst:Int) {s:Int} (hs:s=1∨s=2):zF p B' inst s=zF p B inst s:=by
 have a:=h.best inst.toNat hs
 rw[zF,zF,h.tops,a.1,a.2.1,a.2.2]
theorem LadEq.go {B B':List (List zI)} (h:LadEq B B') (p:Prd) (inst:Int) (sd:Bool) (price:Int):goB p B' inst sd price=goB p B inst sd price:=by
 rw[goB,goB,h.next p inst (qZ _)]
def qO (p:Prd) (B:List (List zI)) (inst:Int) (sd:Bool) (price q:Int):Int:=q-(qR p B inst sd price q).left
theorem zHg {p:Prd} {B:List (List zI)} {inst:Int} {sd:Bool} {price:Int} (h:goB p B inst sd price=false) (q:Int):qR p B inst sd price q=⟨[],q,B⟩:=uZ (.inr (z0i h q))
theorem fE {p:Prd} {B:List (List zI)} {inst:Int} {sd:Bool} {price:Int} (h:goB p B inst sd price=false) (q:Int):qO p B inst sd price q=0:=by
 rw[qO,zHg h];dsimp only;omega
theorem j7 {p:Prd} {B:List (List zI)} {inst:Int} {sd:Bool} {price:Int} {q:Int} (h:q≤0):qO p B inst sd price q=0:=by
 rw[qO,uZ (.inl h)];dsimp only;omega
theorem j6 {p:Prd} {B:List (List zI)} {inst:Int} {sd:Bool} {price q:Int} {t:nG} {B':List (List zI)} (hq:1≤q) (h:v7 p B inst sd price q=some (t,B')):qO p B inst sd price q=t.qty+qO p B' inst sd price (q-t.qty):=by
 rw[qO,qO,fF hq h];dsimp only;omega
theorem zJr {p:Prd} {inst:Int} {sd:Bool} {price:Int}:∀(m:Nat) (q:Int) (B B':List (List zI)),q.toNat≤m→BWf p B→BWf p B'→LadEq B B'→0≤inst∧inst<B.length→qO p B' inst sd price q=qO p B inst sd price q
 |0,q,B,B',hm,_,_,_,_=>by rw[j7 (by omega),j7 (by omega)]
 |m+1,q,B,B',hm,h,h',e,hi=>by
  by_cases hq:q≤0
  ·rw[j7 hq,j7 hq]
  cases hg:goB p B inst sd price with
  |false=>rw[fE hg,fE (by rw[e.go];exact hg)]
  |true=>
   obtain⟨t,C,a1,a2,a3,a4,a5⟩:=uK h hi hg (q:=q) (by omega)
   obtain⟨t',C',b1,b2,b3,b4,b5⟩:=uK h' (by rw[e.1];exact hi) (by rw[e.go];exact hg) (q:=q) (by omega)
   rw[e.next p inst (qZ _)]at b2 b5
   rw[j6 (by omega) a1,j6 (by omega) b1,b2,← a2,zJr m (q-t.qty) C C' (by omega) a4 b4 (a5.eq (by rw[a2,← b2];exact b5) e) (by rw[a5.1];exact hi)]
theorem e8 {p:Prd} {inst:Int} {sd:Bool} {price:Int}:∀(m:Nat) (a b:Int) (B B':List (List zI)),a.toNat≤m→0≤a→0≤b→BWf p B→BWf p B'→LadEq B B'→0≤inst∧inst<B.length→
 qO p B inst sd price (a+b)=qO p B' inst sd price a+qO p (qR p B' inst sd price a).B inst sd price b
 |m,a,b,B,B',hm,ha,hb,h,h',e,hi=>by
  by_cases hq:a≤0
  ·have:a=0:=by omega
   subst this
   rw[j7 (q:=0) (by omega),uZ (.inl (Int.le_refl 0)),Int.zero_add,Int.zero_add]
   exact(zJr _ b B B' (Nat.le_refl _) h h' e hi).symm
  cases hg:goB p B inst sd price with
  |false=>
   have hg':goB p B' inst sd price=false:=by rw[e.go];exact hg
   rw[fE hg,fE hg',zHg hg']
   dsimp only
   rw[fE hg'];rfl
  |true=>
   obtain⟨t,C,a1,a2,a3,a4,a5⟩:=uK h hi hg (q:=a+b) (by omega)
   obtain⟨t',C',b1,b2,b3,b4,b5⟩:=uK h' (by rw[e.1];exact hi) (by rw[e.go];exact hg) (q:=a) (by omega)
   rw[e.next p inst (qZ _)]at b2 b5
   have hiC:0≤inst∧inst<C.length:=by rw[a5.1];exact hi
   by_cases c:(zF p B inst (zB (!sd))).1.qty≤a
   ·have et:t'.qty=t.qty:=by omega
    cases m with
    |zero=>omega
    |succ m=>
    have ih:=e8 (p:=p) (inst:=inst) (sd:=sd) (price:=price) m (a-t.qty) b C C' (by omega) (by omega) hb a4 b4 (a5.eq (by rw[et]at b5;exact b5) e) hiC
    rw[j6 (by omega) a1,j6 (by omega) b1,fF (by omega) b1,et]
    dsimp only
    rw[show a+b-t.qty=a-t.qty+b by omega,ih];omega
   ·have et:t'.qty=a:=by omega
    have e0:a-t'.qty=0:=by omega
    rw[et]at b5
    rw[j6 (by omega) b1,fF (by omega) b1,e0,j7 (q:=0) (by omega),uZ (B:=C') (.inl (Int.le_refl 0))]
    dsimp only
    rw[et,j6 (by omega) a1,Int.add_zero]
    have hgo:=hg
    rw[goB]at hgo
    simp only[Bool.and_eq_true,decide_eq_true_eq]at hgo
    obtain⟨n1,n2,n3⟩:=hgo
    have hnx:zF p C' inst (zB (!sd))=({(zF p B inst (zB (!sd))).1 with qty:=(zF p B inst (zB (!sd))).1.qty-a},(zF p B inst (zB (!sd))).2):=by
     have:=zPo h' b4 (by rw[e.1];exact hi) (qZ (!sd)) (by rw[e.next p inst (qZ _)];exact n1) (x:=a) (by rw[e.next p inst (qZ _)];exact b5) (by rw[e.next p inst (qZ _)];omega)
     rw[e.next p inst (qZ _)]at this
     exact this
    by_cases c0:b≤0
    ·have eb:b=0:=by omega
     rw[eb]at a2 ⊢
     rw[j7 (q:=0) (by omega),j7 (by omega)];omega
    have hiC':0≤inst∧inst<C'.length:=by rw[b5.1,e.1];exact hi
    have hg2:goB p C' inst sd price=true:=by
     rw[goB,hnx]
     simp only[Bool.and_eq_true,decide_eq_true_eq]
     exact⟨n1,n2,by omega⟩
    obtain⟨u,D,d1,d2,d3,d4,d5⟩:=uK b4 hiC' hg2 (q:=b) (by omega)
    have hlg:j8 inst (zB (!sd)) (zF p C' inst (zB (!sd)))=j8 inst (zB (!sd)) (zF p B inst (zB (!sd))):=by
     funext k z;rw[hnx];rfl
    rw[hlg]at d5
    rw[hnx]at d2
    dsimp only at d2
    rw[j6 (by omega) d1]
    have hCD:LadEq C D:=by
     refine⟨by rw[d5.1,b5.1,a5.1,e.1],fun k z hz=> ?_⟩
     by_cases cl:j8 inst (zB (!sd)) (zF p B inst (zB (!sd))) k z
     ·rw[(d5.2 k z hz).1 cl,(b5.2 k z hz).1 cl,(a5.2 k z hz).1 cl,e.2 k z hz]
      have lh:=aJ h hi (qZ (!sd)) n1 cl
      have bh:=gP (B.getD k []) z
      cases el:lpq (kA (B.getD k []) z)with
      |nil=>rfl
      |cons v vs=>
       obtain⟨pr,Q⟩:=v
       rw[el]at bh
       simp only[hdQ,Prod.mk.injEq]at bh
       rw[zLf (by omega),show a+u.qty=t.qty by omega]
     ·rw[(d5.2 k z hz).2 cl,(b5.2 k z hz).2 cl,(a5.2 k z hz).2 cl,e.2 k z hz]
    rw[zJr _ (b-u.qty) C D (Nat.le_refl _) a4 d4 hCD hiC,show a+b-t.qty=b-u.qty by omega]
    omega
theorem BWf.run {p:Prd} {inst:Int} {sd:Bool} {price:Int}:∀(m:Nat) (q:Int) (B:List (List zI)),q.toNat≤m→BWf p B→0≤inst∧inst<B.length→BWf p (qR p B inst sd price q).B∧(qR p B inst sd price q).B.length=B.length∧
 (0<(qR p B inst sd price q).left→0<q∧goB p (qR p B inst sd price q).B inst sd price=false)∧(0≤q→0≤(qR p B inst sd price q).left∧(qR p B inst sd price q).left≤q)∧((qR p B inst sd price q).steps=[]→qO p B inst sd price q=0)∧(qO p B inst sd price q=0→0≤q→(qR p B inst sd price q).steps=[])
 |m,q,B,hm,h,hi=>by
  by_cases hq:q≤0
  ·rw[j7 hq,uZ (.inl hq)]
   exact⟨h,rfl,fun x=>by dsimp only at x;omega,fun x=>⟨x,Int.le_refl _⟩,fun _=>rfl,fun _ _=>rfl⟩
  cases hg:goB p B inst sd price with
  |false=>
   rw[fE hg,zHg hg]
   exact⟨h,rfl,fun _=>⟨by omega,hg⟩,fun x=>⟨x,Int.le_refl _⟩,fun _=>rfl,fun _ _=>rfl⟩
  |true=>
   obtain⟨t,C,a1,a2,a3,a4,a5⟩:=uK h hi hg (q:=q) (by omega)
   cases m with
   |zero=>omega
   |succ m=>
   obtain⟨i1,i2,i3,i4,i5,i6⟩:=BWf.run (p:=p) (inst:=inst) (sd:=sd) (price:=price) m (q-t.qty) C (by omega) a4 (by rw[a5.1];exact hi)
   have i4:=i4 (by omega)
   have hc:=j6 (by omega) a1
   rw[qO]at hc
   rw[qO]at hc
   rw[fF (by omega) a1]
   refine⟨i1,i2.trans a5.1,fun x=>⟨by omega,(i3 x).2⟩,fun _=>⟨i4.1,by dsimp only;omega⟩,fun x=>(by cases x),fun x=> ?_⟩
   rw[j6 (by omega) a1,qO]at x
   omega
theorem z0c {p:Prd} (hc:p.check=0) (hp:p.small) {inst:Int} (hi:0≤inst∧inst<p.count) (sd:Bool) (price:Int):goB p (List.replicate p.count []) inst sd price=false:=by
 rw[goB]
 have hb:=BOk.new hc hp
 have hnil:∀k,(List.replicate p.count ([]:List zI)).getD k []=[]:=by
  intro k
  rw[List.getD_eq_getElem?_getD]
  cases e:(List.replicate p.count ([]:List zI))[k]? with
  |none=>rfl
  |some x=>exact(List.mem_replicate.1 (List.mem_of_getElem? e)).2
 have ho:zRr (List.replicate p.count []):=by
  intro k L hL
  have:L=[]:=(List.mem_replicate.1 (List.mem_of_getElem? hL)).2
  subst this
  exact⟨fun o ho=>(by cases ho),List.nodup_nil,Nat.zero_le _⟩
 cases hn:(zF p (List.replicate p.count []) inst (zB (!sd))).2.2 with
 |false=>rfl
 |true=>
  obtain⟨_,h1,h2⟩:=dP hb ho (by rw[List.length_replicate];omega) (qZ (!sd)) hn
  cases c:(zF p (List.replicate p.count []) inst (zB (!sd))).2.1 with
  |true=>
   obtain⟨_,ok⟩:=h1 c
   have a:=ok.ha
   rw[(wX _ _ _ ok.sa).1,hnil]at a
   cases a
  |false=>
   obtain⟨d1,_⟩:=h2 c
   rw[hnil]at d1
   cases d1
open Go Cv Go.Proofs
def coulC:Con:=con1 RunI (fun i=>[.nm 0 0,zE i.inst,zE (zB i.sd),zE i.price,zE i.q]) (fun i=>[zT i.s]) (fun i=>i.s.Rep i.p i.B∧BOk i.p i.B∧(0≤i.inst∧i.inst<i.B.length)∧1≤i.q∧i.q≤1000000)
 (fun i=>zE (qO i.p i.B i.inst i.sd i.price i.q)) (fun i=>[zT i.s])
structure McI where
 m:MmI
 more:Int
def McI.n (i:McI):Int:=1+zD i.more 0 30
def mcC:Con:=con1 McI (fun i=>[prdV i.m.x,roV 6 (i.m.l.map askE),zE i.m.inst,zE i.m.side,zE i.m.price,zE i.m.qty,zE i.more]) (fun _=>[]) (fun i=>i.m.raw∧yI i.more) (fun _=>yJ true) (fun _=>[])
def mcA (i:McI):List SAnn:=[{ι:=Nat×MSt,slots:=fun j=>[(16,.nm 0 0),(18,zE j.1)],rows:=fun j=>[zT j.2]}]
def mcJ:List (Nat×SAnn):=[(4,z9g 15),(24,bj 53),(32,z7o 19),(40,z7o 20),(56,bj 137)]
open Go Cv Go.Proofs
@[reducible] def rM (i:RunI):Prop:=∃(i_1:MSt),sb i_1.p.code=sb i.s.p.code∧i_1.p.tick=i.s.p.tick∧i_1.p.low=i.s.p.low∧i_1.p.high=i.s.p.high∧i_1.p.wide=i.s.p.wide∧i_1.p.rule=i.s.p.rule∧i_1.p.top=i.s.p.top∧i_1.p.least=i.s.p.least∧i_1.p.part=i.s.p.part∧AObj.objs 64 Book 6 zN i_1.books none=AObj.objs 64 Book 6 zN i.s.books none∧yC i_1.wh=yC i.s.wh∧AObj.fro 1 (iE i_1.p.months)=AObj.fro 1 (iE i.s.p.months)∧AObj.fro 1 (iE i_1.p.settle)=AObj.fro 1 (iE i.s.p.settle)∧(i_1.books.length≤1000000∧∀(b:Book),b∈i_1.books→(b.a.slots.length≤1000000∧b.a.queues.length≤1000000)∧b.buys.length≤1000000∧b.sells.length≤1000000∧b.spare.length≤1000000)∧∀(o:Unit),True→∃(i_2:RunI),i_2.inst=i.inst∧zB i_2.sd=zB i.sd∧i_2.price=i.price∧i_2.q=i.q∧zT i_2.s=zT i_1∧(i_2.s.Rep i_2.p i_2.B∧BOk i_2.p i_2.B∧(0≤i_2.inst∧i_2.inst<(↑i_2.B.length:Int))∧1≤i_2.q∧i_2.q≤1000000)∧∀(o:MSt),o.Rep i_2.p i_2.r.B→∃(o:Unit),qO i.p i.B i.inst i.sd i.price i.q=IntKind.i64.wrap (i.q-i_2.r.left)∧zT i.s=zT i_1∧True
@[reducible] def wR (i:RunI):Prop:=∃(o:Unit),qO i.p i.B i.inst i.sd i.price i.q=0∧sb i.s.p.code=sb i.s.p.code∧i.s.p.tick=i.s.p.tick∧i.s.p.low=i.s.p.low∧i.s.p.high=i.s.p.high∧i.s.p.wide=i.s.p.wide∧i.s.p.rule=i.s.p.rule∧i.s.p.top=i.s.p.top∧i.s.p.least=i.s.p.least∧i.s.p.part=i.s.p.part∧AObj.objs 64 Book 6 zN i.s.books none=AObj.objs 64 Book 6 zN i.s.books none∧yC i.s.wh=yC i.s.wh∧AObj.fro 1 (iE i.s.p.months)=AObj.fro 1 (iE i.s.p.months)∧AObj.fro 1 (iE i.s.p.settle)=AObj.fro 1 (iE i.s.p.settle)∧True
def zJj (i:RunI):Prop:=
 cnd (decide (i.inst≥0)) (cnd (decide (i.inst<(↑i.s.books.length:Int))) (cnd (zB i.sd==1) (cnd (decide (i.q≥1)) (cnd (!decide (i.q≤1000000)) (wR i) (rM i)) (wR i)) (cnd (zB i.sd==2) (cnd (decide (i.q≥1)) (cnd (!decide (i.q≤1000000)) (wR i) (rM i)) (wR i)) (wR i))) (wR i)) (wR i)
theorem zYz (hG:GOk Tryz.prog ([(25,copySC),(14,runC)])) (h:∀(i:RunI),coulC.cnd i→zJj i):coulC.ok Tryz.prog 10:=okw mixed hG 2 (fun _=>[]) (fun _=>[]) [0] Tryz.func10 h
@[reducible] def kK (i:McI):AObj:=Sx.AObj.cells [V.d (D.v (Value.string (sb i.m.x.code))),V.own (0:Nat),V.d (D.v (.int .i64 i.m.x.tick)),V.d (D.v (.int .i64 i.m.x.low)),V.d (D.v (.int .i64 i.m.x.high)),V.d (D.v (.int .i64 i.m.x.wide)),V.d (D.v (.int .i64 i.m.x.rule)),V.d (D.v (.int .i64 i.m.x.top)),V.d (D.v (.int .i64 i.m.x.least)),V.d (D.v (.int .i64 i.m.x.part)),V.own ((0:Nat)+(1:Nat))] (25:Nat)
@[reducible] def jB (i_1:Prd):AObj:=Sx.AObj.cells (h9 (tZ ((0:Nat)+(1:Nat)+(1:Nat)+(1:Nat)) (qL [] (0:Nat) []) (3:Nat)) [sV i_1.code,V.own (1:Nat),zE i_1.tick,zE i_1.low,zE i_1.high,zE i_1.wide,zE i_1.rule,zE i_1.top,zE i_1.least,zE i_1.part,V.own (2:Nat)]) (25:TypeId)
@[reducible] def gY (i_6:Sx.Ask):AObj:=Sx.AObj.cells (h9 (tZ ((0:Nat)+(1:Nat)+(1:Nat)+(1:Nat)+(3:Nat)+((1:Nat)-(0:Nat))+((1:Nat)-(1:Nat))+(1:Nat)+(0:Nat)) (qL [] (0:Nat) []) (1:Nat)) i_6.cells) (34:TypeId)
@[reducible] def zVd (i:McI) (i_1:Prd) (o:Unit) (i_4:Nat×MSt) (I_2:Sx.Ask→Prop) (n:Int) (n_1:Int) (n_2:Int) (n_3:Int) (n_4:Int) (n_5:Int):Prop:=∃(i_6:SmI),sb i_6.p.code=sb i_1.code∧iE i_6.p.months=iE i_1.months∧i_6.p.tick=i_1.tick∧i_6.p.low=i_1.low∧i_6.p.high=i_1.high∧i_6.p.wide=i_1.wide∧i_6.p.rule=i_1.rule∧i_6.p.top=i_1.top∧i_6.p.least=i_1.least∧i_6.p.part=i_1.part∧iE i_6.p.settle=iE i_1.settle∧i_6.x.kind=n∧i_6.x.inst=n_1∧i_6.x.side=n_2∧i_6.x.id=n_3∧i_6.x.price=n_4∧i_6.x.qty=n_5∧i_6.i=(↑i_4.fst:Int)∧(i_6.p.check=0∧(i_6.p.code.length≤1099511627776∧i_6.p.months.length≤1099511627776∧i_6.p.settle.length≤1099511627776)∧(((-9223372036854775808)≤i_6.x.kind∧i_6.x.kind≤9223372036854775807)∧((-9223372036854775808)≤i_6.x.inst∧i_6.x.inst≤9223372036854775807)∧((-9223372036854775808)≤i_6.x.side∧i_6.x.side≤9223372036854775807)∧((-9223372036854775808)≤i_6.x.id∧i_6.x.id≤9223372036854775807)∧((-9223372036854775808)≤i_6.x.price∧i_6.x.price≤9223372036854775807)∧(-9223372036854775808)≤i_6.x.qty∧i_6.x.qty≤9223372036854775807)∧0≤i_6.i∧i_6.i≤1000000)∧∀(o:Unit),True→∃(i':Sx.Ask),i'.kind=jR i_6.x∧i'.inst=zD i_6.x.inst 0 ((↑i_6.p.count:Int)-1)∧i'.side=1+zD i_6.x.side 0 1∧(i'.id=if jR i_6.x=1 then i_6.i else zD i_6.x.id 0 i_6.i)∧(i'.price=if(i_6.p.legs (zD i_6.x.inst 0 ((↑i_6.p.count:Int)-1))).snd.snd=true then i_6.p.tick*(zD i_6.x.price 0 (7:Int)-(4:Int))else i_6.p.tick*(zD i_6.x.price 0 (7:Int)+(8:Int)))∧i'.qty=1+zD i_6.x.qty 0 11∧I_2 i'∧zT i_4.snd=zT i_4.snd∧jB i_1=jB i_1∧AObj.fro 1 (iE i_1.months)=AObj.fro 1 (iE i_1.months)∧AObj.fro 1 (iE i_1.settle)=AObj.fro 1 (iE i_1.settle)∧kK i=kK i∧AObj.fro 1 (iE i.m.x.settle)=AObj.fro 1 (iE i.m.x.settle)∧AObj.fro 1 (iE i.m.x.months)=AObj.fro 1 (iE i.m.x.months)
def Vmc (i:McI):Prop:=
 ∃(i0:Prd),∃(I:Prd→Prop),(∃(i_1:Prd),sb i_1.code=sb i.m.x.code∧iE i_1.months=iE i.m.x.months∧i_1.tick=i.m.x.tick∧i_1.low=i.m.x.low∧i_1.high=i.m.x.high∧i_1.wide=i.m.x.wide∧i_1.rule=i.m.x.rule∧i_1.top=i.m.x.top∧i_1.least=i.m.x.least∧i_1.part=i.m.x.part∧iE i_1.settle=iE i.m.x.settle∧(((-9223372036854775808)≤i_1.tick∧i_1.tick≤9223372036854775807)∧((-9223372036854775808)≤i_1.wide∧i_1.wide≤9223372036854775807)∧((-9223372036854775808)≤i_1.rule∧i_1.rule≤9223372036854775807)∧((-9223372036854775808)≤i_1.top∧i_1.top≤9223372036854775807)∧((-9223372036854775808)≤i_1.least∧i_1.least≤9223372036854775807)∧((-9223372036854775808)≤i_1.part∧i_1.part≤9223372036854775807)∧i_1.months.length≤9223372036854775807)∧∀(o:Unit),True→∃(i':Prd),sb i'.code=sb [(206:UInt8),(169:UInt8)]∧i'.tick=z7 i_1∧i'.low=(-20)*z7 i_1∧i'.high=100*z7 i_1∧i'.wide=z7 i_1*(5+zD i_1.wide 0 60)∧i'.rule=1+zD i_1.rule 0 2∧i'.top=zD i_1.top 0 9∧i'.least=1+zD i_1.least 0 4∧i'.part=zD i_1.part 0 100∧AObj.fro 1 (iE i'.months)=AObj.fro 1 (iE (qA (kN i_1).toNat))∧AObj.fro 1 (iE i'.settle)=AObj.fro 1 (iE (xP (z7 i_1) (kN i_1).toNat))∧I i'∧kK i=kK i∧AObj.fro 1 (iE i.m.x.settle)=AObj.fro 1 (iE i.m.x.settle)∧AObj.fro 1 (iE i.m.x.months)=AObj.fro 1 (iE i.m.x.months))∧∀(i_1:Prd),I i_1→∃(i_2:Prd),sb i_2.code=sb i_1.code∧iE i_2.months=iE i_1.months∧i_2.tick=i_1.tick∧i_2.low=i_1.low∧i_2.high=i_1.high∧i_2.wide=i_1.wide∧i_2.rule=i_1.rule∧i_2.top=i_1.top∧i_2.least=i_1.least∧i_2.part=i_1.part∧iE i_2.settle=iE i_1.settle∧(i_2.code.length≤1099511627776∧i_2.months.length≤1099511627776∧i_2.settle.length≤1099511627776)∧(∀(o:Unit),i_2.check=0→∃(i_3:RunI),i_3.inst=0∧zB i_3.sd=1∧i_3.price=i_1.high∧i_3.q=5∧zT i_3.s=zT (uF i_2)∧(i_3.s.Rep i_3.p i_3.B∧BOk i_3.p i_3.B∧(0≤i_3.inst∧i_3.inst<(↑i_3.B.length:Int))∧1≤i_3.q∧i_3.q≤1000000)∧∀(o:Unit),True→cnd (qO i_3.p i_3.B i_3.inst i_3.sd i_3.price i_3.q !=0) (∃(o:Unit),true=false∧True) (∃(i0:Nat×MSt),(↑i0.fst:Int)=0∧zT i0.snd=zT i_3.s∧∃(I:Nat×MSt→Prop),∃(μ:Nat×MSt→Nat),I i0∧∀(i_4:Nat×MSt),I i_4→∃(i0:Bool),∃(I_1:Bool→Prop),cnd (decide ((↑i_4.fst:Int)<(↑(List.map askE i.m.l).length:Int))) (∃(i':Bool),i'=decide ((↑i_4.fst:Int)<40)∧I_1 i'∧zT i_4.snd=zT i_4.snd∧jB i_1=jB i_1∧AObj.fro 1 (iE i_1.months)=AObj.fro 1 (iE i_1.months)∧AObj.fro 1 (iE i_1.settle)=AObj.fro 1 (iE i_1.settle)∧kK i=kK i∧AObj.fro 1 (iE i.m.x.settle)=AObj.fro 1 (iE i.m.x.settle)∧AObj.fro 1 (iE i.m.x.months)=AObj.fro 1 (iE i.m.x.months)) (∃(i':Bool),i'=false∧I_1 i'∧zT i_4.snd=zT i_4.snd∧jB i_1=jB i_1∧AObj.fro 1 (iE i_1.months)=AObj.fro 1 (iE i_1.months)∧AObj.fro 1 (iE i_1.settle)=AObj.fro 1 (iE i_1.settle)∧kK i=kK i∧AObj.fro 1 (iE i.m.x.settle)=AObj.fro 1 (iE i.m.x.settle)∧AObj.fro 1 (iE i.m.x.months)=AObj.fro 1 (iE i.m.x.months))∧∀(i_5:Bool),I_1 i_5→cnd i_5 (∃(i0:Sx.Ask),∃(I_2:Sx.Ask→Prop),((0≤(↑i_4.fst:Int)∧(↑i_4.fst:Int)<(↑(List.map askE i.m.l).length:Int))∧∃(n:Int),∃(n_1:Int),∃(n_2:Int),∃(n_3:Int),∃(n_4:Int),∃(n_5:Int),zJ (List.map askE i.m.l) (↑i_4.fst:Int).toNat 0 6=some [D.v (.int .i64 n),D.v (.int .i64 n_1),D.v (.int .i64 n_2),D.v (.int .i64 n_3),D.v (.int .i64 n_4),D.v (.int .i64 n_5)]∧(zVd i i_1 o i_4 I_2 n n_1 n_2 n_3 n_4 n_5)∧True∧(sb i_1.code=sb i_1.code∧True∧i_1.tick=i_1.tick∧i_1.low=i_1.low∧i_1.high=i_1.high∧i_1.wide=i_1.wide∧i_1.rule=i_1.rule∧i_1.top=i_1.top∧i_1.least=i_1.least∧i_1.part=i_1.part∧True∧True)∧zVd i i_1 o i_4 I_2 n n_1 n_2 n_3 n_4 n_5)∧∀(i_6:Sx.Ask),I_2 i_6→∃(i_7:SaI),i_7.inst=i_6.inst∧i_7.id=i_6.id∧zB i_7.sd=i_6.side∧i_7.price=i_6.price∧i_7.qty=i_6.qty∧zT i_7.s=zT i_4.snd∧((i_7.s.p.code.length≤1099511627776∧i_7.s.p.months.length≤1099511627776∧i_7.s.p.settle.length≤1099511627776)∧i_7.s.books.length≤1000000∧∀(b:Book),b∈i_7.s.books→(b.a.slots.length≤1000000∧(b.a.free≠0→∃(s:Slot),s∈b.a.slots∧s.used=false)∧∀(q:qB),q∈b.a.queues→q.last=(-1)∨0≤q.last∧q.last<(↑b.a.slots.length:Int))∧b.a.queues.length≤100000∧b.buys.length≤100000∧b.sells.length≤100000∧b.spare.length≤100000)∧∀(o:Unit),True→∃(i':Nat×MSt),(↑i'.fst:Int)=IntKind.i64.wrap ((↑i_4.fst:Int)+1)∧zT i'.snd=zT (MSt.addF i_7).fst∧I i'∧μ i'<μ i_4∧jB i_1=jB i_1∧AObj.fro 1 (iE i_1.months)=AObj.fro 1 (iE i_1.months)∧AObj.fro 1 (iE i_1.settle)=AObj.fro 1 (iE i_1.settle)∧kK i=kK i∧AObj.fro 1 (iE i.m.x.settle)=AObj.fro 1 (iE i.m.x.settle)∧AObj.fro 1 (iE i.m.x.months)=AObj.fro 1 (iE i.m.x.months)) (∃(i0:Sx.Ask),∃(I:Sx.Ask→Prop),(∃(i_6:SmI),sb i_6.p.code=sb i_1.code∧iE i_6.p.months=iE i_1.months∧i_6.p.tick=i_1.tick∧i_6.p.low=i_1.low∧i_6.p.high=i_1.high∧i_6.p.wide=i_1.wide∧i_6.p.rule=i_1.rule∧i_6.p.top=i_1.top∧i_6.p.least=i_1.least∧i_6.p.part=i_1.part∧iE i_6.p.settle=iE i_1.settle∧i_6.x.kind=0∧i_6.x.inst=i.m.inst∧i_6.x.side=i.m.side∧i_6.x.id=0∧i_6.x.price=i.m.price∧i_6.x.qty=i.m.qty∧i_6.i=0∧(i_6.p.check=0∧(i_6.p.code.length≤1099511627776∧i_6.p.months.length≤1099511627776∧i_6.p.settle.length≤1099511627776)∧(((-9223372036854775808)≤i_6.x.kind∧i_6.x.kind≤9223372036854775807)∧((-9223372036854775808)≤i_6.x.inst∧i_6.x.inst≤9223372036854775807)∧((-9223372036854775808)≤i_6.x.side∧i_6.x.side≤9223372036854775807)∧((-9223372036854775808)≤i_6.x.id∧i_6.x.id≤9223372036854775807)∧((-9223372036854775808)≤i_6.x.price∧i_6.x.price≤9223372036854775807)∧(-9223372036854775808)≤i_6.x.qty∧i_6.x.qty≤9223372036854775807)∧0≤i_6.i∧i_6.i≤1000000)∧∀(o:Unit),True→∃(i':Sx.Ask),i'.kind=jR i_6.x∧i'.inst=zD i_6.x.inst 0 ((↑i_6.p.count:Int)-1)∧i'.side=1+zD i_6.x.side 0 1∧(i'.id=if jR i_6.x=1 then i_6.i else zD i_6.x.id 0 i_6.i)∧(i'.price=if(i_6.p.legs (zD i_6.x.inst 0 ((↑i_6.p.count:Int)-1))).snd.snd=true then i_6.p.tick*(zD i_6.x.price 0 (7:Int)-(4:Int))else i_6.p.tick*(zD i_6.x.price 0 (7:Int)+(8:Int)))∧i'.qty=1+zD i_6.x.qty 0 11∧I i'∧zT i_4.snd=zT i_4.snd∧jB i_1=jB i_1∧AObj.fro 1 (iE i_1.months)=AObj.fro 1 (iE i_1.months)∧AObj.fro 1 (iE i_1.settle)=AObj.fro 1 (iE i_1.settle)∧kK i=kK i∧AObj.fro 1 (iE i.m.x.settle)=AObj.fro 1 (iE i.m.x.settle)∧AObj.fro 1 (iE i.m.x.months)=AObj.fro 1 (iE i.m.x.months))∧∀(i_6:Sx.Ask),I i_6→∃(i_7:WiI),i_7.n=i.more∧i_7.lo=0∧i_7.hi=30∧(((-9223372036854775808)≤i_7.n∧i_7.n≤9223372036854775807)∧(-1000000)≤i_7.lo∧i_7.lo≤i_7.hi∧i_7.hi≤1000000)∧∀(o:Unit),True→∃(i_8:RunI),i_8.inst=i_6.inst∧zB i_8.sd=i_6.side∧i_8.price=i_6.price∧i_8.q=i_6.qty∧zT i_8.s=zT i_4.snd∧(i_8.s.Rep i_8.p i_8.B∧BOk i_8.p i_8.B∧(0≤i_8.inst∧i_8.inst<(↑i_8.B.length:Int))∧1≤i_8.q∧i_8.q≤1000000)∧∀(o:Unit),True→∃(i_9:RunI),i_9.inst=i_6.inst∧zB i_9.sd=i_6.side∧i_9.price=i_6.price∧i_9.q=IntKind.i64.wrap (i_6.qty+IntKind.i64.wrap (1+zD i_7.n i_7.lo i_7.hi))∧zT i_9.s=zT i_8.s∧(i_9.s.Rep i_9.p i_9.B∧BOk i_9.p i_9.B∧(0≤i_9.inst∧i_9.inst<(↑i_9.B.length:Int))∧1≤i_9.q∧i_9.q≤1000000)∧∀(o:Unit),True→∃(i0:Bool),∃(I:Bool→Prop),cnd (decide (qO i_8.p i_8.B i_8.inst i_8.sd i_8.price i_8.q<0)) (∃(i':Bool),i'=true∧I i'∧zT i_9.s=zT i_9.s∧gY i_6=gY i_6∧jB i_1=jB i_1∧AObj.fro 1 (iE i_1.months)=AObj.fro 1 (iE i_1.months)∧AObj.fro 1 (iE i_1.settle)=AObj.fro 1 (iE i_1.settle)∧kK i=kK i∧AObj.fro 1 (iE i.m.x.settle)=AObj.fro 1 (iE i.m.x.settle)∧AObj.fro 1 (iE i.m.x.months)=AObj.fro 1 (iE i.m.x.months)) (cnd (decide (qO i_8.p i_8.B i_8.inst i_8.sd i_8.price i_8.q>i_6.qty)) (∃(i':Bool),i'=true∧I i'∧zT i_9.s=zT i_9.s∧gY i_6=gY i_6∧jB i_1=jB i_1∧AObj.fro 1 (iE i_1.months)=AObj.fro 1 (iE i_1.months)∧AObj.fro 1 (iE i_1.settle)=AObj.fro 1 (iE i_1.settle)∧kK i=kK i∧AObj.fro 1 (iE i.m.x.settle)=AObj.fro 1 (iE i.m.x.settle)∧AObj.fro 1 (iE i.m.x.months)=AObj.fro 1 (iE i.m.x.months)) (cnd (decide (qO i_9.p i_9.B i_9.inst i_9.sd i_9.price i_9.q<qO i_8.p i_8.B i_8.inst i_8.sd i_8.price i_8.q)) (∃(i':Bool),i'=true∧I i'∧zT i_9.s=zT i_9.s∧gY i_6=gY i_6∧jB i_1=jB i_1∧AObj.fro 1 (iE i_1.months)=AObj.fro 1 (iE i_1.months)∧AObj.fro 1 (iE i_1.settle)=AObj.fro 1 (iE i_1.settle)∧kK i=kK i∧AObj.fro 1 (iE i.m.x.settle)=AObj.fro 1 (iE i.m.x.settle)∧AObj.fro 1 (iE i.m.x.months)=AObj.fro 1 (iE i.m.x.months)) (cnd (decide (IntKind.i64.wrap (qO i_9.p i_9.B i_9.inst i_9.sd i_9.price i_9.q-qO i_8.p i_8.B i_8.inst i_8.sd i_8.price i_8.q)>IntKind.i64.wrap (1+zD i_7.n i_7.lo i_7.hi))) (∃(i':Bool),i'=true∧I i'∧zT i_9.s=zT i_9.s∧gY i_6=gY i_6∧jB i_1=jB i_1∧AObj.fro 1 (iE i_1.months)=AObj.fro 1 (iE i_1.months)∧AObj.fro 1 (iE i_1.settle)=AObj.fro 1 (iE i_1.settle)∧kK i=kK i∧AObj.fro 1 (iE i.m.x.settle)=AObj.fro 1 (iE i.m.x.settle)∧AObj.fro 1 (iE i.m.x.months)=AObj.fro 1 (iE i.m.x.months)) (cnd (decide (qO i_8.p i_8.B i_8.inst i_8.sd i_8.price i_8.q<i_6.qty)) (∃(i':Bool),i'=(qO i_9.p i_9.B i_9.inst i_9.sd i_9.price i_9.q !=qO i_8.p i_8.B i_8.inst i_8.sd i_8.price i_8.q)∧I i'∧zT i_9.s=zT i_9.s∧gY i_6=gY i_6∧jB i_1=jB i_1∧AObj.fro 1 (iE i_1.months)=AObj.fro 1 (iE i_1.months)∧AObj.fro 1 (iE i_1.settle)=AObj.fro 1 (iE i_1.settle)∧kK i=kK i∧AObj.fro 1 (iE i.m.x.settle)=AObj.fro 1 (iE i.m.x.settle)∧AObj.fro 1 (iE i.m.x.months)=AObj.fro 1 (iE i.m.x.months)) (∃(i':Bool),i'=false∧I i'∧zT i_9.s=zT i_9.s∧gY i_6=gY i_6∧jB i_1=jB i_1∧AObj.fro 1 (iE i_1.months)=AObj.fro 1 (iE i_1.months)∧AObj.fro 1 (iE i_1.settle)=AObj.fro 1 (iE i_1.settle)∧kK i=kK i∧AObj.fro 1 (iE i.m.x.settle)=AObj.fro 1 (iE i.m.x.settle)∧AObj.fro 1 (iE i.m.x.months)=AObj.fro 1 (iE i.m.x.months))))))∧∀(i:Bool),I i→cnd i (∃(o:Unit),true=false∧True) (∃(i:RunI),i.inst=i_6.inst∧zB i.sd=i_6.side∧i.price=i_6.price∧i.q=i_6.qty∧zT i.s=zT i_9.s∧(i.s.Rep i.p i.B∧BOk i.p i.B∧(0≤i.inst∧i.inst<(↑i.B.length:Int))∧1≤i.q∧i.q≤1000000)∧∀(o:MSt),o.Rep i.p i.r.B→cnd (IntKind.i64.wrap (i_6.qty-i.r.left)==qO i_8.p i_8.B i_8.inst i_8.sd i_8.price i_8.q) (cnd (decide (qO i_8.p i_8.B i_8.inst i_8.sd i_8.price i_8.q>0)==decide ((↑(List.map xQ i.r.steps).length:Int)>0)) (∃(i:RunI),i.inst=i_6.inst∧zB i.sd=i_6.side∧i.price=i_6.price∧i.q=IntKind.i64.wrap (1+zD i_7.n i_7.lo i_7.hi)∧zT i.s=zT o∧(i.s.Rep i.p i.B∧BOk i.p i.B∧(0≤i.inst∧i.inst<(↑i.B.length:Int))∧1≤i.q∧i.q≤1000000)∧∀(o:Unit),True→cnd (qO i.p i.B i.inst i.sd i.price i.q==IntKind.i64.wrap (qO i_9.p i_9.B i_9.inst i_9.sd i_9.price i_9.q-qO i_8.p i_8.B i_8.inst i_8.sd i_8.price i_8.q)) (∃(i:Unit),True∧∀(o:Unit),True→∃(o:Unit),true=true∧True) (∃(o:Unit),true=false∧True)) (∃(o:Unit),true=false∧True)) (∃(o:Unit),true=false∧True)))))∧∀(o:Unit),i_2.check≠0→∃(o:Unit),true=false∧True
theorem eqmc (i:McI):Vmc i=walk Tryz.prog ([(8,kprodC),(9,newSC),(11,smallC),(12,saddC),(13,withinC),(10,coulC),(14,runC),(15,known16C)]) 0 (mcJ) (mcA i) [] Tryz.f3 (Tryz.f3.body.getD .skip) (mcC.pat i) (mcC.pre i) (mcC.alts i):=by kernel_rfl
open Go Cv Go.Proofs
open Go Cv Go.Proofs
theorem zOh (t:SmI):1≤(wW t).qty∧(wW t).qty≤12:=by
 have w11:=yR (n:=t.x.qty) (lo:=0) (hi:=11) (by omega)
 show 1≤1+zD t.x.qty 0 11∧1+zD t.x.qty 0 11≤12
 omega
theorem zJq {p:Prd} (hc:p.check=0) (x:Ask) (i:Int):0≤(wW ⟨p,x,i⟩).inst∧(wW ⟨p,x,i⟩).inst<p.count:=by
 have hcb:=tQ hc
 have wi:=yR (n:=x.inst) (lo:=0) (hi:=(p.count:Int)-1) (by omega)
 show 0≤zD x.inst 0 ((p.count:Int)-1)∧zD x.inst 0 ((p.count:Int)-1)<p.count
 omega
open Go Cv Go.Proofs
theorem MSt.Rep.small {s:MSt} {p:Prd} {B:List (List zI)} (h:s.Rep p B) (hb:BOk p B):s.small:=by
 have:=jJ p
 refine⟨by rw[h.bl,hb.bl];omega,fun b hm=> ?_⟩
 obtain⟨k,hk⟩:=List.mem_iff_getElem?.1 hm
 have hlt:=(List.getElem?_eq_some_iff.1 hk).1
 rw[h.bl]at hlt
 obtain⟨L,hL⟩:=z9 hlt
 obtain⟨Q,c,_⟩:=h.bk k b L hk hL
 exact c.small
theorem z2x (i:RunI) (h:coulC.cnd i):zJj i:=by
 have h':i.s.Rep i.p i.B∧BOk i.p i.B∧(0≤i.inst∧i.inst<i.B.length)∧1≤i.q∧i.q≤1000000:=h
 obtain⟨hR,hB,⟨h0,h1⟩,hq1,hq2⟩:=h'
 have hbl:=hR.bl
 have hl:=(BWf.run (inst:=i.inst) (sd:=i.sd) (price:=i.price) _ i.q i.B (Nat.le_refl _) (hR.wf hB) ⟨h0,h1⟩).2.2.2.1 (by omega)
 unfold zJj rM wR
 refine(fun hT=>zS (fun c=>zS (fun c2=>Cv.cnd.mk (fun _=>zS (fun _=>Cv.cnd.mk (fun e=>absurd hq2 (by simpa using e)) (fun _=>hT)) (fun e=>absurd hq1 e)) (fun e1=>Cv.cnd.mk (fun _=>zS (fun _=>Cv.cnd.mk (fun e=>absurd hq2 (by simpa using e)) (fun _=>hT)) (fun e=>absurd hq1 e)) (fun e2=>by
  rcases qZ i.sd with e|e
  ·rw[e]at e1;cases e1
  ·rw[e]at e2;cases e2))) (fun c2=>absurd (by omega) c2)) (fun c=>absurd h0 c)) ?_
 refine⟨i.s,rfl,rfl,rfl,rfl,rfl,rfl,rfl,rfl,rfl,rfl,rfl,rfl,rfl,hR.small hB,fun _ _=>⟨i,rfl,rfl,rfl,rfl,rfl,h,fun o ho=>⟨(),?_,rfl,trivial⟩⟩⟩
 rw[w64 (by have:i.r=qR i.p i.B i.inst i.sd i.price i.q:=rfl;rw[this];omega)]
 rfl
theorem could_ok:coulC.ok Tryz.prog 10:=zYz (gokc zTx (gokc run_ok gok0)) z2x
theorem vmc (i:McI) (h:mcC.cnd i):Vmc i:=by
 obtain⟨⟨hx,hl,hll,r1,r2,r3,r4⟩,r5⟩:i.m.raw∧yI i.more:=h
 have hc:i.m.p.check=0:=zHe i.m.x
 have hp:i.m.p.small:=zGt i.m.x
 have hcb:=tQ hc
 have hB0:=BOk.new hc hp
 have hgn:=z0c hc hp (inst:=0) ⟨by omega,by omega⟩ false i.m.p.high
 have hn:=yR (n:=i.more) (lo:=0) (hi:=30) (by omega)
 unfold Vmc zVd
 refine⟨i.m.p,fun q=>q=i.m.p,⟨i.m.x,rfl,rfl,rfl,rfl,rfl,rfl,rfl,rfl,rfl,rfl,rfl,hx,fun _ _=>⟨i.m.p,rfl,rfl,rfl,rfl,rfl,rfl,rfl,rfl,rfl,rfl,rfl,rfl,by(repeat'(first|exact trivial|exact rfl|apply And.intro))⟩⟩,?_⟩
 rintro _ rfl
 refine⟨i.m.p,rfl,rfl,rfl,rfl,rfl,rfl,rfl,rfl,rfl,rfl,rfl,hp,fun _ _=> ?_,fun _ e=>absurd hc e⟩
 refine⟨⟨uF i.m.p,i.m.p,List.replicate i.m.p.count [],0,false,i.m.p.high,5⟩,rfl,rfl,rfl,rfl,rfl,⟨cX _,hB0,by dsimp only;rw[List.length_replicate];omega,by dsimp only;omega,by dsimp only;omega⟩,fun _ _=> ?_⟩
 refine Cv.cnd.mk (fun e=> ?_) (fun _=> ?_)
 ·dsimp only at e
  rw[fE hgn]at e
  cases e
 refine⟨(0,uF i.m.p),rfl,rfl,fun j=>j.2.Rep i.m.p (i.m.fst j.1)∧BOk i.m.p (i.m.fst j.1)∧j.1≤i.m.n,fun j=>i.m.n-j.1,⟨cX _,hB0,Nat.zero_le _⟩,?_⟩
 rintro⟨j,s⟩ ⟨g1,g2,g3⟩
 dsimp only at g1 g2 g3 ⊢
 have hmn:i.m.n=min i.m.l.length 40:=rfl
 have e1:(i.m.l.map askE).length=i.m.l.length:=List.length_map ..
 refine⟨true,fun b=>b=decide (j<i.m.n),zS (fun c=>⟨_,rfl,decide_eq_decide.2 (by omega),by(repeat'(first|exact trivial|exact rfl|apply And.intro))⟩) (fun c=>⟨false,rfl,(decide_eq_false (by omega)).symm,by(repeat'(first|exact trivial|exact rfl|apply And.intro))⟩),fun b hb=> ?_⟩
 subst hb
 refine zS (fun c=> ?_) (fun c=> ?_)
 ·--an ask
  obtain⟨a,ha⟩:=z9 (l:=i.m.l) (i:=j) (by omega)
  have hask:i.m.ask j=wW ⟨i.m.p,a,j⟩:=by rw[MmI.ask,zP ha]
  refine⟨z5e,fun y=>y=i.m.ask j,⟨⟨by omega,by omega⟩,a.kind,a.inst,a.side,a.id,a.price,a.qty,z8f ha,?_⟩,?_⟩
  ·refine(fun hT=>⟨hT,trivial,⟨rfl,trivial,rfl,rfl,rfl,rfl,rfl,rfl,rfl,rfl,trivial,trivial⟩,hT⟩) ?_
   exact⟨⟨i.m.p,a,j⟩,rfl,rfl,rfl,rfl,rfl,rfl,rfl,rfl,rfl,rfl,rfl,rfl,rfl,rfl,rfl,rfl,rfl,rfl,⟨hc,hp,hl a (List.mem_of_getElem? ha),by dsimp only;omega,by dsimp only;omega⟩,fun _ _=>⟨wW ⟨i.m.p,a,j⟩,rfl,rfl,rfl,rfl,rfl,rfl,hask.symm,by(repeat'(first|exact trivial|exact rfl|apply And.intro))⟩⟩
  ·rintro y rfl
   have hys:(i.m.ask j).side=1∨(i.m.ask j).side=2:=by rw[hask];exact tJ _
   exact⟨⟨s,(i.m.ask j).inst,(i.m.ask j).id,decide ((i.m.ask j).side=2),(i.m.ask j).price,(i.m.ask j).qty⟩,rfl,rfl,uV hys,rfl,rfl,rfl,g1.fit g2,fun _ _=>⟨(j+1,(MSt.addF ⟨s,(i.m.ask j).inst,(i.m.ask j).id,decide ((i.m.ask j).side=2),(i.m.ask j).price,(i.m.ask j).qty⟩).1),wjn (by omega),rfl,⟨g1.ask hys,g2.ask _,by dsimp only;omega⟩,by dsimp only;omega,by(repeat'(first|exact trivial|exact rfl|apply And.intro))⟩⟩
 have hj:j=i.m.n:=by omega
 subst hj
 have eB:i.m.fst i.m.n=i.m.fB:=rfl
 rw[eB]at g1 g2
 have hwf:=g1.wf g2
 have hBl:i.m.fB.length=i.m.p.count:=g2.bl
 have hfs:i.m.fl.side=1∨i.m.fl.side=2:=tJ _
 have hfq:1≤i.m.fl.qty∧i.m.fl.qty≤12:=zOh _
 have hfi:0≤i.m.fl.inst∧i.m.fl.inst<i.m.p.count:=zJq hc _ _
 have hib:0≤i.m.fl.inst∧i.m.fl.inst<i.m.fB.length:=by omega
 refine⟨z5e,fun y=>y=i.m.fl,⟨⟨i.m.p,⟨0,i.m.inst,i.m.side,0,i.m.price,i.m.qty⟩,0⟩,rfl,rfl,rfl,rfl,rfl,rfl,rfl,rfl,rfl,rfl,rfl,rfl,rfl,rfl,rfl,rfl,rfl,rfl,⟨hc,hp,⟨by dsimp only;omega,r1,r2,by dsimp only;omega,r3,r4⟩,by dsimp only;omega,by dsimp only;omega⟩,fun _ _=>⟨i.m.fl,rfl,rfl,rfl,rfl,rfl,rfl,rfl,by(repeat'(first|exact trivial|exact rfl|apply And.intro))⟩⟩,?_⟩
 rintro _ rfl
 obtain⟨sd,hsd⟩:∃sd,decide (i.m.fl.side=2)=sd:=⟨_,rfl⟩
 have hsN:zB sd=i.m.fl.side:=by rw[← hsd];exact uV hfs
 obtain⟨n,hnn⟩:∃n,1+zD i.more 0 30=n:=⟨_,rfl⟩
 have wn:IntKind.i64.wrap n=n:=w64 (by omega)
 have wq:IntKind.i64.wrap (i.m.fl.qty+n)=i.m.fl.qty+n:=w64 (by omega)
 refine⟨⟨i.more,0,30⟩,rfl,rfl,rfl,⟨r5,by dsimp only;omega,by dsimp only;omega,by dsimp only;omega⟩,fun _ _=>⟨⟨s,i.m.p,i.m.fB,i.m.fl.inst,sd,i.m.fl.price,i.m.fl.qty⟩,rfl,hsN,rfl,rfl,rfl,⟨g1,g2,hib,by dsimp only;omega,by dsimp only;omega⟩,fun _ _=>⟨⟨s,i.m.p,i.m.fB,i.m.fl.inst,sd,i.m.fl.price,i.m.fl.qty+n⟩,rfl,hsN,rfl,by dsimp only;rw[hnn,wn,wq],rfl,⟨g1,g2,hib,by dsimp only;omega,by dsimp only;omega⟩,fun _ _=> ?_⟩⟩⟩
 dsimp only
 rw[hnn,wn]
 obtain⟨b1,b2,b3,b4,b5,b6⟩:=BWf.run (inst:=i.m.fl.inst) (sd:=sd) (price:=i.m.fl.price) _ i.m.fl.qty i.m.fB (Nat.le_refl _) hwf hib
 have b4:=b4 (by omega)
 have hsp:=e8 (inst:=i.m.fl.inst) (sd:=sd) (price:=i.m.fl.price) _ i.m.fl.qty n i.m.fB i.m.fB (Nat.le_refl _) (by omega) (by omega) hwf hwf (LadEq.refl _) hib
 have hD:=(BWf.run (inst:=i.m.fl.inst) (sd:=sd) (price:=i.m.fl.price) _ n _ (Nat.le_refl _) b1 (by rw[b2];exact hib)).2.2.2.1 (by omega)
 have hDn:0<(qR i.m.p i.m.fB i.m.fl.inst sd i.m.fl.price i.m.fl.qty).left→qO i.m.p (qR i.m.p i.m.fB i.m.fl.inst sd i.m.fl.price i.m.fl.qty).B i.m.fl.inst sd i.m.fl.price n=0:=fun e=>fE (b3 e).2 _
 have hDe:qO i.m.p (qR i.m.p i.m.fB i.m.fl.inst sd i.m.fl.price i.m.fl.qty).B i.m.fl.inst sd i.m.fl.price n=n-(qR i.m.p (qR i.m.p i.m.fB i.m.fl.inst sd i.m.fl.price i.m.fl.qty).B i.m.fl.inst sd i.m.fl.price n).left:=rfl
 have hAe:qO i.m.p i.m.fB i.m.fl.inst sd i.m.fl.price i.m.fl.qty=i.m.fl.qty-(qR i.m.p i.m.fB i.m.fl.inst sd i.m.fl.price i.m.fl.qty).left:=rfl
 generalize hDg:qO i.m.p (qR i.m.p i.m.fB i.m.fl.inst sd i.m.fl.price i.m.fl.qty).B i.m.fl.inst sd i.m.fl.price n=D at*
 generalize hAg:qO i.m.p i.m.fB i.m.fl.inst sd i.m.fl.price i.m.fl.qty=A at*
 generalize hBg:qO i.m.p i.m.fB i.m.fl.inst sd i.m.fl.price (i.m.fl.qty+n)=C at*
 have wD:IntKind.i64.wrap (C-A)=C-A:=w64 (by omega)
 refine⟨true,fun b=>b=false,zS (fun e=>by omega) fun _=>zS (fun e=>by omega) fun _=>zS (fun e=>by omega) fun _=>zS (fun e=>by rw[wD]at e;omega) fun _=>zS (fun e=>⟨_,rfl,?_,by(repeat'(first|exact trivial|exact rfl|apply And.intro))⟩) (fun _=>⟨_,rfl,rfl,by(repeat'(first|exact trivial|exact rfl|apply And.intro))⟩),?_⟩
 ·have:C=A:=by omega
  rw[this];simp
 rintro _ rfl
 refine Cv.cnd.mk (fun x=>by cases x) (fun _=> ?_)
 refine⟨⟨s,i.m.p,i.m.fB,i.m.fl.inst,sd,i.m.fl.price,i.m.fl.qty⟩,rfl,hsN,rfl,rfl,rfl,⟨g1,g2,hib,by dsimp only;omega,by dsimp only;omega⟩,fun o ho=> ?_⟩
 have er:RunI.r ⟨s,i.m.p,i.m.fB,i.m.fl.inst,sd,i.m.fl.price,i.m.fl.qty⟩=qR i.m.p i.m.fB i.m.fl.inst sd i.m.fl.price i.m.fl.qty:=rfl
 rw[er]at ho ⊢
 have e1:IntKind.i64.wrap (i.m.fl.qty-(qR i.m.p i.m.fB i.m.fl.inst sd i.m.fl.price i.m.fl.qty).left)=A:=by rw[w64 (by omega)];omega
 rw[e1]
 refine Cv.cnd.mk (fun _=> ?_) (fun e=>by simp at e)
 refine Cv.cnd.mk (fun _=> ?_) (fun e=> ?_)
 ·refine⟨⟨o,i.m.p,_,i.m.fl.inst,sd,i.m.fl.price,n⟩,rfl,hsN,rfl,rfl,rfl,⟨ho,b1.ok,by dsimp only;rw[b2];exact hib,by dsimp only;omega,by dsimp only;omega⟩,fun _ _=> ?_⟩
  dsimp only
  rw[hDg,wD]
  refine Cv.cnd.mk (fun _=>⟨(),trivial,fun _ _=>⟨(),rfl,trivial⟩⟩) (fun e=> ?_)
  have:D=C-A:=by omega
  rw[this]at e
  simp at e
 ·exfalso
  rw[List.length_map]at e
  have:decide (A>0)=decide (((qR i.m.p i.m.fB i.m.fl.inst sd i.m.fl.price i.m.fl.qty).steps.length:Int)>0):=by
   refine decide_eq_decide.2 ⟨fun ha=> ?_,fun hb=> ?_⟩
   ·cases es:(qR i.m.p i.m.fB i.m.fl.inst sd i.m.fl.price i.m.fl.qty).steps with
    |nil=>have:=b5 es;omega
    |cons a b=>rw[List.length_cons];omega
   ·by_cases ha:A=0
    ·have:=b6 ha (by omega)
     rw[this]at hb
     simp at hb
    ·omega
  rw[this]at e
  simp at e
end Sx
