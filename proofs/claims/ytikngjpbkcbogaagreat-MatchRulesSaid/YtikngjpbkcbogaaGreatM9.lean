/- Texts of ours, one behind the other: a walk that the kernel reckons, and contracts of functions. No condition. -/
import Derived.Test.YtikngjpbkcbogaaGreatM8
namespace Sx
set_option linter.unusedVariables false
set_option linter.unusedSimpArgs false
set_option maxRecDepth 100000
open Go Cv Go.Proofs
open Go Cv Go.Proofs
structure z9y (p:Prd) (B:List (List zH)) (q:Int) (g:List kU) (k:Nat) (s pr:Int):Prop where
 lt:k<B.length
 s12:s=1∨s=2
 eq:g=yD k s (atL (B.getD k []) s pr) (xD ⟨p,atL (B.getD k []) s pr,q⟩)
 sh:tU ((atL (B.getD k []) s pr).map (·.qty)) (xD ⟨p,atL (B.getD k []) s pr,q⟩) q
 ne:g≠[]
theorem lK {inst s:Int}:∀{os:List zH} {sh:List Int},sh.length=os.length→yD inst s os sh=[]→(∀n,0≤sh.getD n 0)→sh.sum=0
 |[],[],_,_,_=>rfl
 |[],_::_,h,_,_=>by cases h
 |_::_,[],h,_,_=>by cases h
 |o::os,x::sh,h,h2,h3=>by
  rw[yD]at h2
  split at h2
  ·cases h2
  ·have:=lK (os:=os) (sh:=sh) (by simpa using h) h2 fun n=>h3 (n+1)
   have h0:0≤x:=h3 0
   rw[List.sum_cons];omega
theorem zBj {p:Prd} {B:List (List zH)} (h:BWf p B) {k:Nat} {L:List zH} (hL:B[k]? =some L) {s:Int} (hs:s=1∨s=2) {q:Int} (hb:(bestL L s).2=true) (hq:1≤q∧q≤(bestL L s).1.qty):
 z9y p B q (yG p B k s q) k s (bestL L s).1.price:=by
 have ho:=h.od k L hL
 have hsr:=h.srt k L hL s hs
 have hlv:fH B k s=atL L s (bestL L s).1.price:=by rw[fH,Int.toNat_natCast,zP hL]
 obtain⟨v,vs,hl⟩:∃v vs,qY L s=v::vs:=by
  cases e:qY L s with
  |nil=>rw[bestL,e]at hb;cases hb
  |cons v vs=>exact⟨v,vs,rfl⟩
 have hv:(bestL L s).1=v:=by rw[bestL,hl]
 rw[hv]at hq hlv ⊢
 have hgs:=mT hsr (v:=v) (vs:=vs) (by rw[← hl];rfl)
 have hat:atL L s v.price=(jT L s).filter fun o=>decide (o.price=v.price):=zWw L s v.price
 have hvq:v.qty=((atL L s v.price).map (·.qty)).sum:=by
  have:=congrArg Lv.qty hgs.1
  rw[hat];exact this
 have hr:yH ((atL L s v.price).map (·.qty)) q=true:=by
  refine zLc ?_ (by omega) (fun x hx=> ?_) (by omega)
  ·rw[List.length_map];exact Nat.le_trans (List.length_filter_le _ _) ho.2.2
  ·obtain⟨o,hm,rfl⟩:=List.mem_map.1 hx
   exact(ho.1 o (List.mem_filter.1 hm).1).q
 have hS:=bQ h.ok.pc hr
 have e:yG p B k s q=yD k s (atL (B.getD k []) s v.price) (xD ⟨p,atL (B.getD k []) s v.price,q⟩):=by
  rw[yG,hlv,zP hL]
 refine⟨(List.getElem?_eq_some_iff.1 hL).1,hs,e,by rw[zP hL];exact hS,fun e2=> ?_⟩
 rw[e,zP hL]at e2
 have:=lK (by rw[hS.len,List.length_map]) e2 fun n=>(hS.bd n).1
 have:=hS.sum
 omega
theorem nE {j:Nat} {L:List zH}:∀{fs:List kU} {B:List (List zH)},B[j]? =some L→(∀f∈fs,qF L f.id=false)→(yS B fs)[j]? =some L
 |[],B,h,_=>h
 |f::fs,B,h,hf=>by
  refine nE (fs:=fs) (B:=(xN B f.id f.qty).1) ?_ fun g hg=>hf g (List.mem_cons_of_mem _ hg)
  rw[xN]
  split
  ·exact h
  ·rename_i k hk
   dsimp only
   have hne:k≠j:=by
    rintro rfl
    obtain⟨L',hL',hh⟩:=kZ hk
    rw[h]at hL'
    cases hL'
    rw[hf f List.mem_cons_self]at hh
    cases hh
   rw[List.getElem?_set_ne hne];exact h
theorem cW {inst s:Int} {f:kU}:∀{os:List zH} {sh:List Int},f∈yD inst s os sh→∃o∈os,f.id=o.id
 |[],sh,h=>by cases h
 |o::os,[],h=>by cases h
 |o::os,k::sh,h=>by
  rw[yD]at h
  split at h
  ·rcases List.mem_cons.1 h with rfl|h
   ·exact⟨o,List.mem_cons_self,rfl⟩
   ·obtain⟨o',c,d⟩:=cW h
    exact⟨o',List.mem_cons_of_mem _ c,d⟩
  ·obtain⟨o',c,d⟩:=cW h
   exact⟨o',List.mem_cons_of_mem _ c,d⟩
theorem j8 {p:Prd} {B:List (List zH)} (h:BWf p B) {k j:Nat} (hne:k≠j) {L L':List zH} (hL:B[k]? =some L) (hL':B[j]? =some L') (s q:Int):(yS B (yG p B k s q))[j]? =some L':=by
 refine nE hL' fun f hf=> ?_
 obtain⟨o,ho,e⟩:=cW hf
 have ho:=(List.mem_filter.1 ho).1
 rw[Int.toNat_natCast,zP hL]at ho
 cases hh:qF L' f.id with
 |false=>rfl
 |true=>
  have a:=h.inst hL' (hasId_iff.1 hh)
  have b:=h.inst hL (id:=f.id) (by rw[e];exact List.mem_map.2 ⟨o,ho,rfl⟩)
  rw[a]at b
  cases b
  exact absurd rfl hne
theorem zJx {p:Prd} {B B':List (List zH)} {k:Nat} {L:List zH} (hL:B[k]? =some L) (hL':B'[k]? =some L) (s q:Int):yG p B' k s q=yG p B k s q:=by
 rw[yG,yG,fH,fH,Int.toNat_natCast,zP hL,zP hL']
open Go Cv Go.Proofs
def lpq (l:List Lv):List (Int×Int):=l.map fun v=>(v.price,v.qty)
def nV (l:List (Int×Int)) (x:Int):List (Int×Int):=match l with
 |[]=>[]
 |(p,q)::l=>if q≤x then l else(p,q-x)::l
theorem sD {A:List zH} {id x:Int} (h:∀o∈A,o.id≠id):yK A id x=A:=by
 rw[yK]
 induction A with
 |nil=>rfl
 |cons a A ih=>
  rw[List.filterMap_cons,if_neg (h a List.mem_cons_self)]
  simp only
  rw[ih fun o ho=>h o (List.mem_cons_of_mem _ ho)]
theorem zHt {id x:Int}:∀{A:List zH} {o:zH},(A.map (·.id)).Nodup→o∈A→o.id=id→((yK A id x).map (·.qty)).sum=(A.map (·.qty)).sum-x
 |a::A,o,hn,ho,e=>by
  rw[List.map_cons,List.nodup_cons]at hn
  rw[yK,List.filterMap_cons]
  by_cases h:a.id=id
  ·have hno:∀y∈A,y.id≠id:=by
    intro y hy e2
    exact hn.1 (by rw[h,← e2];exact List.mem_map.2 ⟨y,hy,rfl⟩)
   have ht:A.filterMap (fun o=>if o.id=id then if o.qty=x then none else some {o with qty:=o.qty-x}else some o)=A:=sD hno
   rw[if_pos h]
   by_cases h2:a.qty=x
   ·rw[if_pos h2]
    simp only
    rw[ht,List.map_cons,List.sum_cons];omega
   ·rw[if_neg h2]
    simp only
    rw[ht,List.map_cons,List.map_cons,List.sum_cons,List.sum_cons]
    simp only
    omega
  ·rw[if_neg h]
   simp only
   have ho:o∈A:=by
    rcases List.mem_cons.1 ho with rfl|ho
    ·exact absurd e h
    ·exact ho
   have:=zHt (x:=x) hn.2 ho e
   rw[yK]at this
   rw[List.map_cons,List.map_cons,List.sum_cons,List.sum_cons,this];omega
theorem zKj (L:List zH) (id q pr:Int):(yK L id q).filter (fun o=>decide (o.price=pr))=yK (L.filter fun o=>decide (o.price=pr)) id q:=by
 rw[yK,yK,List.filter_filterMap,List.filterMap_filter]
 refine kY fun o _=> ?_
 by_cases e1:o.id=id
 ·rw[if_pos e1]
  by_cases e2:o.qty=q
  ·rw[if_pos e2];simp
  ·rw[if_neg e2];by_cases e3:o.price=pr<;>simp[Option.filter,e3]
 ·rw[if_neg e1];by_cases e3:o.price=pr<;>simp[Option.filter,e3]
theorem zGo (L:List zH) (id q pr:Int):(yK L id q).filter (fun o=> !decide (o.price=pr))=yK (L.filter fun o=> !decide (o.price=pr)) id q:=by
 rw[yK,yK,List.filter_filterMap,List.filterMap_filter]
 refine kY fun o _=> ?_
 by_cases e1:o.id=id
 ·rw[if_pos e1]
  by_cases e2:o.qty=q
  ·rw[if_pos e2];simp
  ·rw[if_neg e2];by_cases e3:o.price=pr<;>simp[Option.filter,e3]
 ·rw[if_neg e1];by_cases e3:o.price=pr<;>simp[Option.filter,e3]
theorem zXc {A:List zH} {id x:Int} {y:zH} (h:y∈yK A id x):∃z∈A,y.price=z.price:=by
 obtain⟨z,hz,e⟩:=List.mem_filterMap.1 h
 refine⟨z,hz,?_⟩
 split at e
 ·split at e
  ·cases e
  ·cases e;rfl
 ·cases e;rfl
theorem z6u {A:List zH} (h:A≠[]):∃v vs,grp A=v::vs:=by
 cases A with
 |nil=>exact absurd rfl h
 |cons a A=>
  rw[grp]
  split
  ·exact⟨_,_,rfl⟩
  ·split<;>exact⟨_,_,rfl⟩
theorem sC:∀{l:List Int} {a:Int},(∀q∈l,0≤q)→a∈l→a≤l.sum
 |b::l,a,h,ha=>by
  rw[List.sum_cons]
  have h1:=h b List.mem_cons_self
  have h2:=tL fun q hq=>h q (List.mem_cons_of_mem _ hq)
  rcases List.mem_cons.1 ha with rfl|ha
  ·omega
  ·have:=sC (fun q hq=>h q (List.mem_cons_of_mem _ hq)) ha
   omega
theorem zTg {s:Int} {F:List zH} (hs:nW s F) (hn:(F.map (·.id)).Nodup) {o:zH} (ho:o∈F) {v:Lv} {vs:List Lv} (hg:grp F=v::vs) (hp:o.price=v.price) {x:Int} (hq:∀y∈yK F o.id x,1≤y.qty) (hs2:nW s (yK F o.id x)):
 lpq (grp (yK F o.id x))=nV (lpq (grp F)) x:=by
 obtain⟨a1,a2,a3⟩:=mT hs hg
 have hol:o∈F.filter fun o=>decide (o.price=v.price):=List.mem_filter.2 ⟨ho,by simpa using hp⟩
 have hsum:=zHt (x:=x) (hn.sublist (List.Sublist.map _ (List.filter_sublist (p:=fun o=>decide (o.price=v.price)) (l:=F)))) hol rfl
 have hv:v.qty=((F.filter fun o=>decide (o.price=v.price)).map (·.qty)).sum:=congrArg Lv.qty a1
 have hout:yK (F.filter fun o=> !decide (o.price=v.price)) o.id x=F.filter fun o=> !decide (o.price=v.price):=by
  refine sD fun y hy e=> ?_
  obtain⟨y1,y2⟩:=List.mem_filter.1 hy
  have h1:=wS hn y1
  have h2:=wS hn ho
  rw[e,h2]at h1
  rw[← h1]at y2
  simp[hp]at y2
 rw[hg]
 have hd:nV (lpq (v::vs)) x=if v.qty≤x then lpq vs else(v.price,v.qty-x)::lpq vs:=rfl
 rw[hd]
 rw[← zKj,← hv]at hsum
 rw[← zGo]at hout
 have hmem:∀y∈yK F o.id x,∃z∈F,y.price=z.price:=fun y hy=>zXc hy
 generalize yK F o.id x=F' at*
 by_cases hE:F'.filter (fun o=>decide (o.price=v.price))=[]
 ·rw[hE]at hsum
  have hsum:(0:Int)=v.qty-x:=hsum
  rw[if_pos (by omega),a2,← hout]
  congr 2
  symm
  rw[List.filter_eq_self]
  intro y hy
  have:=List.filter_eq_nil_iff.1 hE y hy
  simpa using this
 ·obtain⟨y,hy⟩:=List.exists_mem_of_ne_nil _ hE
  obtain⟨y1,y2⟩:=List.mem_filter.1 hy
  have y2:y.price=v.price:=by simpa using y2
  obtain⟨v',vs',hg'⟩:=z6u (A:=F') (by rintro rfl;cases y1)
  obtain⟨b1,b2,b3⟩:=mT hs2 hg'
  obtain⟨w,wr,hw,hwp⟩:=bT hg'
  have e1:=b3 y y1
  obtain⟨z,hz,hzp⟩:=hmem w (by rw[hw];exact List.mem_cons_self)
  have e2:=a3 z hz
  rw[← hzp,hwp]at e2
  rw[y2]at e1
  have ep:v'.price=v.price:=zTp e1 e2
  have hv':v'.qty=((F'.filter fun o=>decide (o.price=v'.price)).map (·.qty)).sum:=congrArg Lv.qty b1
  rw[ep,hsum]at hv'
  have hpos:1≤v.qty-x:=by
   rw[← hsum]
   have hyq:=hq y y1
   have h0:∀q∈(F'.filter fun o=>decide (o.price=v.price)).map (·.qty),0≤q:=by
    intro q hq2
    obtain⟨u,hu,rfl⟩:=List.mem_map.1 hq2
    have:=hq u (List.mem_filter.1 hu).1
    omega
   have:=sC h0 (List.mem_map.2 ⟨y,hy,rfl⟩)
   omega
  rw[if_neg (by omega),hg',b2,ep,hout,← a2]
  show(v'.price,v'.qty)::lpq vs=_
  rw[ep,hv']
open Go Cv Go.Proofs
theorem zSe {L:List zH} {s pr Q:Int} {rest:List (Int×Int)} (h:lpq (qY L s)=(pr,Q)::rest):∃v vs,qY L s=v::vs∧v.price=pr∧v.qty=Q∧lpq vs=rest:=by
 cases e:qY L s with
 |nil=>rw[e]at h;cases h
 |cons v vs=>rw[e]at h;cases h;exact⟨v,vs,rfl,rfl,rfl,rfl⟩
theorem zAb (L:List zH) (s id q:Int):jT (yK L id q) s=yK (jT L s) id q:=by
 rw[jT,jT,yK,yK,List.filter_filterMap,List.filterMap_filter]
 refine kY fun o _=> ?_
 by_cases e1:o.id=id
 ·rw[if_pos e1]
  by_cases e2:o.qty=q
  ·rw[if_pos e2];simp
  ·rw[if_neg e2];by_cases e3:o.side=s<;>simp[Option.filter,e3]
 ·rw[if_neg e1];by_cases e3:o.side=s<;>simp[Option.filter,e3]
theorem sH {inst s:Int}:∀{os:List zH} {sh:List Int},(∀n,0≤sh.getD n 0)→sh.sum=0→yD inst s os sh=[]
 |[],sh,_,_=>by rw[yD];simp
 |_::_,[],_,_=>by rw[yD];simp
 |o::os,x::sh,h,h2=>by
  have h0:0≤x:=h 0
  have h1:0≤sh.sum:=tL fun y hy=>by
   obtain⟨n,hn⟩:=List.getElem?_of_mem hy
   have:=h (n+1)
   have e:(x::sh).getD (n+1) 0=y:=zP (by rw[List.getElem?_cons_succ];exact hn)
   omega
  rw[List.sum_cons]at h2
  rw[yD,if_neg (by omega)]
  exact sH (fun n=>h (n+1)) (by omega)
theorem z0x {pr Q x y:Int} {rest:List (Int×Int)} (h:x<Q):nV (nV ((pr,Q)::rest) x) y=nV ((pr,Q)::rest) (x+y):=by
 have e:nV ((pr,Q)::rest) x=(pr,Q-x)::rest:=if_neg (by omega)
 rw[e]
 show(if Q-x≤y then rest else(pr,Q-x-y)::rest)=if Q≤x+y then rest else(pr,Q-(x+y))::rest
 by_cases c:Q≤x+y
 ·rw[if_pos (by omega),if_pos c]
 ·rw[if_neg (by omega),if_neg c,show Q-x-y=Q-(x+y)by omega]
theorem mY {p:Prd} {k:Nat} {i s pr:Int} (hs:s=1∨s=2):∀{os:List zH} {sh:List Int} {B:List (List zH)} {L:List zH} {Q:Int} {rest:List (Int×Int)},BWf p B→B[k]? =some L→
 (∀o∈os,o∈L∧o.side=s∧o.price=pr)→(os.map (·.id)).Nodup→sh.length=os.length→(∀n,0≤sh.getD n 0∧sh.getD n 0≤(os.map (·.qty)).getD n 0)→lpq (qY L s)=(pr,Q)::rest→sh.sum≤Q→1≤Q→
 ∃L1,(yS B (yD i s os sh))[k]? =some L1∧lpq (qY L1 s)=nV ((pr,Q)::rest) sh.sum∧∀z,z≠s→qY L1 z=qY L z
 |[],sh,B,L,Q,rest,h,hL,_,_,hl,_,hd,_,hQ=>by
  have:sh=[]:=List.length_eq_zero_iff.1 hl
  subst this
  refine⟨L,hL,?_,fun _ _=>rfl⟩
  rw[hd,List.sum_nil]
  show _=if Q≤0 then rest else(pr,Q-0)::rest
  rw[if_neg (by omega),Int.sub_zero]
 |o::os,[],B,L,Q,rest,h,hL,_,_,hl,_,_,_,_=>by cases hl
 |o::os,x::sh,B,L,Q,rest,h,hL,ho,hn,hl,hb,hd,hsum,hQ=>by
  have hx:0≤x∧x≤o.qty:=hb 0
  have hb':∀n,0≤sh.getD n 0∧sh.getD n 0≤(os.map (·.qty)).getD n 0:=fun n=>hb (n+1)
  have hl':sh.length=os.length:=by simpa using hl
  rw[List.map_cons,List.nodup_cons]at hn
  obtain⟨ho0,hos,hop⟩:=ho o List.mem_cons_self
  have ho':∀y∈os,y∈L∧y.side=s∧y.price=pr:=fun y hy=>ho y (List.mem_cons_of_mem _ hy)
  rw[List.sum_cons]at hsum ⊢
  have hs0:0≤sh.sum:=tL fun y hy=>by
   obtain⟨n,hn⟩:=List.getElem?_of_mem hy
   have:=(hb' n).1
   have e:sh.getD n 0=y:=zP hn
   omega
  rw[yD]
  by_cases c:0<x
  ·rw[if_pos c]
   have hod:=h.od k L hL
   have hk:=(List.getElem?_eq_some_iff.1 hL).1
   have hi:=h.inst hL (List.mem_map_of_mem (f:=(·.id)) ho0)
   have hg:=wS hod.2.1 ho0
   have hh:qF L o.id=true:=hasId_iff.2 (List.mem_map_of_mem (f:=(·.id)) ho0)
   have ht:(xN B o.id x).1=B.set k (yK L o.id x):=by
    simp only[xN,hi,zP hL]
    rw[yZ,if_neg (by rw[hh];decide),if_neg (by rw[hg];omega)]
   have hW:=h.take o.id x
   show ∃L1,(yS (xN B o.id x).1 (yD i s os sh))[k]? =some L1∧_
   rw[ht]at hW ⊢
   have hL':(B.set k (yK L o.id x))[k]? =some (yK L o.id x):=j5 hk
   obtain⟨v,vs,e1,e2,e3,e4⟩:=zSe hd
   have hF:o∈jT L s:=List.mem_filter.2 ⟨ho0,by simpa using hos⟩
   have hsd:=zAb L s o.id x
   have hlt:=zTg (h.srt k L hL s hs) (hod.2.1.sublist (List.Sublist.map _ List.filter_sublist)) hF (v:=v) (vs:=vs) (by rw[← e1];rfl) (by rw[hop,e2]) (x:=x) (fun y hy=>by
    rw[← hsd]at hy
    exact((hW.od k _ hL').1 y (List.mem_filter.1 hy).1).q.1) (by rw[← hsd];exact hW.srt k _ hL' s hs)
   rw[← hsd]at hlt
   have hlt:lpq (qY (yK L o.id x) s)=nV (lpq (qY L s)) x:=hlt
   rw[hd]at hlt
   have hoth:∀z,z≠s→qY (yK L o.id x) z=qY L z:=by
    intro z hz
    show grp (jT (yK L o.id x) z)=grp (jT L z)
    rw[zAb,sD fun y hy e=> ?_]
    obtain⟨y1,y2⟩:=List.mem_filter.1 hy
    have:=wS hod.2.1 y1
    rw[e,hg]at this
    subst this
    have y2:o.side=z:=by simpa using y2
    exact hz (by rw[← y2,hos])
   by_cases c2:sh.sum=0
   ·rw[sH (fun n=>(hb' n).1) c2,c2,Int.add_zero]
    exact⟨_,hL',hlt,hoth⟩
   ·have e5:nV ((pr,Q)::rest) x=(pr,Q-x)::rest:=if_neg (by omega)
    have hlt2:=hlt
    rw[e5]at hlt2
    obtain⟨L1,g1,g2,g3⟩:=mY (i:=i) hs hW hL' (fun y hy=>⟨List.mem_filterMap.2 ⟨y,(ho' y hy).1,if_neg fun(e:y.id=o.id)=>hn.1 (e▸List.mem_map_of_mem (f:=(·.id)) hy)⟩,(ho' y hy).2⟩) hn.2 hl' hb' hlt2 (by omega) (by omega)
    refine⟨L1,g1,?_,fun z hz=>(g3 z hz).trans (hoth z hz)⟩
    rw[g2,← e5,z0x (by omega)]
  ·rw[if_neg c]
   have:x=0:=by omega
   subst this
   rw[Int.zero_add]at hsum ⊢
   exact mY hs h hL ho' hn.2 hl' hb' hd hsum hQ
theorem mM {p:Prd} {B:List (List zH)} (h:BWf p B) {k:Nat} {L:List zH} (hL:B[k]? =some L) {s:Int} (hs:s=1∨s=2) {q:Int} (hb:(bestL L s).2=true) (hq:1≤q∧q≤(bestL L s).1.qty):
 ∃L1,(yS B (yG p B k s q))[k]? =some L1∧lpq (qY L1 s)=nV (lpq (qY L s)) q∧∀z,z≠s→qY L1 z=qY L z:=by
 have G:=zBj h hL hs hb hq
 have e:=G.eq
 have S:=G.sh
 rw[zP hL]at e S
 have ho:=h.od k L hL
 cases hl:qY L s with
 |nil=>rw[bestL,hl]at hb;cases hb
 |cons v vs=>
  have hv:(bestL L s).1=v:=by rw[bestL,hl]
  rw[hv]at e S hq
  obtain⟨L1,g1,g2,g3⟩:=mY (i:=k) (pr:=v.price) (Q:=v.qty) (rest:=lpq vs) (os:=atL L s v.price) hs h hL (fun o hm=>by
   obtain⟨a,b⟩:=List.mem_filter.1 hm
   simp only[Bool.and_eq_true,decide_eq_true_eq]at b
   exact⟨a,b⟩) (ho.2.1.sublist (List.Sublist.map _ List.filter_sublist)) (by rw[S.len,List.length_map]) S.bd (by rw[hl];rfl) (by rw[S.sum];omega) (by omega)
  rw[e]
  refine⟨L1,g1,?_,g3⟩
  rw[g2,S.sum];rfl
def hdQ:List (Int×Int)→Int×Int×Bool
 |[]=>(0,0,false)
 |(p,q)::_=>(p,q,true)
theorem zBt (L:List zH) (s:Int):((bestL L s).1.price,(bestL L s).1.qty,(bestL L s).2)=hdQ (lpq (qY L s)):=by
 rw[bestL]
 cases qY L s<;>rfl
def PEq (B B':List (List zH)):Prop:=B'.length=B.length∧∀(k:Nat) (s:Int),s=1∨s=2→(bestL (B'.getD k []) s).1.price=(bestL (B.getD k []) s).1.price∧(bestL (B'.getD k []) s).2=(bestL (B.getD k []) s).2
def LadEq (B B':List (List zH)):Prop:=B'.length=B.length∧∀(k:Nat) (s:Int),s=1∨s=2→lpq (qY (B'.getD k []) s)=lpq (qY (B.getD k []) s)
theorem LadEq.refl (B:List (List zH)):LadEq B B:=⟨rfl,fun _ _ _=>rfl⟩
theorem LadEq.best {B B':List (List zH)} (h:LadEq B B') (k:Nat) {s:Int} (hs:s=1∨s=2):(bestL (B'.getD k []) s).1.price=(bestL (B.getD k []) s).1.price∧(bestL (B'.getD k []) s).1.qty=(bestL (B.getD k []) s).1.qty∧(bestL (B'.getD k []) s).2=(bestL (B.getD k []) s).2:=by
 have a:=zBt (B'.getD k []) s
 rw[h.2 k s hs,← zBt]at a
 simp only[Prod.mk.injEq]at a
 exact a
theorem LadEq.p {B B':List (List zH)} (h:LadEq B B'):PEq B B':=⟨h.1,fun k s hs=>⟨(h.best k hs).1,(h.best k hs).2.2⟩⟩
def TEq (T T':List Top):Prop:=T'.length=T.length∧∀k s,s=1∨s=2→((T'.getD k top0).has s=(T.getD k top0).has s∧(T'.getD k top0).price s=(T.getD k top0).price s)
theorem dK (B:List (List zH)) (k:Nat) (s:Int) (hs:s=1∨s=2):((B.map jI).getD k top0).has s=(bestL (B.getD k []) s).2∧((B.map jI).getD k top0).qty s=(bestL (B.getD k []) s).1.qty∧((B.map jI).getD k top0).price s=(bestL (B.getD k []) s).1.price:=by
 by_cases h:k<B.length
 ·obtain⟨L,hL⟩:=z8 h
  rw[c8 hL,zP hL];exact jD L hs
 ·rw[List.getD_eq_getElem?_getD,List.getD_eq_getElem?_getD,List.getElem?_eq_none (by rw[List.length_map];omega),List.getElem?_eq_none (by omega)]
  rcases hs with rfl|rfl<;>exact⟨rfl,rfl,rfl⟩
theorem PEq.t {B B':List (List zH)} (h:PEq B B'):TEq (B.map jI) (B'.map jI):=by
 refine⟨by rw[List.length_map,List.length_map,h.1],fun k s hs=> ?_⟩
 have a:=dK B k s hs
 have b:=dK B' k s hs
 have c:=h.2 k s hs
 exact⟨by rw[a.1,b.1,c.2],by rw[a.2.2,b.2.2,c.1]⟩
def fD (inst s:Int) (n:Quote×Bool×Bool) (k:Nat) (z:Int):Prop:=if n.2.1=true then(k=n.1.a.inst.toNat∧z=n.1.a.side)∨(k=n.1.b.inst.toNat∧z=n.1.b.side)else k=inst.toNat∧z=s
def Dec (S:Nat→Int→Prop) (x:Int) (B B':List (List zH)):Prop:=B'.length=B.length∧∀(k:Nat) (s:Int),s=1∨s=2→(S k s→lpq (qY (B'.getD k []) s)=nV (lpq (qY (B.getD k []) s)) x)∧(¬S k s→lpq (qY (B'.getD k []) s)=lpq (qY (B.getD k []) s))
theorem Dec.eq {S:Nat→Int→Prop} {x:Int} {B B' C C':List (List zH)} (h:Dec S x B C) (h':Dec S x B' C') (e:LadEq B B'):LadEq C C':=by
 refine⟨by rw[h'.1,h.1,e.1],fun k s hs=> ?_⟩
 by_cases c:S k s
 ·rw[((h'.2 k s hs).1 c),((h.2 k s hs).1 c),e.2 k s hs]
 ·rw[((h'.2 k s hs).2 c),((h.2 k s hs).2 c),e.2 k s hs]
def goB (p:Prd) (B:List (List zH)) (inst:Int) (sd:Bool) (price:Int):Bool:=(zM p B inst (zB (!sd))).2.2 && (vX sd price (zM p B inst (zB (!sd))).1.price && decide (1≤(zM p B inst (zB (!sd))).1.qty))
theorem zZt {p:Prd} {B:List (List zH)} {inst:Int} {sd:Bool} {price:Int} (h:goB p B inst sd price=false) (q:Int):wC p B inst sd price q=none:=by
 rw[wC]
 dsimp only
 rw[if_neg]
 rw[goB]at h
 rw[h];decide
theorem zGq {p:Prd} {B:List (List zH)} (h:BWf p B) {inst:Int} (hi:0≤inst∧inst<B.length) {sd:Bool} {price:Int} (hg:goB p B inst sd price=true) {q:Int} (hq:1≤q):
 ∃t B',wC p B inst sd price q=some (t,B')∧t.qty=min q (zM p B inst (zB (!sd))).1.qty∧1≤t.qty∧BWf p B'∧Dec (fD inst (zB (!sd)) (zM p B inst (zB (!sd)))) t.qty B B':=by
 have hs:zB (!sd)=1∨zB (!sd)=2:=hJ _
 have hg0:=hg
 rw[goB]at hg0
 simp only[Bool.and_eq_true,decide_eq_true_eq]at hg0
 obtain⟨c1,c2,c3⟩:=hg0
 obtain⟨hq1,h1,h2⟩:=mD h.ok h.od hi hs c1
 rw[wC]
 dsimp only
 rw[if_pos (by rw[goB]at hg;exact hg)]
 by_cases c:(zM p B inst (zB (!sd))).2.1=true
 ·obtain⟨_,ok⟩:=h1 c
  rw[if_pos c]
  refine⟨_,_,rfl,rfl,by dsimp only;omega,h.takes.takes,?_⟩
  dsimp only
  have hlg:fD inst (zB (!sd)) (zM p B inst (zB (!sd)))=fun k z=>(k=(zM p B inst (zB (!sd))).1.a.inst.toNat∧z=(zM p B inst (zB (!sd))).1.a.side)∨(k=(zM p B inst (zB (!sd))).1.b.inst.toNat∧z=(zM p B inst (zB (!sd))).1.b.side):=by
   funext k z;rw[fD,if_pos c]
  rw[hlg]
  generalize (zM p B inst (zB (!sd))).1=n at*
  obtain⟨np,nq,⟨ai,az⟩,⟨bi,bs⟩⟩:=n
  have a:=ok.a
  have b:=ok.b
  have ne:=ok.ne
  rw[List.length_map]at a b
  dsimp only at a b ne hq1 c3 ⊢
  obtain⟨ka,rfl⟩:∃k:Nat,ai=k:=⟨ai.toNat,by omega⟩
  obtain⟨kb,rfl⟩:∃k:Nat,bi=k:=⟨bi.toNat,by omega⟩
  have hab:ka≠kb:=fun e=>ne (by rw[e])
  obtain⟨La,hLa⟩:=z8 (l:=B) (i:=ka) (by omega)
  obtain⟨Lb,hLb⟩:=z8 (l:=B) (i:=kb) (by omega)
  have e1:=ok.ha
  have e2:=ok.hb
  have e3:=ok.qty
  have sa:az=1∨az=2:=ok.sa
  have bz:bs=1∨bs=2:=ok.sb
  dsimp only at e1 e2 e3
  rw[Int.toNat_natCast,c8 hLa]at e1 e3
  rw[Int.toNat_natCast,c8 hLb]at e2 e3
  rw[(jD La sa).1]at e1
  rw[(jD Lb bz).1]at e2
  rw[(jD La sa).2.1,(jD Lb bz).2.1]at e3
  have hW1:BWf p (yS B (yG p B ka az (min q nq))):=h.takes
  have hl:=j8 h (k:=ka) (j:=kb) hab hLa hLb az (min q nq)
  obtain⟨L1,g1,g2,g3⟩:=mM h hLa sa e1 (q:=min q nq) (by omega)
  obtain⟨L2,f1,f2,f3⟩:=mM hW1 hl bz e2 (q:=min q nq) (by omega)
  have hl2:=j8 hW1 (k:=kb) (j:=ka) (fun e=>hab e.symm) hl g1 bs (min q nq)
  refine⟨by rw[qE,qE],fun k s hs=> ?_⟩
  rw[Int.toNat_natCast,Int.toNat_natCast]
  by_cases ca:k=ka
  ·subst ca
   rw[zP hl2,zP hLa]
   by_cases cs:s=az
   ·subst cs
    exact⟨fun _=>g2,fun x=>absurd (.inl ⟨rfl,rfl⟩) x⟩
   ·exact⟨fun x=>by rcases x with x|x;exact absurd x.2 cs;exact absurd x.1 hab,fun _=>by rw[g3 s cs]⟩
  by_cases cb:k=kb
  ·subst cb
   rw[zP f1,zP hLb]
   by_cases cs:s=bs
   ·subst cs
    exact⟨fun _=>f2,fun x=>absurd (.inr ⟨rfl,rfl⟩) x⟩
   ·exact⟨fun x=>by rcases x with x|x;exact absurd x.1 ca;exact absurd x.2 cs,fun _=>by rw[f3 s cs]⟩
  refine⟨fun x=>by rcases x with x|x;exact absurd x.1 ca;exact absurd x.1 cb,fun _=> ?_⟩
  by_cases hk:k<B.length
  ·obtain⟨L,hL⟩:=z8 hk
   have m1:=j8 h (k:=ka) (j:=k) (fun e=>ca e.symm) hLa hL az (min q nq)
   have m2:=j8 hW1 (k:=kb) (j:=k) (fun e=>cb e.symm) hl m1 bs (min q nq)
   rw[zP hL,zP m2]
  ·rw[List.getD_eq_getElem?_getD,List.getD_eq_getElem?_getD,List.getElem?_eq_none (by rw[qE,qE];omega),List.getElem?_eq_none (by omega)]
 ·obtain⟨d1,d2,d3⟩:=h2 (by simpa using c)
  rw[if_neg c]
  refine⟨_,_,rfl,rfl,by dsimp only;omega,h.takes,?_⟩
  dsimp only
  have hlg:fD inst (zB (!sd)) (zM p B inst (zB (!sd)))=fun k z=>k=inst.toNat∧z=zB (!sd):=by
   funext k z;rw[fD,if_neg c]
  rw[hlg]
  obtain⟨k0,rfl⟩:∃k:Nat,inst=k:=⟨inst.toNat,by omega⟩
  obtain⟨L,hL⟩:=z8 (l:=B) (i:=k0) (by omega)
  rw[Int.toNat_natCast,zP hL]at d1 d3
  rw[Int.toNat_natCast]
  obtain⟨L1,g1,g2,g3⟩:=mM h hL hs d1 (q:=min q (zM p B k0 (zB (!sd))).1.qty) (by omega)
  refine⟨by rw[qE],fun k s hs2=> ?_⟩
  by_cases ca:k=k0
  ·subst ca
   rw[zP g1,zP hL]
   by_cases cs:s=zB (!sd)
   ·rw[cs]
    exact⟨fun _=>g2,fun x=>absurd ⟨rfl,rfl⟩ x⟩
   ·exact⟨fun x=>absurd x.2 cs,fun _=>by rw[g3 s cs]⟩
  refine⟨fun x=>absurd x.1 ca,fun _=> ?_⟩
  by_cases hk:k<B.length
  ·obtain⟨M,hM⟩:=z8 hk
   have m1:=j8 h (k:=k0) (j:=k) (fun e=>ca e.symm) hL hM (zB (!sd)) (min q (zM p B k0 (zB (!sd))).1.qty)
   rw[zP hM,zP m1]
  ·rw[List.getD_eq_getElem?_getD,List.getD_eq_getElem?_getD,List.getElem?_eq_none (by rw[qE];omega),List.getElem?_eq_none (by omega)]
open Go Cv Go.Proofs
theorem zVl {p:Prd} {B:List (List zH)} (h:BWf p B) {inst:Int} (hi:0≤inst∧inst<B.length) {s:Int} (hs:s=1∨s=2) (hn:(zM p B inst s).2.2=true) {k:Nat} {z:Int} (hl:fD inst s (zM p B inst s) k z):
 (bestL (B.getD k []) z).2=true∧(zM p B inst s).1.qty≤(bestL (B.getD k []) z).1.qty:=by
 obtain⟨_,h1,h2⟩:=mD h.ok h.od hi hs hn
 rw[fD]at hl
 split at hl
 ·rename_i c
  obtain⟨_,ok⟩:=h1 c
  have e1:=ok.ha
  have e2:=ok.hb
  have e3:=ok.qty
  have a:=dK B (zM p B inst s).1.a.inst.toNat _ ok.sa
  have b:=dK B (zM p B inst s).1.b.inst.toNat _ ok.sb
  rw[a.1]at e1
  rw[b.1]at e2
  rw[a.2.1,b.2.1]at e3
  rcases hl with⟨rfl,rfl⟩|⟨rfl,rfl⟩
  ·exact⟨e1,by omega⟩
  ·exact⟨e2,by omega⟩
 ·rename_i c
  obtain⟨d1,d2,d3⟩:=h2 (by simpa using c)
  obtain⟨rfl,rfl⟩:=hl
  exact⟨d1,by omega⟩
theorem LadEq.tops {B B':List (List zH)} (h:LadEq B B'):B'.map jI=B.map jI:=by
 apply List.ext_getElem?
 intro k
 rw[List.getElem?_map,List.getElem?_map]
 by_cases c:k<B.length
 ·obtain⟨L,hL⟩:=z8 c
  obtain⟨L',hL'⟩:=z8 (l:=B') (i:=k) (by rw[h.1];exact c)
  rw[hL,hL']
  have a:=h.best k (.inl rfl)
  have b:=h.best k (.inr rfl)
  rw[zP hL,zP hL']at a b
  obtain⟨x1,x2,x3,x4,x5,x6⟩:=b8 L
  obtain⟨y1,y2,y3,y4,y5,y6⟩:=b8 L'
  show some (jI L')=some (jI L)
  congr 1
  generalize jI L'=t' at*
  generalize jI L=t at*
  cases t';cases t
  dsimp only at*
  simp[x1,x2,x3,x4,x5,x6,y1,y2,y3,y4,y5,y6,a,b]
 ·rw[List.getElem?_eq_none (by rw[h.1];omega),List.getElem?_eq_none (by omega)]
theorem LadEq.next {B B':List (List zH)} (h:LadEq B B') (p:Prd) (inst:Int) {s:Int} (hs:s=1∨s=2):zM p B' inst s=zM p B inst s:=by
 have a:=h.best inst.toNat hs
 rw[zM,zM,h.tops,a.1,a.2.1,a.2.2]
def gZ (p:Prd) (B:List (List zH)) (inst:Int) (sd:Bool) (price q:Int):Int:=q-(qZ p B inst sd price q).left
theorem rL {p:Prd} {B:List (List zH)} {inst:Int} {sd:Bool} {price:Int} (h:goB p B inst sd price=false) (q:Int):qZ p B inst sd price q=⟨[],q,B⟩:=uN (.inr (zZt h q))
theorem z5m {p:Prd} {B:List (List zH)} {inst:Int} {sd:Bool} {price:Int} (h:goB p B inst sd price=false) (q:Int):gZ p B inst sd price q=0:=by
 rw[gZ,rL h];dsimp only;omega
theorem zSx {p:Prd} {B:List (List zH)} {inst:Int} {sd:Bool} {price:Int} {q:Int} (h:q≤0):gZ p B inst sd price q=0:=by
 rw[gZ,uN (.inl h)];dsimp only;omega
theorem zFp {p:Prd} {B:List (List zH)} {inst:Int} {sd:Bool} {price q:Int} {t:u7} {B':List (List zH)} (hq:1≤q) (h:wC p B inst sd price q=some (t,B')):gZ p B inst sd price q=t.qty+gZ p B' inst sd price (q-t.qty):=by
 rw[gZ,gZ,fL hq h];dsimp only;omega
theorem BWf.run {p:Prd} {inst:Int} {sd:Bool} {price:Int}:∀(m:Nat) (q:Int) (B:List (List zH)),q.toNat≤m→BWf p B→0≤inst∧inst<B.length→BWf p (qZ p B inst sd price q).B∧(qZ p B inst sd price q).B.length=B.length∧
 (0<(qZ p B inst sd price q).left→0<q∧goB p (qZ p B inst sd price q).B inst sd price=false)∧(0≤q→0≤(qZ p B inst sd price q).left∧(qZ p B inst sd price q).left≤q)∧((qZ p B inst sd price q).steps=[]→gZ p B inst sd price q=0)∧(gZ p B inst sd price q=0→0≤q→(qZ p B inst sd price q).steps=[])
 |m,q,B,hm,h,hi=>by
  by_cases hq:q≤0
  ·rw[zSx hq,uN (.inl hq)]
   exact⟨h,rfl,fun x=>by dsimp only at x;omega,fun x=>⟨x,Int.le_refl _⟩,fun _=>rfl,fun _ _=>rfl⟩
  cases hg:goB p B inst sd price with
  |false=>
   rw[z5m hg,rL hg]
   exact⟨h,rfl,fun _=>⟨by omega,hg⟩,fun x=>⟨x,Int.le_refl _⟩,fun _=>rfl,fun _ _=>rfl⟩
  |true=>
   obtain⟨t,C,a1,a2,a3,a4,a5⟩:=zGq h hi hg (q:=q) (by omega)
   cases m with
   |zero=>omega
   |succ m=>
   obtain⟨i1,i2,i3,i4,i5,i6⟩:=BWf.run (p:=p) (inst:=inst) (sd:=sd) (price:=price) m (q-t.qty) C (by omega) a4 (by rw[a5.1];exact hi)
   have i4:=i4 (by omega)
   have hc:=zFp (by omega) a1
   rw[gZ]at hc
   rw[gZ]at hc
   rw[fL (by omega) a1]
   refine⟨i1,i2.trans a5.1,fun x=>⟨by omega,(i3 x).2⟩,fun _=>⟨i4.1,by dsimp only;omega⟩,fun x=>(by cases x),fun x=> ?_⟩
   rw[zFp (by omega) a1,gZ]at x
   omega
open Go Cv Go.Proofs
def coulC:Con:=con1 RunI (fun i=>[.nm 0 0,zE i.inst,zE (zB i.sd),zE i.price,zE i.q]) (fun i=>[zJ i.s]) (fun i=>i.s.Rep i.p i.B∧BOk i.p i.B∧(0≤i.inst∧i.inst<i.B.length)∧1≤i.q∧i.q≤1000000)
 (fun i=>zE (gZ i.p i.B i.inst i.sd i.price i.q)) (fun i=>[zJ i.s])
structure McI where
 m:MmI
 more:Int
def McI.n (i:McI):Int:=1+zD i.more 0 30
open Go Cv Go.Proofs
def x9 (B:List (List zH)):Nat:=(B.map List.length).sum
def spO (o:zH):Int×Int:=(o.side,o.price)
def zFq (B:List (List zH)):List (List (Int×Int)):=B.map fun L=>L.map spO
theorem zBz:∀(B:List (List zH)) (n:Nat),(whL n B).length=x9 B
 |[],n=>rfl
 |L::B,n=>by
  rw[whL,List.length_append,List.length_map,zBz B,x9,x9,List.map_cons,List.sum_cons]
theorem z4d {B:List (List zH)} (h:zRf B):x9 B≤250*B.length:=by
 have:∀(B:List (List zH)),(∀L∈B,L.length≤250)→x9 B≤250*B.length:=by
  intro B
  induction B with
  |nil=>intro _;exact Nat.le_refl _
  |cons L B ih=>
   intro h
   have a:=ih fun M hM=>h M (List.mem_cons_of_mem _ hM)
   have b:=h L List.mem_cons_self
   rw[x9]at a ⊢
   rw[List.map_cons,List.sum_cons,List.length_cons];omega
 refine this B fun L hL=> ?_
 obtain⟨k,hk⟩:=List.mem_iff_getElem?.1 hL
 exact(h k L hk).2.2
theorem zLs (id q:Int):∀(L:List zH),(yK L id q).length≤L.length∧((yK L id q).length=L.length→(yK L id q).map spO=L.map spO)
 |[]=>⟨Nat.le_refl _,fun _=>rfl⟩
 |o::L=>by
  obtain⟨i1,i2⟩:=zLs id q L
  rw[yK]at i1 i2
  rw[yK,List.filterMap_cons]
  by_cases c:o.id=id
  ·rw[if_pos c]
   by_cases d:o.qty=q
   ·rw[if_pos d]
    refine⟨Nat.le_succ_of_le i1,fun e=> ?_⟩
    rw[List.length_cons]at e
    dsimp only at e
    omega
   ·rw[if_neg d]
    refine⟨Nat.succ_le_succ i1,fun e=> ?_⟩
    rw[List.map_cons,List.map_cons,i2 (Nat.succ.inj e)]
    rfl
  ·rw[if_neg c]
   refine⟨Nat.succ_le_succ i1,fun e=> ?_⟩
   rw[List.map_cons,List.map_cons,i2 (Nat.succ.inj e)]
theorem zNn:∀{B:List (List zH)} {k:Nat} {L L':List zH},B[k]? =some L→x9 (B.set k L')+L.length=x9 B+L'.length
 |[],k,L,L',h=>by cases h
 |M::B,0,L,L',h=>by
  cases h
  rw[List.set_cons_zero,x9,x9,List.map_cons,List.map_cons,List.sum_cons,List.sum_cons];omega
 |M::B,k+1,L,L',h=>by
  have:=zNn (B:=B) (k:=k) (L:=L) (L':=L') h
  rw[x9,x9]at this
  rw[List.set_cons_succ,x9,x9,List.map_cons,List.map_cons,List.sum_cons,List.sum_cons];omega
theorem z0g (B:List (List zH)) (id q:Int):x9 (xN B id q).1≤x9 B∧(x9 (xN B id q).1=x9 B→zFq (xN B id q).1=zFq B):=by
 rw[xN]
 split
 ·exact⟨Nat.le_refl _,fun _=>rfl⟩
 ·rename_i k hk
  dsimp only
  obtain⟨L,hL,hh⟩:=kZ hk
  rw[zP hL,yZ]
  split
  ·rw[kM hL];exact⟨Nat.le_refl _,fun _=>rfl⟩
  split
  ·rw[kM hL];exact⟨Nat.le_refl _,fun _=>rfl⟩
  dsimp only
  have:=zNn (L':=yK L id q) hL
  obtain⟨i1,i2⟩:=zLs id q L
  refine⟨by omega,fun e=> ?_⟩
  rw[zFq,zFq,List.map_set,i2 (by omega)]
  exact kM (by rw[List.getElem?_map,hL];rfl)
theorem zEe:∀(fs:List kU) (B:List (List zH)),x9 (yS B fs)≤x9 B∧(x9 (yS B fs)=x9 B→zFq (yS B fs)=zFq B)
 |[],B=>⟨Nat.le_refl _,fun _=>rfl⟩
 |f::fs,B=>by
  obtain⟨i1,i2⟩:=zEe fs (xN B f.id f.qty).1
  obtain⟨j1,j2⟩:=z0g B f.id f.qty
  have e:yS B (f::fs)=yS (xN B f.id f.qty).1 fs:=rfl
  rw[e]
  exact⟨by omega,fun h=>(i2 (by omega)).trans (j2 (by omega))⟩
theorem zAp:∀{F F':List zH},F.map (·.price)=F'.map (·.price)→(grp F).map (·.price)=(grp F').map (·.price)
 |[],[],_=>rfl
 |[],_::_,h=>by cases h
 |_::_,[],h=>by cases h
 |o::F,o'::F',h=>by
  rw[List.map_cons,List.map_cons,List.cons.injEq]at h
  have ih:=zAp h.2
  have h1:=h.1
  rw[grp,grp]
  cases e:grp F with
  |nil=>
   rw[e]at ih
   cases e':grp F' with
   |nil=>simp[h1]
   |cons v vs=>rw[e']at ih;cases ih
  |cons v vs=>
   rw[e]at ih
   cases e':grp F' with
   |nil=>rw[e']at ih;cases ih
   |cons w ws=>
    rw[e',List.map_cons,List.map_cons,List.cons.injEq]at ih
    dsimp only
    rw[ih.1,h1]
    split
    ·rw[List.map_cons,List.map_cons,ih.2]
    ·rw[List.map_cons,List.map_cons,List.map_cons,List.map_cons,ih.2,ih.1]
theorem z7j {L L':List zH} (h:L'.map spO=L.map spO) (s:Int):(qY L' s).length=(qY L s).length:=by
 have e:∀L:List zH,(L.filter fun o=>decide (o.side=s)).map (·.price)=((L.map spO).filter fun x=>decide (x.1=s)).map (·.2):=by
  intro L
  rw[List.filter_map,List.map_map];rfl
 have:=zAp ((e L').trans ((congrArg (fun l=>(List.filter (fun x:Int×Int=>decide (x.1=s)) l).map (·.2)) h).trans (e L).symm))
 have:=congrArg List.length this
 rw[List.length_map,List.length_map]at this
 exact this
theorem zJn {p:Prd} {B:List (List zH)} {inst:Int} {sd:Bool} {price q:Int} {t:u7} {B':List (List zH)} (e:wC p B inst sd price q=some (t,B')):B'=yS B t.fills:=by
 rw[wC]at e
 dsimp only at e
 split at e
 ·split at e
  ·cases e;rw[lZ]
  ·cases e;rfl
 ·cases e
theorem zEf {p:Prd} {B:List (List zH)} (h:BWf p B) {inst:Int} (hi:0≤inst∧inst<B.length) {sd:Bool} {price:Int} (hg:goB p B inst sd price=true) {q:Int} (hq:1≤q):
 ∃t B',wC p B inst sd price q=some (t,B')∧1≤t.qty∧t.qty≤q∧BWf p B'∧B'.length=B.length∧x9 B'≤x9 B∧(t.qty<q→x9 B'<x9 B):=by
 obtain⟨t,B',a1,a2,a3,a4,a5⟩:=zGq h hi hg hq
 have hg0:=hg
 rw[goB]at hg0
 simp only[Bool.and_eq_true,decide_eq_true_eq]at hg0
 obtain⟨c1,_,c3⟩:=hg0
 have hcs:=zEe t.fills B
 rw[← zJn a1]at hcs
 refine⟨t,B',a1,a3,by omega,a4,a5.1,hcs.1,fun hlt=> ?_⟩
 rcases Nat.lt_or_ge (x9 B') (x9 B)with x|x
 ·exact x
 exfalso
 have hsh:=hcs.2 (by omega)
 have hs:=hJ (!sd)
 obtain⟨_,p1,p2⟩:=mD h.ok h.od hi hs c1
 obtain⟨k,z,hz,hl,he⟩:∃(k:Nat) (z:Int),(z=1∨z=2)∧fD inst (zB (!sd)) (zM p B inst (zB (!sd))) k z∧(bestL (B.getD k []) z).1.qty=(zM p B inst (zB (!sd))).1.qty:=by
  cases c:(zM p B inst (zB (!sd))).2.1 with
  |true=>
   obtain⟨_,ok⟩:=p1 c
   have q0:=ok.qty
   rw[(dK B _ _ ok.sa).2.1,(dK B _ _ ok.sb).2.1]at q0
   rcases Int.le_total (bestL (B.getD (zM p B inst (zB (!sd))).1.a.inst.toNat []) (zM p B inst (zB (!sd))).1.a.side).1.qty (bestL (B.getD (zM p B inst (zB (!sd))).1.b.inst.toNat []) (zM p B inst (zB (!sd))).1.b.side).1.qty with y|y
   ·exact⟨_,_,ok.sa,by rw[fD,if_pos c];exact .inl ⟨rfl,rfl⟩,by omega⟩
   ·exact⟨_,_,ok.sb,by rw[fD,if_pos c];exact .inr ⟨rfl,rfl⟩,by omega⟩
  |false=>
   obtain⟨d1,d2,d3⟩:=p2 c
   exact⟨inst.toNat,_,hs,by rw[fD,if_neg (by rw[c];decide)];exact⟨rfl,rfl⟩,d3.symm⟩
 have hb:=zVl h hi hs c1 hl
 have hd:=(a5.2 k z hz).1 hl
 have hlen:(lpq (qY (B'.getD k []) z)).length=(lpq (qY (B.getD k []) z)).length:=by
  rw[lpq,lpq,List.length_map,List.length_map]
  refine z7j ?_ z
  have:=congrArg (fun l=>l.getD k []) hsh
  have ge:∀B:List (List zH),(zFq B).getD k []=(B.getD k []).map spO:=by
   intro B
   rw[zFq,List.getD_eq_getElem?_getD,List.getD_eq_getElem?_getD,List.getElem?_map]
   cases B[k]? <;>rfl
  rw[ge,ge]at this
  exact this
 have bh:=zBt (B.getD k []) z
 rw[hd]at hlen
 cases el:lpq (qY (B.getD k []) z)with
 |nil=>rw[el]at bh;simp only[hdQ,Prod.mk.injEq]at bh;rw[bh.2.2]at hb;cases hb.1
 |cons v vs=>
  obtain⟨pr,Q⟩:=v
  rw[el]at bh hlen
  simp only[hdQ,Prod.mk.injEq]at bh
  have e2:nV ((pr,Q)::vs) t.qty=vs:=if_pos (by omega)
  rw[e2,List.length_cons]at hlen
  omega
theorem zNh {p:Prd} {inst:Int} {sd:Bool} {price:Int}:∀(m:Nat) (q:Int) (B:List (List zH)),q.toNat≤m→BWf p B→0≤inst∧inst<B.length→
 (qZ p B inst sd price q).steps.length+x9 (qZ p B inst sd price q).B≤x9 B+1∧(q≤0→(qZ p B inst sd price q).steps=[])∧((qZ p B inst sd price q).steps.map (·.qty)).sum=q-(qZ p B inst sd price q).left∧x9 (qZ p B inst sd price q).B≤x9 B
 |m,q,B,hm,h,hi=>by
  by_cases hq:q≤0
  ·rw[uN (.inl hq)]
   exact⟨by dsimp only[List.length_nil];omega,fun _=>rfl,by simp,Nat.le_refl _⟩
  cases hg:goB p B inst sd price with
  |false=>
   rw[rL hg]
   exact⟨by dsimp only[List.length_nil];omega,fun _=>rfl,by simp,Nat.le_refl _⟩
  |true=>
   obtain⟨t,C,a1,a3,a3',a4,a5,a6,a7⟩:=zEf h hi hg (q:=q) (by omega)
   cases m with
   |zero=>omega
   |succ m=>
   obtain⟨i1,i2,i3,i4⟩:=zNh (p:=p) (inst:=inst) (sd:=sd) (price:=price) m (q-t.qty) C (by omega) a4 (by rw[a5];exact hi)
   rw[fL (by omega) a1]
   refine⟨?_,fun x=>absurd x hq,?_,by dsimp only;omega⟩
   ·dsimp only
    rw[List.length_cons]
    by_cases c:t.qty<q
    ·have:=a7 c
     omega
    ·rw[i2 (by omega)]
     rw[List.length_nil];omega
   ·dsimp only
    rw[List.map_cons,List.sum_cons,i3];omega
def gvn:List kU→Int→Int
 |[],_=>0
 |f::l,k=>(if f.inst=k then f.qty else 0)+gvn l k
theorem pH (k:Int):∀(a b:List kU),gvn (a++b) k=gvn a k+gvn b k
 |[],b=>by rw[List.nil_append,gvn];omega
 |f::a,b=>by rw[List.cons_append,gvn,gvn,pH k a b];omega
theorem nO {inst s k:Int}:∀{os:List zH} {sh:List Int},sh.length=os.length→(∀n,0≤sh.getD n 0)→gvn (yD inst s os sh) k=if k=inst then sh.sum else 0
 |[],[],_,_=>by simp[yD,gvn]
 |[],_::_,h,_=>by cases h
 |_::_,[],h,_=>by cases h
 |o::os,x::sh,h,h2=>by
  have ih:=nO (inst:=inst) (s:=s) (k:=k) (os:=os) (sh:=sh) (by simpa using h) fun n=>h2 (n+1)
  have h0:0≤x:=h2 0
  rw[yD,List.sum_cons]
  by_cases c:0<x
  ·rw[if_pos c,gvn,ih]
   dsimp only
   by_cases e:k=inst
   ·rw[if_pos e,if_pos e,if_pos e.symm]
   ·rw[if_neg e,if_neg e,if_neg (fun x=>e x.symm)];omega
  ·rw[if_neg c,ih]
   by_cases e:k=inst
   ·rw[if_pos e,if_pos e];omega
   ·rw[if_neg e,if_neg e]
theorem fE {inst s:Int} {f:kU}:∀{os:List zH} {sh:List Int},(∀n,0≤sh.getD n 0∧sh.getD n 0≤(os.map (·.qty)).getD n 0)→f∈yD inst s os sh→f.inst=inst∧f.side=s∧1≤f.qty∧0≤f.left∧∃o∈os,f.price=o.price∧f.qty≤o.qty
 |[],sh,_,h=>by simp[yD]at h
 |_::_,[],_,h=>by simp[yD]at h
 |o::os,x::sh,h2,h=>by
  have h0:0≤x∧x≤o.qty:=h2 0
  rw[yD]at h
  split at h
  ·rcases List.mem_cons.1 h with rfl|h
   ·exact⟨rfl,rfl,by dsimp only;omega,by dsimp only;omega,o,List.mem_cons_self,rfl,h0.2⟩
   ·obtain⟨a,b,c,d,o',ho',e⟩:=fE (fun n=>h2 (n+1)) h
    exact⟨a,b,c,d,o',List.mem_cons_of_mem _ ho',e⟩
  ·obtain⟨a,b,c,d,o',ho',e⟩:=fE (fun n=>h2 (n+1)) h
   exact⟨a,b,c,d,o',List.mem_cons_of_mem _ ho',e⟩
theorem zCx {p:Prd} {B:List (List zH)} (h:BWf p B) {q:Int} {g:List kU} {k:Nat} {s pr:Int} (G:z9y p B q g k s pr):
 (∀f∈g,f.inst=k∧f.side=s∧1≤f.qty∧f.qty≤1000000∧0≤f.left∧f.price=pr)∧(∀j:Int,gvn g j=if j=k then q else 0)∧g.length≤250:=by
 obtain⟨L,hL⟩:=z8 G.lt
 have e:=G.eq
 have S:=G.sh
 rw[zP hL]at e S
 have ho:=h.od k L hL
 rw[e]
 refine⟨fun f hf=> ?_,fun j=> ?_,Nat.le_trans (tH _ _ _ _) (Nat.le_trans (List.length_filter_le _ _) ho.2.2)⟩
 ·obtain⟨a,b,c,d,o,ho',e1,e2⟩:=fE S.bd hf
  obtain⟨m1,m2⟩:=List.mem_filter.1 ho'
  simp only[Bool.and_eq_true,decide_eq_true_eq]at m2
  have:=(ho.1 o m1).q
  exact⟨a,b,c,by omega,d,by rw[e1,m2.2]⟩
 ·rw[nO (by rw[S.len,List.length_map]) fun n=>(S.bd n).1,S.sum]
structure z2c (inst:Int) (sd:Bool) (price:Int) (t:u7):Prop where
 pr:vX sd price t.price=true
 fl:∀f∈t.fills,(0≤f.inst∧f.inst<32)∧1≤f.qty∧f.qty≤1000000∧0≤f.left∧(t.implied=false→f.price=t.price∧f.inst=inst∧f.side=zB (!sd))
 len:t.fills.length≤500
 S:∃S:List Int,S.Nodup∧(∀k∈S,0≤k∧k<32)∧(S.length:Int)=(if t.implied=true then 2 else 1)∧∀k,gvn t.fills k=if k∈S then t.qty else 0
theorem zVe {p:Prd} {B:List (List zH)} (h:BWf p B) {inst:Int} (hi:0≤inst∧inst<B.length) {sd:Bool} {price q:Int} (hq:1≤q) {t:u7} {B':List (List zH)} (e:wC p B inst sd price q=some (t,B')):z2c inst sd price t:=by
 have hs:zB (!sd)=1∨zB (!sd)=2:=hJ _
 have hin:=mD h.ok h.od hi hs
 have hcb:=aN h.ok.pc
 have hbl:=h.ok.bl
 rw[wC]at e
 dsimp only at e
 split at e
 ·rename_i c
  have c1:(zM p B inst (zB (!sd))).2.2=true:=by
   cases hx:(zM p B inst (zB (!sd))).2.2 with
   |false=>rw[hx]at c;cases c
   |true=>rfl
  rw[c1]at c
  simp only[Bool.true_and,Bool.and_eq_true,decide_eq_true_eq]at c
  obtain⟨hq1,h1,h2⟩:=hin c1
  split at e
  ·rename_i c2
   obtain⟨_,ok⟩:=h1 c2
   generalize (zM p B inst (zB (!sd))).1=n at*
   obtain⟨np,nq,⟨ai,az⟩,⟨bi,bs⟩⟩:=n
   have a:=ok.a
   have b:=ok.b
   have ne:=ok.ne
   rw[List.length_map]at a b
   dsimp only at a b ne hq1 c
   obtain⟨ka,rfl⟩:∃k:Nat,ai=k:=⟨ai.toNat,by omega⟩
   obtain⟨kb,rfl⟩:∃k:Nat,bi=k:=⟨bi.toNat,by omega⟩
   obtain⟨La,hLa⟩:=z8 (l:=B) (i:=ka) (by omega)
   obtain⟨Lb,hLb⟩:=z8 (l:=B) (i:=kb) (by omega)
   have e1:=ok.ha
   have e2:=ok.hb
   have e3:=ok.qty
   have sa:az=1∨az=2:=ok.sa
   have bz:bs=1∨bs=2:=ok.sb
   dsimp only at e1 e2 e3
   rw[Int.toNat_natCast,c8 hLa]at e1 e3
   rw[Int.toNat_natCast,c8 hLb]at e2 e3
   rw[(jD La sa).1]at e1
   rw[(jD Lb bz).1]at e2
   rw[(jD La sa).2.1,(jD Lb bz).2.1]at e3
   cases e
   have hl:=j8 h (k:=ka) (j:=kb) (by omega) hLa hLb az (min q nq)
   have Ga:=zCx h (zBj h hLa sa e1 (q:=min q nq) (by omega))
   have Gb:=zCx h (zBj h hLb bz e2 (q:=min q nq) (by omega))
   rw[← zJx hLb hl]at Gb
   refine⟨c.1,fun f hf=> ?_,?_,[(ka:Int),(kb:Int)],?_,fun k hk=> ?_,rfl,fun k=> ?_⟩
   ·rcases List.mem_append.1 hf with hf|hf
    ·obtain⟨x1,x2,x3,x4,x5,x6⟩:=Ga.1 f hf
     exact⟨by omega,x3,x4,x5,fun x=>by cases x⟩
    ·obtain⟨x1,x2,x3,x4,x5,x6⟩:=Gb.1 f hf
     exact⟨by omega,x3,x4,x5,fun x=>by cases x⟩
   ·have:=Ga.2.2
    have:=Gb.2.2
    dsimp only
    rw[List.length_append];omega
   ·simp only[List.nodup_cons,List.mem_singleton,List.not_mem_nil,not_false_eq_true,List.nodup_nil,and_true]
    omega
   ·simp only[List.mem_cons,List.not_mem_nil,or_false]at hk
    omega
   ·dsimp only
    rw[pH,Ga.2.1,Gb.2.1]
    simp only[List.mem_cons,List.not_mem_nil,or_false]
    by_cases x:k=ka
    ·rw[if_pos x,if_neg (by omega),if_pos (.inl x)];omega
    ·by_cases y:k=kb
     ·rw[if_neg x,if_pos y,if_pos (.inr y)];omega
     ·rw[if_neg x,if_neg y,if_neg (by omega)];omega
  ·rename_i c2
   have c2:(zM p B inst (zB (!sd))).2.1=false:=by simpa using c2
   obtain⟨d1,d2,d3⟩:=h2 c2
   obtain⟨k0,rfl⟩:∃k:Nat,inst=k:=⟨inst.toNat,by omega⟩
   obtain⟨L,hL⟩:=z8 (l:=B) (i:=k0) (by omega)
   rw[Int.toNat_natCast,zP hL]at d1 d2 d3
   cases e
   have G:=zCx h (zBj h hL hs d1 (q:=min q (zM p B k0 (zB (!sd))).1.qty) (by omega))
   refine⟨c.1,fun f hf=> ?_,?_,[(k0:Int)],?_,fun k hk=> ?_,rfl,fun k=> ?_⟩
   ·obtain⟨x1,x2,x3,x4,x5,x6⟩:=G.1 f hf
    exact⟨by omega,x3,x4,x5,fun _=>⟨by dsimp only;omega,x1,x2⟩⟩
   ·have:=G.2.2
    dsimp only;omega
   ·simp
   ·simp only[List.mem_singleton]at hk
    omega
   ·dsimp only
    rw[G.2.1]
    simp only[List.mem_singleton]
 ·cases e
theorem zNr {p:Prd} {inst:Int} {sd:Bool} {price:Int}:∀(m:Nat) (q:Int) (B:List (List zH)),q.toNat≤m→BWf p B→0≤inst∧inst<B.length→∀t∈(qZ p B inst sd price q).steps,z2c inst sd price t∧1≤t.qty∧t.qty≤q
 |m,q,B,hm,h,hi=>by
  by_cases hq:q≤0
  ·rw[uN (.inl hq)]
   intro t ht;cases ht
  cases hg:goB p B inst sd price with
  |false=>
   rw[rL hg]
   intro t ht;cases ht
  |true=>
   obtain⟨t,C,a1,a3,a3',a4,a5,a6,a7⟩:=zEf h hi hg (q:=q) (by omega)
   cases m with
   |zero=>omega
   |succ m=>
   rw[fL (by omega) a1]
   intro u hu
   rcases List.mem_cons.1 hu with rfl|hu
   ·exact⟨zVe h hi (by omega) a1,a3,a3'⟩
   ·obtain⟨x,y,z⟩:=zNr (p:=p) (inst:=inst) (sd:=sd) (price:=price) m (q-t.qty) C (by omega) a4 (by rw[a5];exact hi) u hu
    exact⟨x,y,by omega⟩
open Go Cv Go.Proofs
def scountC:Con:=con1 SoI (fun i=>[.nm 0 0]) (fun i=>[zJ i.s]) (fun i=>i.ok) (fun i=>zE (x9 i.B)) (fun i=>[zJ i.s])
def MmI.gl (i:MmI):Ask:={i.fl with qty:=i.fl.qty*4}
def mrC:Con:=con1 MmI (fun i=>[prdV i.x,roV 6 (i.l.map askE),zE i.inst,zE i.side,zE i.price,zE i.qty]) (fun _=>[]) (fun i=>i.raw) (fun _=>yN true) (fun _=>[])
def iD (l:List Int):List D:=l.map fun x=> .v (.int .i64 x)
def mrA (i:MmI):List SAnn:=[
 {ι:=Nat×MSt,slots:=fun j=>[(14,.nm 0 0),(16,zE j.1)],rows:=fun j=>[zJ j.2]},
 {ι:=Nat×Int,slots:=fun j=>[(23,zE j.2),(24,zE j.1)],rows:=fun _=>[]},
 {ι:=Nat×List Int,slots:=fun j=>[(27,.nm 0 0),(28,zE j.1)],rows:=fun j=>[.vec (iD j.2) 47]},
 {ι:=Nat×Int,slots:=fun j=>[(30,zE j.2),(31,zE j.1)],rows:=fun _=>[]}]
def mrJ:List (Nat×SAnn):=[(4,yBj 13),(24,bj 54),(32,z9i 17),(40,z9i 18),(44,yBa 18),(96,bj 156),(124,bj 212),(142,ij 30),(31,ij 30),(184,bj 263)]
open Go Cv Go.Proofs
def zCp (i:SoI):Prop:=
 ∃(o:Unit),(↑(x9 i.B):Int)=(↑(yE i.s.wh).length:Int)∧sb i.s.p.code=sb i.s.p.code∧i.s.p.tick=i.s.p.tick∧i.s.p.low=i.s.p.low∧i.s.p.high=i.s.p.high∧i.s.p.wide=i.s.p.wide∧i.s.p.rule=i.s.p.rule∧i.s.p.top=i.s.p.top∧i.s.p.least=i.s.p.least∧i.s.p.part=i.s.p.part∧AObj.objs 64 Book 6 zN i.s.books none=AObj.objs 64 Book 6 zN i.s.books none∧yE i.s.wh=yE i.s.wh∧AObj.fro 1 (iE i.s.p.months)=AObj.fro 1 (iE i.s.p.months)∧AObj.fro 1 (iE i.s.p.settle)=AObj.fro 1 (iE i.s.p.settle)∧True
theorem zTn (hG:GOk Tryz.prog ([])) (h:∀(i:SoI),scountC.cnd i→zCp i):scountC.ok Tryz.prog 16:=okw mixed hG 0 (fun _=>[]) (fun _=>[]) [0] Tryz.func16 h
@[reducible] def yI (i:MmI):AObj:=Sx.AObj.cells [V.d (D.v (Value.string (sb i.x.code))),V.own (0:Nat),V.d (D.v (.int .i64 i.x.tick)),V.d (D.v (.int .i64 i.x.low)),V.d (D.v (.int .i64 i.x.high)),V.d (D.v (.int .i64 i.x.wide)),V.d (D.v (.int .i64 i.x.rule)),V.d (D.v (.int .i64 i.x.top)),V.d (D.v (.int .i64 i.x.least)),V.d (D.v (.int .i64 i.x.part)),V.own ((0:Nat)+(1:Nat))] (25:Nat)
@[reducible] def yJ (i_1:Prd):AObj:=Sx.AObj.cells (gO (rA ((0:Nat)+(1:Nat)+(1:Nat)+(1:Nat)) (qQ [] (0:Nat) []) (3:Nat)) [sV i_1.code,V.own (1:Nat),zE i_1.tick,zE i_1.low,zE i_1.high,zE i_1.wide,zE i_1.rule,zE i_1.top,zE i_1.least,zE i_1.part,V.own (2:Nat)]) (25:TypeId)
@[reducible] def xC (n:Int) (n_1:Int) (b:Bool):AObj:=Sx.AObj.cells [V.d (D.v (.int .i64 n)),V.d (D.v (.int .i64 n_1)),V.d (D.v (.bool b)),V.own ((0:Nat)+(1:Nat)+(1:Nat)+(1:Nat)+(3:Nat)+((1:Nat)-(0:Nat))+(1:Nat)+(0:Nat)+(1:Nat)+(1:Nat)+((1:Nat)-(1:Nat))+((1:Nat)-(1:Nat))+((1:Nat)-(1:Nat))+((2:Nat)-(1:Nat))+(0:Nat)+(1:Nat))] (46:Nat)
@[reducible] def yV (i0:Sx.Ask) (i_6:Sx.Ask):AObj:=Sx.AObj.cells (gO (rA ((0:Nat)+(1:Nat)+(1:Nat)+(1:Nat)+(3:Nat)+((1:Nat)-(0:Nat))+(1:Nat)+(0:Nat)+(1:Nat)) (qQ [((0:Nat),none.getD ((0:Nat)+(1:Nat)+(1:Nat)+(1:Nat)+(3:Nat)+((1:Nat)-(0:Nat))+(1:Nat)+(0:Nat)+nat_lit 0))] (0:Nat) [Sx.AObj.cells i0.cells (34:TypeId)]) (1:Nat)) i_6.cells) (34:TypeId)
@[reducible] def vB (n_2:Int) (n_3:Int) (n_4:Int) (n_5:Int) (n_6:Int) (n_7:Int):AObj:=Sx.AObj.cells [V.d (D.v (.int .i64 n_2)),V.d (D.v (.int .i64 n_3)),V.d (D.v (.int .i64 n_4)),V.d (D.v (.int .i64 n_5)),V.d (D.v (.int .i64 n_6)),V.d (D.v (.int .i64 n_7))] (49:Nat)
@[reducible] def zUw (i:MmI) (i_1:Prd) (o:Unit) (i_3:Nat×MSt) (I_2:Sx.Ask→Prop) (n:Int) (n_1:Int) (n_2:Int) (n_3:Int) (n_4:Int) (n_5:Int):Prop:=∃(i_5:SmI),sb i_5.p.code=sb i_1.code∧iE i_5.p.months=iE i_1.months∧i_5.p.tick=i_1.tick∧i_5.p.low=i_1.low∧i_5.p.high=i_1.high∧i_5.p.wide=i_1.wide∧i_5.p.rule=i_1.rule∧i_5.p.top=i_1.top∧i_5.p.least=i_1.least∧i_5.p.part=i_1.part∧iE i_5.p.settle=iE i_1.settle∧i_5.x.kind=n∧i_5.x.inst=n_1∧i_5.x.side=n_2∧i_5.x.id=n_3∧i_5.x.price=n_4∧i_5.x.qty=n_5∧i_5.i=(↑i_3.fst:Int)∧(i_5.p.check=0∧(i_5.p.code.length≤1099511627776∧i_5.p.months.length≤1099511627776∧i_5.p.settle.length≤1099511627776)∧(((-9223372036854775808)≤i_5.x.kind∧i_5.x.kind≤9223372036854775807)∧((-9223372036854775808)≤i_5.x.inst∧i_5.x.inst≤9223372036854775807)∧((-9223372036854775808)≤i_5.x.side∧i_5.x.side≤9223372036854775807)∧((-9223372036854775808)≤i_5.x.id∧i_5.x.id≤9223372036854775807)∧((-9223372036854775808)≤i_5.x.price∧i_5.x.price≤9223372036854775807)∧(-9223372036854775808)≤i_5.x.qty∧i_5.x.qty≤9223372036854775807)∧0≤i_5.i∧i_5.i≤1000000)∧∀(o:Unit),True→∃(i':Sx.Ask),i'.kind=j3 i_5.x∧i'.inst=zD i_5.x.inst 0 ((↑i_5.p.count:Int)-1)∧i'.side=1+zD i_5.x.side 0 1∧(i'.id=if j3 i_5.x=1 then i_5.i else zD i_5.x.id 0 i_5.i)∧(i'.price=if(i_5.p.legs (zD i_5.x.inst 0 ((↑i_5.p.count:Int)-1))).snd.snd=true then i_5.p.tick*(zD i_5.x.price 0 (7:Int)-(4:Int))else i_5.p.tick*(zD i_5.x.price 0 (7:Int)+(8:Int)))∧i'.qty=1+zD i_5.x.qty 0 11∧I_2 i'∧zJ i_3.snd=zJ i_3.snd∧yJ i_1=yJ i_1∧AObj.fro 1 (iE i_1.months)=AObj.fro 1 (iE i_1.months)∧AObj.fro 1 (iE i_1.settle)=AObj.fro 1 (iE i_1.settle)∧yI i=yI i∧AObj.fro 1 (iE i.x.settle)=AObj.fro 1 (iE i.x.settle)∧AObj.fro 1 (iE i.x.months)=AObj.fro 1 (iE i.x.months)
def Vmr (i:MmI):Prop:=
 ∃(i0:Prd),∃(I:Prd→Prop),(∃(i_1:Prd),sb i_1.code=sb i.x.code∧iE i_1.months=iE i.x.months∧i_1.tick=i.x.tick∧i_1.low=i.x.low∧i_1.high=i.x.high∧i_1.wide=i.x.wide∧i_1.rule=i.x.rule∧i_1.top=i.x.top∧i_1.least=i.x.least∧i_1.part=i.x.part∧iE i_1.settle=iE i.x.settle∧(((-9223372036854775808)≤i_1.tick∧i_1.tick≤9223372036854775807)∧((-9223372036854775808)≤i_1.wide∧i_1.wide≤9223372036854775807)∧((-9223372036854775808)≤i_1.rule∧i_1.rule≤9223372036854775807)∧((-9223372036854775808)≤i_1.top∧i_1.top≤9223372036854775807)∧((-9223372036854775808)≤i_1.least∧i_1.least≤9223372036854775807)∧((-9223372036854775808)≤i_1.part∧i_1.part≤9223372036854775807)∧i_1.months.length≤9223372036854775807)∧∀(o:Unit),True→∃(i':Prd),sb i'.code=sb [(206:UInt8),(169:UInt8)]∧i'.tick=z9 i_1∧i'.low=(-20)*z9 i_1∧i'.high=100*z9 i_1∧i'.wide=z9 i_1*(5+zD i_1.wide 0 60)∧i'.rule=1+zD i_1.rule 0 2∧i'.top=zD i_1.top 0 9∧i'.least=1+zD i_1.least 0 4∧i'.part=zD i_1.part 0 100∧AObj.fro 1 (iE i'.months)=AObj.fro 1 (iE (qM (kN i_1).toNat))∧AObj.fro 1 (iE i'.settle)=AObj.fro 1 (iE (xV (z9 i_1) (kN i_1).toNat))∧I i'∧yI i=yI i∧AObj.fro 1 (iE i.x.settle)=AObj.fro 1 (iE i.x.settle)∧AObj.fro 1 (iE i.x.months)=AObj.fro 1 (iE i.x.months))∧∀(i_1:Prd),I i_1→∃(i_2:Prd),sb i_2.code=sb i_1.code∧iE i_2.months=iE i_1.months∧i_2.tick=i_1.tick∧i_2.low=i_1.low∧i_2.high=i_1.high∧i_2.wide=i_1.wide∧i_2.rule=i_1.rule∧i_2.top=i_1.top∧i_2.least=i_1.least∧i_2.part=i_1.part∧iE i_2.settle=iE i_1.settle∧(i_2.code.length≤1099511627776∧i_2.months.length≤1099511627776∧i_2.settle.length≤1099511627776)∧(∀(o:Unit),i_2.check=0→∃(i0:Nat×MSt),(↑i0.fst:Int)=0∧zJ i0.snd=zJ (gX i_2)∧∃(I:Nat×MSt→Prop),∃(μ:Nat×MSt→Nat),I i0∧∀(i_3:Nat×MSt),I i_3→∃(i0:Bool),∃(I_1:Bool→Prop),cnd (decide ((↑i_3.fst:Int)<(↑(List.map askE i.l).length:Int))) (∃(i':Bool),i'=decide ((↑i_3.fst:Int)<40)∧I_1 i'∧zJ i_3.snd=zJ i_3.snd∧yJ i_1=yJ i_1∧AObj.fro 1 (iE i_1.months)=AObj.fro 1 (iE i_1.months)∧AObj.fro 1 (iE i_1.settle)=AObj.fro 1 (iE i_1.settle)∧yI i=yI i∧AObj.fro 1 (iE i.x.settle)=AObj.fro 1 (iE i.x.settle)∧AObj.fro 1 (iE i.x.months)=AObj.fro 1 (iE i.x.months)) (∃(i':Bool),i'=false∧I_1 i'∧zJ i_3.snd=zJ i_3.snd∧yJ i_1=yJ i_1∧AObj.fro 1 (iE i_1.months)=AObj.fro 1 (iE i_1.months)∧AObj.fro 1 (iE i_1.settle)=AObj.fro 1 (iE i_1.settle)∧yI i=yI i∧AObj.fro 1 (iE i.x.settle)=AObj.fro 1 (iE i.x.settle)∧AObj.fro 1 (iE i.x.months)=AObj.fro 1 (iE i.x.months))∧∀(i_4:Bool),I_1 i_4→cnd i_4 (∃(i0:Sx.Ask),∃(I_2:Sx.Ask→Prop),((0≤(↑i_3.fst:Int)∧(↑i_3.fst:Int)<(↑(List.map askE i.l).length:Int))∧∃(n:Int),∃(n_1:Int),∃(n_2:Int),∃(n_3:Int),∃(n_4:Int),∃(n_5:Int),zI (List.map askE i.l) (↑i_3.fst:Int).toNat 0 6=some [D.v (.int .i64 n),D.v (.int .i64 n_1),D.v (.int .i64 n_2),D.v (.int .i64 n_3),D.v (.int .i64 n_4),D.v (.int .i64 n_5)]∧(zUw i i_1 o i_3 I_2 n n_1 n_2 n_3 n_4 n_5)∧True∧(sb i_1.code=sb i_1.code∧True∧i_1.tick=i_1.tick∧i_1.low=i_1.low∧i_1.high=i_1.high∧i_1.wide=i_1.wide∧i_1.rule=i_1.rule∧i_1.top=i_1.top∧i_1.least=i_1.least∧i_1.part=i_1.part∧True∧True)∧zUw i i_1 o i_3 I_2 n n_1 n_2 n_3 n_4 n_5)∧∀(i_5:Sx.Ask),I_2 i_5→∃(i_6:SaI),i_6.inst=i_5.inst∧i_6.id=i_5.id∧zB i_6.sd=i_5.side∧i_6.price=i_5.price∧i_6.qty=i_5.qty∧zJ i_6.s=zJ i_3.snd∧((i_6.s.p.code.length≤1099511627776∧i_6.s.p.months.length≤1099511627776∧i_6.s.p.settle.length≤1099511627776)∧i_6.s.books.length≤1000000∧∀(b:Book),b∈i_6.s.books→(b.a.slots.length≤1000000∧(b.a.free≠0→∃(s:Slot),s∈b.a.slots∧s.used=false)∧∀(q:qG),q∈b.a.queues→q.last=(-1)∨0≤q.last∧q.last<(↑b.a.slots.length:Int))∧b.a.queues.length≤100000∧b.buys.length≤100000∧b.sells.length≤100000∧b.spare.length≤100000)∧∀(o:Unit),True→∃(i':Nat×MSt),(↑i'.fst:Int)=IntKind.i64.wrap ((↑i_3.fst:Int)+1)∧zJ i'.snd=zJ (MSt.addF i_6).fst∧I i'∧μ i'<μ i_3∧yJ i_1=yJ i_1∧AObj.fro 1 (iE i_1.months)=AObj.fro 1 (iE i_1.months)∧AObj.fro 1 (iE i_1.settle)=AObj.fro 1 (iE i_1.settle)∧yI i=yI i∧AObj.fro 1 (iE i.x.settle)=AObj.fro 1 (iE i.x.settle)∧AObj.fro 1 (iE i.x.months)=AObj.fro 1 (iE i.x.months)) (∃(i0:Sx.Ask),∃(I:Sx.Ask→Prop),(∃(i_5:SmI),sb i_5.p.code=sb i_1.code∧iE i_5.p.months=iE i_1.months∧i_5.p.tick=i_1.tick∧i_5.p.low=i_1.low∧i_5.p.high=i_1.high∧i_5.p.wide=i_1.wide∧i_5.p.rule=i_1.rule∧i_5.p.top=i_1.top∧i_5.p.least=i_1.least∧i_5.p.part=i_1.part∧iE i_5.p.settle=iE i_1.settle∧i_5.x.kind=0∧i_5.x.inst=i.inst∧i_5.x.side=i.side∧i_5.x.id=0∧i_5.x.price=i.price∧i_5.x.qty=i.qty∧i_5.i=0∧(i_5.p.check=0∧(i_5.p.code.length≤1099511627776∧i_5.p.months.length≤1099511627776∧i_5.p.settle.length≤1099511627776)∧(((-9223372036854775808)≤i_5.x.kind∧i_5.x.kind≤9223372036854775807)∧((-9223372036854775808)≤i_5.x.inst∧i_5.x.inst≤9223372036854775807)∧((-9223372036854775808)≤i_5.x.side∧i_5.x.side≤9223372036854775807)∧((-9223372036854775808)≤i_5.x.id∧i_5.x.id≤9223372036854775807)∧((-9223372036854775808)≤i_5.x.price∧i_5.x.price≤9223372036854775807)∧(-9223372036854775808)≤i_5.x.qty∧i_5.x.qty≤9223372036854775807)∧0≤i_5.i∧i_5.i≤1000000)∧∀(o:Unit),True→∃(i':Sx.Ask),i'.kind=j3 i_5.x∧i'.inst=zD i_5.x.inst 0 ((↑i_5.p.count:Int)-1)∧i'.side=1+zD i_5.x.side 0 1∧(i'.id=if j3 i_5.x=1 then i_5.i else zD i_5.x.id 0 i_5.i)∧(i'.price=if(i_5.p.legs (zD i_5.x.inst 0 ((↑i_5.p.count:Int)-1))).snd.snd=true then i_5.p.tick*(zD i_5.x.price 0 (7:Int)-(4:Int))else i_5.p.tick*(zD i_5.x.price 0 (7:Int)+(8:Int)))∧i'.qty=1+zD i_5.x.qty 0 11∧I i'∧zJ i_3.snd=zJ i_3.snd∧yJ i_1=yJ i_1∧AObj.fro 1 (iE i_1.months)=AObj.fro 1 (iE i_1.months)∧AObj.fro 1 (iE i_1.settle)=AObj.fro 1 (iE i_1.settle)∧yI i=yI i∧AObj.fro 1 (iE i.x.settle)=AObj.fro 1 (iE i.x.settle)∧AObj.fro 1 (iE i.x.months)=AObj.fro 1 (iE i.x.months))∧∀(i_5:Sx.Ask),I i_5→∃(i0:Sx.Ask),i0.kind=i_5.kind∧i0.inst=i_5.inst∧i0.side=i_5.side∧i0.id=i_5.id∧i0.price=i_5.price∧i0.qty=i_5.qty∧∃(I:Sx.Ask→Prop),(∃(i':Sx.Ask),i'.kind=i0.kind∧i'.inst=i0.inst∧i'.side=i0.side∧i'.id=i0.id∧i'.price=i0.price∧i'.qty=IntKind.i64.wrap (i0.qty*4)∧I i'∧zJ i_3.snd=zJ i_3.snd∧yJ i_1=yJ i_1∧AObj.fro 1 (iE i_1.months)=AObj.fro 1 (iE i_1.months)∧AObj.fro 1 (iE i_1.settle)=AObj.fro 1 (iE i_1.settle)∧yI i=yI i∧AObj.fro 1 (iE i.x.settle)=AObj.fro 1 (iE i.x.settle)∧AObj.fro 1 (iE i.x.months)=AObj.fro 1 (iE i.x.months))∧∀(i_6:Sx.Ask),I i_6→∃(i_7:SoI),zJ i_7.s=zJ i_3.snd∧(i_7.s.Rep i_7.p i_7.B∧i_7.B.length≤1000)∧∀(o:Unit),True→∃(i_8:RunI),i_8.inst=i_6.inst∧zB i_8.sd=i_6.side∧i_8.price=i_6.price∧i_8.q=i_6.qty∧zJ i_8.s=zJ i_7.s∧(i_8.s.Rep i_8.p i_8.B∧BOk i_8.p i_8.B∧(0≤i_8.inst∧i_8.inst<(↑i_8.B.length:Int))∧1≤i_8.q∧i_8.q≤1000000)∧∀(o:Unit),True→∃(i_9:SoI),zJ i_9.s=zJ i_8.s∧(i_9.s.Rep i_9.p i_9.B∧i_9.B.length≤1000)∧∀(o:Unit),True→cnd ((↑(x9 i_9.B):Int) !=(↑(x9 i_7.B):Int)) (∃(o:Unit),true=false∧True) (∃(i_10:RunI),i_10.inst=i_6.inst∧zB i_10.sd=i_6.side∧i_10.price=i_6.price∧i_10.q=i_6.qty∧zJ i_10.s=zJ i_9.s∧(i_10.s.Rep i_10.p i_10.B∧BOk i_10.p i_10.B∧(0≤i_10.inst∧i_10.inst<(↑i_10.B.length:Int))∧1≤i_10.q∧i_10.q≤1000000)∧∀(o:MSt),o.Rep i_10.p i_10.r.B→∃(i0_1:Nat×Int),i0_1.snd=0∧(↑i0_1.fst:Int)=0∧∃(I:Nat×Int→Prop),∃(μ:Nat×Int→Nat),I i0_1∧∀(i_11:Nat×Int),I i_11→cnd (decide ((↑i_11.fst:Int)<(↑(List.map zY i_10.r.steps).length:Int))) ((0≤(↑i_11.fst:Int)∧(↑i_11.fst:Int)<(↑(List.map zY i_10.r.steps).length:Int))∧∃(n:Int),∃(n_1:Int),∃(b:Bool),∃(els:List (List D)),zI (List.map zY i_10.r.steps) (↑i_11.fst:Int).toNat 0 4=some [D.v (.int .i64 n),D.v (.int .i64 n_1),D.v (.bool b),D.ro 6 els]∧∃(i0_2:Bool),∃(I_2:Bool→Prop),cnd (decide (n_1<1)) (∃(i':Bool),i'=true∧I_2 i'∧AObj.fro 6 els=AObj.fro 6 els∧xC n n_1 b=xC n n_1 b∧zJ o=zJ o∧AObj.own 46 4 (List.map zY i_10.r.steps)=AObj.own 46 4 (List.map zY i_10.r.steps)∧yV i0 i_6=yV i0 i_6∧yJ i_1=yJ i_1∧AObj.fro 1 (iE i_1.months)=AObj.fro 1 (iE i_1.months)∧AObj.fro 1 (iE i_1.settle)=AObj.fro 1 (iE i_1.settle)∧yI i=yI i∧AObj.fro 1 (iE i.x.settle)=AObj.fro 1 (iE i.x.settle)∧AObj.fro 1 (iE i.x.months)=AObj.fro 1 (iE i.x.months)) (cnd (i_6.side==1) (cnd (decide (n>i_6.price)) (∃(i':Bool),i'=true∧I_2 i'∧AObj.fro 6 els=AObj.fro 6 els∧xC n n_1 b=xC n n_1 b∧zJ o=zJ o∧AObj.own 46 4 (List.map zY i_10.r.steps)=AObj.own 46 4 (List.map zY i_10.r.steps)∧yV i0 i_6=yV i0 i_6∧yJ i_1=yJ i_1∧AObj.fro 1 (iE i_1.months)=AObj.fro 1 (iE i_1.months)∧AObj.fro 1 (iE i_1.settle)=AObj.fro 1 (iE i_1.settle)∧yI i=yI i∧AObj.fro 1 (iE i.x.settle)=AObj.fro 1 (iE i.x.settle)∧AObj.fro 1 (iE i.x.months)=AObj.fro 1 (iE i.x.months)) (cnd (!i_6.side==1) (∃(i':Bool),i'=decide (n<i_6.price)∧I_2 i'∧AObj.fro 6 els=AObj.fro 6 els∧xC n n_1 b=xC n n_1 b∧zJ o=zJ o∧AObj.own 46 4 (List.map zY i_10.r.steps)=AObj.own 46 4 (List.map zY i_10.r.steps)∧yV i0 i_6=yV i0 i_6∧yJ i_1=yJ i_1∧AObj.fro 1 (iE i_1.months)=AObj.fro 1 (iE i_1.months)∧AObj.fro 1 (iE i_1.settle)=AObj.fro 1 (iE i_1.settle)∧yI i=yI i∧AObj.fro 1 (iE i.x.settle)=AObj.fro 1 (iE i.x.settle)∧AObj.fro 1 (iE i.x.months)=AObj.fro 1 (iE i.x.months)) (∃(i':Bool),i'=false∧I_2 i'∧AObj.fro 6 els=AObj.fro 6 els∧xC n n_1 b=xC n n_1 b∧zJ o=zJ o∧AObj.own 46 4 (List.map zY i_10.r.steps)=AObj.own 46 4 (List.map zY i_10.r.steps)∧yV i0 i_6=yV i0 i_6∧yJ i_1=yJ i_1∧AObj.fro 1 (iE i_1.months)=AObj.fro 1 (iE i_1.months)∧AObj.fro 1 (iE i_1.settle)=AObj.fro 1 (iE i_1.settle)∧yI i=yI i∧AObj.fro 1 (iE i.x.settle)=AObj.fro 1 (iE i.x.settle)∧AObj.fro 1 (iE i.x.months)=AObj.fro 1 (iE i.x.months)))) (cnd (!i_6.side==1) (∃(i':Bool),i'=decide (n<i_6.price)∧I_2 i'∧AObj.fro 6 els=AObj.fro 6 els∧xC n n_1 b=xC n n_1 b∧zJ o=zJ o∧AObj.own 46 4 (List.map zY i_10.r.steps)=AObj.own 46 4 (List.map zY i_10.r.steps)∧yV i0 i_6=yV i0 i_6∧yJ i_1=yJ i_1∧AObj.fro 1 (iE i_1.months)=AObj.fro 1 (iE i_1.months)∧AObj.fro 1 (iE i_1.settle)=AObj.fro 1 (iE i_1.settle)∧yI i=yI i∧AObj.fro 1 (iE i.x.settle)=AObj.fro 1 (iE i.x.settle)∧AObj.fro 1 (iE i.x.months)=AObj.fro 1 (iE i.x.months)) (∃(i':Bool),i'=false∧I_2 i'∧AObj.fro 6 els=AObj.fro 6 els∧xC n n_1 b=xC n n_1 b∧zJ o=zJ o∧AObj.own 46 4 (List.map zY i_10.r.steps)=AObj.own 46 4 (List.map zY i_10.r.steps)∧yV i0 i_6=yV i0 i_6∧yJ i_1=yJ i_1∧AObj.fro 1 (iE i_1.months)=AObj.fro 1 (iE i_1.months)∧AObj.fro 1 (iE i_1.settle)=AObj.fro 1 (iE i_1.settle)∧yI i=yI i∧AObj.fro 1 (iE i.x.settle)=AObj.fro 1 (iE i.x.settle)∧AObj.fro 1 (iE i.x.months)=AObj.fro 1 (iE i.x.months))))∧∀(i_12:Bool),I_2 i_12→cnd i_12 (∃(o:Unit),true=false∧True) (∃(i0_3:Nat×List Int),(↑i0_3.fst:Int)=0∧List.map V.d (iD i0_3.snd)=(Sx.V.agg [V.d (D.v (.int .i64 0)),V.d (D.v (.int .i64 0)),V.d (D.v (.int .i64 0)),V.d (D.v (.int .i64 0)),V.d (D.v (.int .i64 0)),V.d (D.v (.int .i64 0)),V.d (D.v (.int .i64 0)),V.d (D.v (.int .i64 0)),V.d (D.v (.int .i64 0)),V.d (D.v (.int .i64 0)),V.d (D.v (.int .i64 0)),V.d (D.v (.int .i64 0)),V.d (D.v (.int .i64 0)),V.d (D.v (.int .i64 0)),V.d (D.v (.int .i64 0)),V.d (D.v (.int .i64 0)),V.d (D.v (.int .i64 0)),V.d (D.v (.int .i64 0)),V.d (D.v (.int .i64 0)),V.d (D.v (.int .i64 0)),V.d (D.v (.int .i64 0)),V.d (D.v (.int .i64 0)),V.d (D.v (.int .i64 0)),V.d (D.v (.int .i64 0)),V.d (D.v (.int .i64 0)),V.d (D.v (.int .i64 0)),V.d (D.v (.int .i64 0)),V.d (D.v (.int .i64 0)),V.d (D.v (.int .i64 0)),V.d (D.v (.int .i64 0)),V.d (D.v (.int .i64 0)),V.d (D.v (.int .i64 0))]).cl∧∃(I_3:Nat×List Int→Prop),∃(μ_1:Nat×List Int→Nat),I_3 i0_3∧∀(i_13:Nat×List Int),I_3 i_13→cnd (decide ((↑i_13.fst:Int)<(↑els.length:Int))) ((0≤(↑i_13.fst:Int)∧(↑i_13.fst:Int)<(↑els.length:Int))∧∃(n_2:Int),∃(n_3:Int),∃(n_4:Int),∃(n_5:Int),∃(n_6:Int),∃(n_7:Int),zI els (↑i_13.fst:Int).toNat 0 6=some [D.v (.int .i64 n_2),D.v (.int .i64 n_3),D.v (.int .i64 n_4),D.v (.int .i64 n_5),D.v (.int .i64 n_6),D.v (.int .i64 n_7)]∧∃(i0_4:Bool),∃(I:Bool→Prop),cnd (decide (n_3<0)) (∃(i':Bool),i'=true∧I i'∧vB n_2 n_3 n_4 n_5 n_6 n_7=vB n_2 n_3 n_4 n_5 n_6 n_7∧AObj.vec (iD i_13.snd) (47:TypeId)=AObj.vec (iD i_13.snd) (47:TypeId)∧AObj.fro 6 els=AObj.fro 6 els∧xC n n_1 b=xC n n_1 b∧zJ o=zJ o∧AObj.own 46 4 (List.map zY i_10.r.steps)=AObj.own 46 4 (List.map zY i_10.r.steps)∧yV i0 i_6=yV i0 i_6∧yJ i_1=yJ i_1∧AObj.fro 1 (iE i_1.months)=AObj.fro 1 (iE i_1.months)∧AObj.fro 1 (iE i_1.settle)=AObj.fro 1 (iE i_1.settle)∧yI i=yI i∧AObj.fro 1 (iE i.x.settle)=AObj.fro 1 (iE i.x.settle)∧AObj.fro 1 (iE i.x.months)=AObj.fro 1 (iE i.x.months)) (cnd (decide (n_3≥32)) (∃(i':Bool),i'=true∧I i'∧vB n_2 n_3 n_4 n_5 n_6 n_7=vB n_2 n_3 n_4 n_5 n_6 n_7∧AObj.vec (iD i_13.snd) (47:TypeId)=AObj.vec (iD i_13.snd) (47:TypeId)∧AObj.fro 6 els=AObj.fro 6 els∧xC n n_1 b=xC n n_1 b∧zJ o=zJ o∧AObj.own 46 4 (List.map zY i_10.r.steps)=AObj.own 46 4 (List.map zY i_10.r.steps)∧yV i0 i_6=yV i0 i_6∧yJ i_1=yJ i_1∧AObj.fro 1 (iE i_1.months)=AObj.fro 1 (iE i_1.months)∧AObj.fro 1 (iE i_1.settle)=AObj.fro 1 (iE i_1.settle)∧yI i=yI i∧AObj.fro 1 (iE i.x.settle)=AObj.fro 1 (iE i.x.settle)∧AObj.fro 1 (iE i.x.months)=AObj.fro 1 (iE i.x.months)) (cnd (decide (n_6<1)) (∃(i':Bool),i'=true∧I i'∧vB n_2 n_3 n_4 n_5 n_6 n_7=vB n_2 n_3 n_4 n_5 n_6 n_7∧AObj.vec (iD i_13.snd) (47:TypeId)=AObj.vec (iD i_13.snd) (47:TypeId)∧AObj.fro 6 els=AObj.fro 6 els∧xC n n_1 b=xC n n_1 b∧zJ o=zJ o∧AObj.own 46 4 (List.map zY i_10.r.steps)=AObj.own 46 4 (List.map zY i_10.r.steps)∧yV i0 i_6=yV i0 i_6∧yJ i_1=yJ i_1∧AObj.fro 1 (iE i_1.months)=AObj.fro 1 (iE i_1.months)∧AObj.fro 1 (iE i_1.settle)=AObj.fro 1 (iE i_1.settle)∧yI i=yI i∧AObj.fro 1 (iE i.x.settle)=AObj.fro 1 (iE i.x.settle)∧AObj.fro 1 (iE i.x.months)=AObj.fro 1 (iE i.x.months)) (cnd (decide (n_7<0)) (∃(i':Bool),i'=true∧I i'∧vB n_2 n_3 n_4 n_5 n_6 n_7=vB n_2 n_3 n_4 n_5 n_6 n_7∧AObj.vec (iD i_13.snd) (47:TypeId)=AObj.vec (iD i_13.snd) (47:TypeId)∧AObj.fro 6 els=AObj.fro 6 els∧xC n n_1 b=xC n n_1 b∧zJ o=zJ o∧AObj.own 46 4 (List.map zY i_10.r.steps)=AObj.own 46 4 (List.map zY i_10.r.steps)∧yV i0 i_6=yV i0 i_6∧yJ i_1=yJ i_1∧AObj.fro 1 (iE i_1.months)=AObj.fro 1 (iE i_1.months)∧AObj.fro 1 (iE i_1.settle)=AObj.fro 1 (iE i_1.settle)∧yI i=yI i∧AObj.fro 1 (iE i.x.settle)=AObj.fro 1 (iE i.x.settle)∧AObj.fro 1 (iE i.x.months)=AObj.fro 1 (iE i.x.months)) (cnd (!b) (cnd (n_5 !=n) (∃(i':Bool),i'=true∧I i'∧vB n_2 n_3 n_4 n_5 n_6 n_7=vB n_2 n_3 n_4 n_5 n_6 n_7∧AObj.vec (iD i_13.snd) (47:TypeId)=AObj.vec (iD i_13.snd) (47:TypeId)∧AObj.fro 6 els=AObj.fro 6 els∧xC n n_1 b=xC n n_1 b∧zJ o=zJ o∧AObj.own 46 4 (List.map zY i_10.r.steps)=AObj.own 46 4 (List.map zY i_10.r.steps)∧yV i0 i_6=yV i0 i_6∧yJ i_1=yJ i_1∧AObj.fro 1 (iE i_1.months)=AObj.fro 1 (iE i_1.months)∧AObj.fro 1 (iE i_1.settle)=AObj.fro 1 (iE i_1.settle)∧yI i=yI i∧AObj.fro 1 (iE i.x.settle)=AObj.fro 1 (iE i.x.settle)∧AObj.fro 1 (iE i.x.months)=AObj.fro 1 (iE i.x.months)) (cnd (n_3 !=i_6.inst) (∃(i':Bool),i'=true∧I i'∧vB n_2 n_3 n_4 n_5 n_6 n_7=vB n_2 n_3 n_4 n_5 n_6 n_7∧AObj.vec (iD i_13.snd) (47:TypeId)=AObj.vec (iD i_13.snd) (47:TypeId)∧AObj.fro 6 els=AObj.fro 6 els∧xC n n_1 b=xC n n_1 b∧zJ o=zJ o∧AObj.own 46 4 (List.map zY i_10.r.steps)=AObj.own 46 4 (List.map zY i_10.r.steps)∧yV i0 i_6=yV i0 i_6∧yJ i_1=yJ i_1∧AObj.fro 1 (iE i_1.months)=AObj.fro 1 (iE i_1.months)∧AObj.fro 1 (iE i_1.settle)=AObj.fro 1 (iE i_1.settle)∧yI i=yI i∧AObj.fro 1 (iE i.x.settle)=AObj.fro 1 (iE i.x.settle)∧AObj.fro 1 (iE i.x.months)=AObj.fro 1 (iE i.x.months)) (∃(i':Bool),i'=(n_4==i_6.side)∧I i'∧vB n_2 n_3 n_4 n_5 n_6 n_7=vB n_2 n_3 n_4 n_5 n_6 n_7∧AObj.vec (iD i_13.snd) (47:TypeId)=AObj.vec (iD i_13.snd) (47:TypeId)∧AObj.fro 6 els=AObj.fro 6 els∧xC n n_1 b=xC n n_1 b∧zJ o=zJ o∧AObj.own 46 4 (List.map zY i_10.r.steps)=AObj.own 46 4 (List.map zY i_10.r.steps)∧yV i0 i_6=yV i0 i_6∧yJ i_1=yJ i_1∧AObj.fro 1 (iE i_1.months)=AObj.fro 1 (iE i_1.months)∧AObj.fro 1 (iE i_1.settle)=AObj.fro 1 (iE i_1.settle)∧yI i=yI i∧AObj.fro 1 (iE i.x.settle)=AObj.fro 1 (iE i.x.settle)∧AObj.fro 1 (iE i.x.months)=AObj.fro 1 (iE i.x.months)))) (∃(i':Bool),i'=false∧I i'∧vB n_2 n_3 n_4 n_5 n_6 n_7=vB n_2 n_3 n_4 n_5 n_6 n_7∧AObj.vec (iD i_13.snd) (47:TypeId)=AObj.vec (iD i_13.snd) (47:TypeId)∧AObj.fro 6 els=AObj.fro 6 els∧xC n n_1 b=xC n n_1 b∧zJ o=zJ o∧AObj.own 46 4 (List.map zY i_10.r.steps)=AObj.own 46 4 (List.map zY i_10.r.steps)∧yV i0 i_6=yV i0 i_6∧yJ i_1=yJ i_1∧AObj.fro 1 (iE i_1.months)=AObj.fro 1 (iE i_1.months)∧AObj.fro 1 (iE i_1.settle)=AObj.fro 1 (iE i_1.settle)∧yI i=yI i∧AObj.fro 1 (iE i.x.settle)=AObj.fro 1 (iE i.x.settle)∧AObj.fro 1 (iE i.x.months)=AObj.fro 1 (iE i.x.months))))))∧∀(i_14:Bool),I i_14→cnd i_14 (∃(o:Unit),true=false∧True) ((0≤n_3∧n_3<(↑(32:Nat):Int))∧∃(n_8:Int),(List.drop 0 (iD i_13.snd))[n_3.toNat]?=some (D.v (.int .i64 n_8))∧(0≤n_3∧n_3<(↑(32:Nat):Int))∧n_3.toNat<(List.drop 0 (iD i_13.snd)).length∧∃(i':Nat×List Int),(↑i'.fst:Int)=IntKind.i64.wrap ((↑i_13.fst:Int)+1)∧AObj.vec (iD i'.snd) (47:TypeId)=AObj.vec ([]++(List.drop 0 (iD i_13.snd)).set n_3.toNat (D.v (.int .i64 (IntKind.i64.wrap (n_8+n_6))))) (47:TypeId)∧I_3 i'∧μ_1 i'<μ_1 i_13∧AObj.fro 6 els=AObj.fro 6 els∧xC n n_1 b=xC n n_1 b∧zJ o=zJ o∧AObj.own 46 4 (List.map zY i_10.r.steps)=AObj.own 46 4 (List.map zY i_10.r.steps)∧yV i0 i_6=yV i0 i_6∧yJ i_1=yJ i_1∧AObj.fro 1 (iE i_1.months)=AObj.fro 1 (iE i_1.months)∧AObj.fro 1 (iE i_1.settle)=AObj.fro 1 (iE i_1.settle)∧yI i=yI i∧AObj.fro 1 (iE i.x.settle)=AObj.fro 1 (iE i.x.settle)∧AObj.fro 1 (iE i.x.months)=AObj.fro 1 (iE i.x.months))) (∃(i0_4:Int),∃(I_4:Int→Prop),cnd b (∃(i':Int),i'=2∧I_4 i'∧AObj.vec (iD i_13.snd) (47:TypeId)=AObj.vec (iD i_13.snd) (47:TypeId)∧AObj.fro 6 els=AObj.fro 6 els∧xC n n_1 b=xC n n_1 b∧zJ o=zJ o∧AObj.own 46 4 (List.map zY i_10.r.steps)=AObj.own 46 4 (List.map zY i_10.r.steps)∧yV i0 i_6=yV i0 i_6∧yJ i_1=yJ i_1∧AObj.fro 1 (iE i_1.months)=AObj.fro 1 (iE i_1.months)∧AObj.fro 1 (iE i_1.settle)=AObj.fro 1 (iE i_1.settle)∧yI i=yI i∧AObj.fro 1 (iE i.x.settle)=AObj.fro 1 (iE i.x.settle)∧AObj.fro 1 (iE i.x.months)=AObj.fro 1 (iE i.x.months)) (∃(i':Int),i'=1∧I_4 i'∧AObj.vec (iD i_13.snd) (47:TypeId)=AObj.vec (iD i_13.snd) (47:TypeId)∧AObj.fro 6 els=AObj.fro 6 els∧xC n n_1 b=xC n n_1 b∧zJ o=zJ o∧AObj.own 46 4 (List.map zY i_10.r.steps)=AObj.own 46 4 (List.map zY i_10.r.steps)∧yV i0 i_6=yV i0 i_6∧yJ i_1=yJ i_1∧AObj.fro 1 (iE i_1.months)=AObj.fro 1 (iE i_1.months)∧AObj.fro 1 (iE i_1.settle)=AObj.fro 1 (iE i_1.settle)∧yI i=yI i∧AObj.fro 1 (iE i.x.settle)=AObj.fro 1 (iE i.x.settle)∧AObj.fro 1 (iE i.x.months)=AObj.fro 1 (iE i.x.months))∧∀(i_14:Int),I_4 i_14→∃(i0_5:Nat×Int),i0_5.snd=i_14∧(↑i0_5.fst:Int)=0∧∃(I_5:Nat×Int→Prop),∃(μ_2:Nat×Int→Nat),I_5 i0_5∧∀(i_15:Nat×Int),I_5 i_15→cnd (decide ((↑i_15.fst:Int)<32)) (∃(i0_6:Int),∃(I:Int→Prop),((0≤(↑i_15.fst:Int)∧(↑i_15.fst:Int)<(↑(32:Nat):Int))∧∃(n_2:Int),(List.drop 0 (iD i_13.snd))[(↑i_15.fst:Int).toNat]?=some (D.v (.int .i64 n_2))∧cnd (n_2 !=0) ((0≤(↑i_15.fst:Int)∧(↑i_15.fst:Int)<(↑(32:Nat):Int))∧∃(n_3:Int),(List.drop 0 (iD i_13.snd))[(↑i_15.fst:Int).toNat]?=some (D.v (.int .i64 n_3))∧cnd (n_3 !=n_1) (∃(o:Unit),true=false∧True) (∃(i':Int),i'=IntKind.i64.wrap (i_15.snd-1)∧I i'∧AObj.vec (iD i_13.snd) (47:TypeId)=AObj.vec (iD i_13.snd) (47:TypeId)∧AObj.fro 6 els=AObj.fro 6 els∧xC n n_1 b=xC n n_1 b∧zJ o=zJ o∧AObj.own 46 4 (List.map zY i_10.r.steps)=AObj.own 46 4 (List.map zY i_10.r.steps)∧yV i0 i_6=yV i0 i_6∧yJ i_1=yJ i_1∧AObj.fro 1 (iE i_1.months)=AObj.fro 1 (iE i_1.months)∧AObj.fro 1 (iE i_1.settle)=AObj.fro 1 (iE i_1.settle)∧yI i=yI i∧AObj.fro 1 (iE i.x.settle)=AObj.fro 1 (iE i.x.settle)∧AObj.fro 1 (iE i.x.months)=AObj.fro 1 (iE i.x.months))) (∃(i':Int),i'=i_15.snd∧I i'∧AObj.vec (iD i_13.snd) (47:TypeId)=AObj.vec (iD i_13.snd) (47:TypeId)∧AObj.fro 6 els=AObj.fro 6 els∧xC n n_1 b=xC n n_1 b∧zJ o=zJ o∧AObj.own 46 4 (List.map zY i_10.r.steps)=AObj.own 46 4 (List.map zY i_10.r.steps)∧yV i0 i_6=yV i0 i_6∧yJ i_1=yJ i_1∧AObj.fro 1 (iE i_1.months)=AObj.fro 1 (iE i_1.months)∧AObj.fro 1 (iE i_1.settle)=AObj.fro 1 (iE i_1.settle)∧yI i=yI i∧AObj.fro 1 (iE i.x.settle)=AObj.fro 1 (iE i.x.settle)∧AObj.fro 1 (iE i.x.months)=AObj.fro 1 (iE i.x.months)))∧∀(i_16:Int),I i_16→∃(i':Nat×Int),i'.snd=i_16∧(↑i'.fst:Int)=IntKind.i64.wrap ((↑i_15.fst:Int)+1)∧I_5 i'∧μ_2 i'<μ_2 i_15∧AObj.vec (iD i_13.snd) (47:TypeId)=AObj.vec (iD i_13.snd) (47:TypeId)∧AObj.fro 6 els=AObj.fro 6 els∧xC n n_1 b=xC n n_1 b∧zJ o=zJ o∧AObj.own 46 4 (List.map zY i_10.r.steps)=AObj.own 46 4 (List.map zY i_10.r.steps)∧yV i0 i_6=yV i0 i_6∧yJ i_1=yJ i_1∧AObj.fro 1 (iE i_1.months)=AObj.fro 1 (iE i_1.months)∧AObj.fro 1 (iE i_1.settle)=AObj.fro 1 (iE i_1.settle)∧yI i=yI i∧AObj.fro 1 (iE i.x.settle)=AObj.fro 1 (iE i.x.settle)∧AObj.fro 1 (iE i.x.months)=AObj.fro 1 (iE i.x.months)) (cnd (i_15.snd !=0) (∃(o:Unit),true=false∧True) (∃(i':Nat×Int),i'.snd=IntKind.i64.wrap (i_11.snd+n_1)∧(↑i'.fst:Int)=IntKind.i64.wrap ((↑i_11.fst:Int)+1)∧I i'∧μ i'<μ i_11∧zJ o=zJ o∧AObj.own 46 4 (List.map zY i_10.r.steps)=AObj.own 46 4 (List.map zY i_10.r.steps)∧yV i0 i_6=yV i0 i_6∧yJ i_1=yJ i_1∧AObj.fro 1 (iE i_1.months)=AObj.fro 1 (iE i_1.months)∧AObj.fro 1 (iE i_1.settle)=AObj.fro 1 (iE i_1.settle)∧yI i=yI i∧AObj.fro 1 (iE i.x.settle)=AObj.fro 1 (iE i.x.settle)∧AObj.fro 1 (iE i.x.months)=AObj.fro 1 (iE i.x.months)))))) (∃(i0_2:Bool),∃(I:Bool→Prop),cnd (i_11.snd !=gZ i_8.p i_8.B i_8.inst i_8.sd i_8.price i_8.q) (∃(i':Bool),i'=true∧I i'∧zJ o=zJ o∧AObj.own 46 4 (List.map zY i_10.r.steps)=AObj.own 46 4 (List.map zY i_10.r.steps)∧yV i0 i_6=yV i0 i_6∧yJ i_1=yJ i_1∧AObj.fro 1 (iE i_1.months)=AObj.fro 1 (iE i_1.months)∧AObj.fro 1 (iE i_1.settle)=AObj.fro 1 (iE i_1.settle)∧yI i=yI i∧AObj.fro 1 (iE i.x.settle)=AObj.fro 1 (iE i.x.settle)∧AObj.fro 1 (iE i.x.months)=AObj.fro 1 (iE i.x.months)) (cnd (i_10.r.left !=IntKind.i64.wrap (i_6.qty-i_11.snd)) (∃(i':Bool),i'=true∧I i'∧zJ o=zJ o∧AObj.own 46 4 (List.map zY i_10.r.steps)=AObj.own 46 4 (List.map zY i_10.r.steps)∧yV i0 i_6=yV i0 i_6∧yJ i_1=yJ i_1∧AObj.fro 1 (iE i_1.months)=AObj.fro 1 (iE i_1.months)∧AObj.fro 1 (iE i_1.settle)=AObj.fro 1 (iE i_1.settle)∧yI i=yI i∧AObj.fro 1 (iE i.x.settle)=AObj.fro 1 (iE i.x.settle)∧AObj.fro 1 (iE i.x.months)=AObj.fro 1 (iE i.x.months)) (∃(i_12:SoI),zJ i_12.s=zJ o∧(i_12.s.Rep i_12.p i_12.B∧i_12.B.length≤1000)∧∀(o_1:Unit),True→∃(i':Bool),i'=decide ((↑(List.map zY i_10.r.steps).length:Int)>IntKind.i64.wrap (IntKind.i64.wrap ((↑(x9 i_7.B):Int)-(↑(x9 i_12.B):Int))+1))∧I i'∧zJ i_12.s=zJ o∧AObj.own 46 4 (List.map zY i_10.r.steps)=AObj.own 46 4 (List.map zY i_10.r.steps)∧yV i0 i_6=yV i0 i_6∧yJ i_1=yJ i_1∧AObj.fro 1 (iE i_1.months)=AObj.fro 1 (iE i_1.months)∧AObj.fro 1 (iE i_1.settle)=AObj.fro 1 (iE i_1.settle)∧yI i=yI i∧AObj.fro 1 (iE i.x.settle)=AObj.fro 1 (iE i.x.settle)∧AObj.fro 1 (iE i.x.months)=AObj.fro 1 (iE i.x.months)))∧∀(i:Bool),I i→cnd i (∃(o:Unit),true=false∧True) (∃(i:RunI),i.inst=i_6.inst∧zB i.sd=i_6.side∧i.price=i_6.price∧i.q=1∧zJ i.s=zJ o∧(i.s.Rep i.p i.B∧BOk i.p i.B∧(0≤i.inst∧i.inst<(↑i.B.length:Int))∧1≤i.q∧i.q≤1000000)∧∀(o:MSt),o.Rep i.p i.r.B→cnd (i_10.r.left==0) (∃(i:Unit),True∧∀(o:Unit),True→∃(o:Unit),true=true∧True) (cnd ((↑(List.map zY i.r.steps).length:Int)==0) (cnd (i.r.left==1) (∃(i:Unit),True∧∀(o:Unit),True→∃(o:Unit),true=true∧True) (∃(o:Unit),true=false∧True)) (∃(o:Unit),true=false∧True)))))))∧∀(o:Unit),i_2.check≠0→∃(o:Unit),true=false∧True
theorem eqmr (i:MmI):Vmr i=walk Tryz.prog ([(8,kprodC),(9,newSC),(11,smallC),(12,saddC),(16,scountC),(10,coulC),(14,runC),(15,known16C)]) 0 (mrJ) (mrA i) [] Tryz.f4 (Tryz.f4.body.getD .skip) (mrC.pat i) (mrC.pre i) (mrC.alts i):=by kernel_rfl
open Go Cv Go.Proofs
@[reducible] def eG (i:RunI):Prop:=∃(i_1:MSt),sb i_1.p.code=sb i.s.p.code∧i_1.p.tick=i.s.p.tick∧i_1.p.low=i.s.p.low∧i_1.p.high=i.s.p.high∧i_1.p.wide=i.s.p.wide∧i_1.p.rule=i.s.p.rule∧i_1.p.top=i.s.p.top∧i_1.p.least=i.s.p.least∧i_1.p.part=i.s.p.part∧AObj.objs 64 Book 6 zN i_1.books none=AObj.objs 64 Book 6 zN i.s.books none∧yE i_1.wh=yE i.s.wh∧AObj.fro 1 (iE i_1.p.months)=AObj.fro 1 (iE i.s.p.months)∧AObj.fro 1 (iE i_1.p.settle)=AObj.fro 1 (iE i.s.p.settle)∧(i_1.books.length≤1000000∧∀(b:Book),b∈i_1.books→(b.a.slots.length≤1000000∧b.a.queues.length≤1000000)∧b.buys.length≤1000000∧b.sells.length≤1000000∧b.spare.length≤1000000)∧∀(o:Unit),True→∃(i_2:RunI),i_2.inst=i.inst∧zB i_2.sd=zB i.sd∧i_2.price=i.price∧i_2.q=i.q∧zJ i_2.s=zJ i_1∧(i_2.s.Rep i_2.p i_2.B∧BOk i_2.p i_2.B∧(0≤i_2.inst∧i_2.inst<(↑i_2.B.length:Int))∧1≤i_2.q∧i_2.q≤1000000)∧∀(o:MSt),o.Rep i_2.p i_2.r.B→∃(o:Unit),gZ i.p i.B i.inst i.sd i.price i.q=IntKind.i64.wrap (i.q-i_2.r.left)∧zJ i.s=zJ i_1∧True
@[reducible] def wU (i:RunI):Prop:=∃(o:Unit),gZ i.p i.B i.inst i.sd i.price i.q=0∧sb i.s.p.code=sb i.s.p.code∧i.s.p.tick=i.s.p.tick∧i.s.p.low=i.s.p.low∧i.s.p.high=i.s.p.high∧i.s.p.wide=i.s.p.wide∧i.s.p.rule=i.s.p.rule∧i.s.p.top=i.s.p.top∧i.s.p.least=i.s.p.least∧i.s.p.part=i.s.p.part∧AObj.objs 64 Book 6 zN i.s.books none=AObj.objs 64 Book 6 zN i.s.books none∧yE i.s.wh=yE i.s.wh∧AObj.fro 1 (iE i.s.p.months)=AObj.fro 1 (iE i.s.p.months)∧AObj.fro 1 (iE i.s.p.settle)=AObj.fro 1 (iE i.s.p.settle)∧True
def zJy (i:RunI):Prop:=
 cnd (decide (i.inst≥0)) (cnd (decide (i.inst<(↑i.s.books.length:Int))) (cnd (zB i.sd==1) (cnd (decide (i.q≥1)) (cnd (!decide (i.q≤1000000)) (wU i) (eG i)) (wU i)) (cnd (zB i.sd==2) (cnd (decide (i.q≥1)) (cnd (!decide (i.q≤1000000)) (wU i) (eG i)) (wU i)) (wU i))) (wU i)) (wU i)
theorem zZa (hG:GOk Tryz.prog ([(25,copySC),(14,runC)])) (h:∀(i:RunI),coulC.cnd i→zJy i):coulC.ok Tryz.prog 10:=okw mixed hG 2 (fun _=>[]) (fun _=>[]) [0] Tryz.func10 h
open Go Cv Go.Proofs
open Go Cv Go.Proofs
theorem zOy (t:SmI):1≤(wZ t).qty∧(wZ t).qty≤12:=by
 have w11:=yY (n:=t.x.qty) (lo:=0) (hi:=11) (by omega)
 show 1≤1+zD t.x.qty 0 11∧1+zD t.x.qty 0 11≤12
 omega
theorem zKp {p:Prd} (hc:p.check=0) (x:Ask) (i:Int):0≤(wZ ⟨p,x,i⟩).inst∧(wZ ⟨p,x,i⟩).inst<p.count:=by
 have hcb:=aN hc
 have wi:=yY (n:=x.inst) (lo:=0) (hi:=(p.count:Int)-1) (by omega)
 show 0≤zD x.inst 0 ((p.count:Int)-1)∧zD x.inst 0 ((p.count:Int)-1)<p.count
 omega
theorem z9j {l:List kU} {k:Nat} {f:kU} (h:l[k]? =some f):zI (l.map xY) k 0 6=some [D.v (.int .i64 f.id),.v (.int .i64 f.inst),.v (.int .i64 f.side),.v (.int .i64 f.price),.v (.int .i64 f.qty),.v (.int .i64 f.left)]:=elA h (by simp[xY]) rfl
open Go Cv Go.Proofs
theorem MSt.Rep.small {s:MSt} {p:Prd} {B:List (List zH)} (h:s.Rep p B) (hb:BOk p B):s.small:=by
 have:=jQ p
 refine⟨by rw[h.bl,hb.bl];omega,fun b hm=> ?_⟩
 obtain⟨k,hk⟩:=List.mem_iff_getElem?.1 hm
 have hlt:=(List.getElem?_eq_some_iff.1 hk).1
 rw[h.bl]at hlt
 obtain⟨L,hL⟩:=z8 hlt
 obtain⟨Q,c,_⟩:=h.bk k b L hk hL
 exact c.small
theorem z3s (i:RunI) (h:coulC.cnd i):zJy i:=by
 have h':i.s.Rep i.p i.B∧BOk i.p i.B∧(0≤i.inst∧i.inst<i.B.length)∧1≤i.q∧i.q≤1000000:=h
 obtain⟨hR,hB,⟨h0,h1⟩,hq1,hq2⟩:=h'
 have hbl:=hR.bl
 have hl:=(BWf.run (inst:=i.inst) (sd:=i.sd) (price:=i.price) _ i.q i.B (Nat.le_refl _) (hR.wf hB) ⟨h0,h1⟩).2.2.2.1 (by omega)
 unfold zJy eG wU
 refine(fun hT=>zT (fun c=>zT (fun c2=>Cv.cnd.mk (fun _=>zT (fun _=>Cv.cnd.mk (fun e=>absurd hq2 (by simpa using e)) (fun _=>hT)) (fun e=>absurd hq1 e)) (fun e1=>Cv.cnd.mk (fun _=>zT (fun _=>Cv.cnd.mk (fun e=>absurd hq2 (by simpa using e)) (fun _=>hT)) (fun e=>absurd hq1 e)) (fun e2=>by
  rcases hJ i.sd with e|e
  ·rw[e]at e1;cases e1
  ·rw[e]at e2;cases e2))) (fun c2=>absurd (by omega) c2)) (fun c=>absurd h0 c)) ?_
 refine⟨i.s,rfl,rfl,rfl,rfl,rfl,rfl,rfl,rfl,rfl,rfl,rfl,rfl,rfl,hR.small hB,fun _ _=>⟨i,rfl,rfl,rfl,rfl,rfl,h,fun o ho=>⟨(),?_,rfl,trivial⟩⟩⟩
 rw[w64 (by have:i.r=qZ i.p i.B i.inst i.sd i.price i.q:=rfl;rw[this];omega)]
 rfl
theorem could_ok:coulC.ok Tryz.prog 10:=zZa (gokc zRm (gokc run_ok gok0)) z3s
end Sx
