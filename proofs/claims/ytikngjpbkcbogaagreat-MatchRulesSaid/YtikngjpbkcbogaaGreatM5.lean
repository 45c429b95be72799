/- Texts of ours, one behind the other: a walk that the kernel reckons, and contracts of functions. No condition. -/
import Derived.Laws.AppendOwn
import Derived.Lib.AppendZerosOnto
import Derived.Lib.Overlaps
import Derived.Test.YtikngjpbkcbogaaGreatM4
namespace Sx
set_option linter.unusedVariables false
set_option linter.unusedSimpArgs false
set_option maxRecDepth 100000
open Go Cv Go.Proofs
theorem zIn {l:List Quote} {q:Quote} (s:Int) (h:l[0]? =some q):(zV (l.take (max 0 1)) s).1=q:=by
 cases l with
 |nil=>simp at h
 |cons a l=>simp at h;subst h;rfl
theorem zIm {l:List Quote} {j:Nat} {q:Quote} (s:Int) (h:l[j]? =some q):
 (zV (l.take (max (j+1) 1)) s).1=if btr s q.price (zV (l.take (max j 1)) s).1.price then q else(zV (l.take (max j 1)) s).1:=by
 cases l with
 |nil=>simp at h
 |cons a l=>
  cases j with
  |zero=>simp at h;subst h;simp[zV]
  |succ m=>
   simp only[List.getElem?_cons_succ]at h
   rw[show max (m+1+1) 1=(m+1)+1 by omega,show max (m+1) 1=m+1 by omega,List.take_succ_cons,List.take_succ_cons,List.take_add_one,h]
   simp only[zV,Option.toList_some,List.foldl_append]
   rfl
theorem zOz {l:List Quote} (s:Int) (h:l≠[]):(zV l s).2=true:=by
 cases l with
 |nil=>exact absurd rfl h
 |cons a l=>rfl
theorem z5g (i:BsI) (h:bestQC.cnd i):zIy i:=by
 obtain⟨hs,hl⟩:(i.s=1∨i.s=2)∧i.l.length≤1000000:=h
 unfold zIy tX sO
 simp only[List.length_map]
 refine Cv.cnd.mk (fun c=> ?_) (fun c=> ?_)
 ·have e:i.l=[]:=List.eq_nil_of_length_eq_zero (by have:(i.l.length:Int)=0:=(by simpa using c);omega)
  rw[e];exact kp
 have h0:0<i.l.length:=by
  rcases Nat.eq_zero_or_pos i.l.length with h|h
  ·rw[h]at c;exact absurd c (by decide)
  ·exact h
 have hne:i.l≠[]:=by intro e;rw[e]at h0;simp at h0
 have two:=zOz i.s hne
 obtain⟨q,hq⟩:=z8 h0
 have b0:=zIn i.s hq
 have fin:(zV (i.l.take (max i.l.length 1)) i.s).1=(zV i.l i.s).1:=by
  rw[List.take_of_length_le (by omega)]
 have step:∀j:Nat,j<i.l.length→∀x:Quote,i.l[j]? =some x→(btr i.s x.price (zV (i.l.take (max j 1)) i.s).1.price=true→(zV (i.l.take (max (j+1) 1)) i.s).1=x)∧(btr i.s x.price (zV (i.l.take (max j 1)) i.s).1.price=false→(zV (i.l.take (max (j+1) 1)) i.s).1=(zV (i.l.take (max j 1)) i.s).1):=fun j hj x hx=>by
  have:=zIm i.s hx
  constructor
  ·intro e;rw[this,if_pos e]
  ·intro e;rw[this,if_neg (by rw[e];simp)]
 refine Cv.cnd.mk (fun c1=>Cv.cnd.mk (fun c2=> ?_) (fun c2=> ?_)) (fun c1=> ?_)
 ·exfalso
  have c1:i.s≠1:=by simpa using c1
  have c2:i.s≠2:=by simpa using c2
  omega
 all_goals
  refine⟨⟨by omega,by omega⟩,q.price,q.qty,q.a.inst,q.a.side,q.b.inst,q.b.side,elA hq (by simp[zG]) rfl,0,?_⟩
  rw[b0]
  (repeat'(first|exact rfl|exact trivial|assumption|apply And.intro|refine fun(_:Unit) (_:True)=>?_|refine Exists.intro () ?_|omega|(dsimp only;omega)))
  refine⟨fun j=>j≤i.l.length,fun j=>i.l.length-j,by omega,fun j hj=>zT (fun hlt=> ?_) (fun hlt=> ?_)⟩
  ·have hj':j<i.l.length:=by omega
   obtain⟨x,hx⟩:=z8 hj'
   obtain⟨st,sf⟩:=step j hj' x hx
   refine⟨⟨by omega,by omega⟩,x.price,x.qty,x.a.inst,x.a.side,x.b.inst,x.b.side,elA hx (by simp[zG]) rfl,⟨i.s,x.price,_⟩,rfl,rfl,rfl,trivial,fun _ _=>Cv.cnd.mk (fun e=>⟨j+1,by rw[w64 (by omega)];rfl,?_⟩) (fun e=>⟨j+1,by rw[w64 (by omega)];rfl,?_⟩)⟩
   ·rw[st e];exact kp
   ·rw[sf e];exact kp
  ·have hj:j≤i.l.length:=hj
   obtain rfl:j=i.l.length:=by omega
   rw[fin,two];exact kp
theorem zTr:bestQC.ok Tryz.prog 64:=z0f (gokc zJc gok0) z5g
theorem aR (tops:List Top) (a b:Leg) (less:Bool):(mkq tops a b less).length≤1:=by
 unfold mkq
 dsimp only
 split<;>split<;>simp
theorem zDk {α:Type} {f:Nat→List α} (h:∀k,(f k).length≤1):∀n,((List.range n).flatMap f).length≤n
 |0=>by simp
 |n+1=>by
  rw[List.range_succ,List.flatMap_append,List.length_append]
  have:=zDk h n
  have:=h n
  simp only[List.flatMap_cons,List.flatMap_nil,List.append_nil]
  omega
theorem c0 (i:uL) (s:Int) (k:Nat):(xG i s k).length≤k:=zDk (fun _=>aR _ _ _ _) k
theorem gC (i:uL) (s:Int) (k:Nat):(xF i s k).length≤k:=zDk (fun _=>aR _ _ _ _) k
theorem zGh (i:uL) (s:Int):(xQ i s).length≤100:=by
 unfold xQ
 split
 ·simp
 ·rename_i h
  have hc:=jQ i.p
  have m6:=(qB (fP (p:=i.p) (by omega))).m6
  split
  ·rw[List.length_map]
   have:=aR i.tops ⟨(i.p.legs i.inst).2.1,3-s⟩ ⟨(i.p.legs i.inst).1,s⟩ true
   have e:(zW i s).length≤1:=this
   omega
  ·rw[List.length_append]
   have h1:=c0 i s (i.p.months.length-(i.inst.toNat+1))
   have h2:=gC i s i.inst.toNat
   omega
theorem z0y (j:pA) (h:quotesC.cnd j):zNv j:=by
 obtain⟨hp,ht,hr⟩:j.i.p.small∧jJ j.i.tops:=h
 obtain⟨h1,h2,h3⟩:=hp
 have hl:=zGh j.i (zB j.s)
 refine⟨j,?_⟩
 simp only[List.length_map]
 (repeat'(first|exact rfl|exact trivial|assumption|apply And.intro|refine fun(_:Unit) (_:True)=>?_|refine Exists.intro () ?_|omega|(dsimp only;omega)))
 refine⟨0,rfl,rfl,fun k=>k≤(xQ j.i (zB j.s)).length,fun k=>(xQ j.i (zB j.s)).length-k,by omega,fun k hk=>zT (fun hlt=> ?_) (fun hlt=> ?_)⟩
 ·have hk':k<(xQ j.i (zB j.s)).length:=by omega
  obtain⟨q,hq⟩:=z8 hk'
  have hf:(List.filter (fun q=>decide (j.i.p.price j.i.inst q.price=0)) (List.take k (xQ j.i (zB j.s)))).length≤100:=by
   have:=List.length_filter_le (fun q:Quote=>decide (j.i.p.price j.i.inst q.price=0)) (List.take k (xQ j.i (zB j.s)))
   rw[List.length_take]at this
   omega
  refine⟨⟨by omega,by omega⟩,q.price,q.qty,q.a.inst,q.a.side,q.b.inst,q.b.side,elA hq (by simp[zG]) rfl,⟨j.i.p,j.i.inst,q.price⟩,?_⟩
  (repeat'(first|exact rfl|exact trivial|assumption|apply And.intro|refine fun(_:Unit) (_:True)=>?_|refine Exists.intro () ?_|omega|(dsimp only;omega)))
  refine Cv.cnd.mk (fun c=>⟨by omega,k+1,by rw[w64 (by omega)];rfl,?_⟩) (fun c=>⟨k+1,by rw[w64 (by omega)];rfl,?_⟩)
  ·have c:j.i.p.price j.i.inst q.price=0:=by simpa using c
   rw[List.take_add_one,hq,Option.toList_some,List.filter_append,List.filter_cons_of_pos (by simpa using c),List.map_append]
   exact kp
  ·have c:¬j.i.p.price j.i.inst q.price=0:=by simpa using c
   rw[List.take_add_one,hq,Option.toList_some,List.filter_append,List.filter_cons_of_neg (by simpa using c),List.filter_nil,List.append_nil]
   exact kp
 ·have hk:k≤(xQ j.i (zB j.s)).length:=hk
  obtain rfl:k=(xQ j.i (zB j.s)).length:=by omega
  rw[List.take_of_length_le (Nat.le_refl _)]
  exact kp
open Go Cv Go.Proofs
theorem zPv:∀n≤6,∀a<n,∀b<n,a<b→0≤(zZ n a:Int)+b-a-1∧(zZ n a:Int)+b-a-1<((n+n*(n-1) / 2:Nat):Int):=by decide
theorem vJ {p:Prd} (hc:p.check=0) {a b:Nat} (hab:a<b) (hb:b<p.months.length):0≤(p.spread a b).1∧(p.spread a b).1<p.count:=by
 have m6:=(qB hc).m6
 have:=zPv p.months.length m6 a (by omega) b hb hab
 rw[Prd.spread,if_neg (by omega),Prd.count,if_pos hc]
 simpa using this
theorem zYz:∀n≤6,∀k<n+n*(n-1) / 2,n≤k→(xW n k n 0).2.2=true∧0≤(xW n k n 0).1∧(xW n k n 0).1<n∧0≤(xW n k n 0).2.1∧(xW n k n 0).2.1<n:=by decide
theorem uC {p:Prd} (hc:p.check=0) {k:Nat} (hk:k<p.count):((p.legs k).2.2=true∧0≤(p.legs k).1∧(p.legs k).1<p.months.length∧0≤(p.legs k).2.1∧(p.legs k).2.1<p.months.length)∨((p.legs k).2.2=false∧k<p.months.length):=by
 have m6:=(qB hc).m6
 have hk':=hk
 rw[Prd.count,if_pos hc]at hk'
 by_cases h:k<p.months.length
 ·right
  rw[Prd.legs,if_neg (by omega),if_pos (by omega)]
  exact⟨rfl,h⟩
 ·left
  rw[Prd.legs,if_neg (by omega),if_neg (by omega)]
  exact zYz p.months.length m6 k hk' (by omega)
theorem b7 {p:Prd} (hc:p.check=0):p.months.length≤p.count:=by
 rw[Prd.count,if_pos hc];omega
theorem zEo {i:uL} {s:Int} {k:Nat} (hk:k<(zW i s).length):List.map zG (List.map (kD i s) (List.take (k+1) (zW i s))++List.drop (k+1) (zW i s))=
 zK (List.map zG (List.map (kD i s) (List.take k (zW i s))++List.drop k (zW i s))) k (0+2) [D.v (.int .i64 (i.p.legs i.inst).1),D.v (.int .i64 s),D.v (.int .i64 (i.p.legs i.inst).2.1),D.v (.int .i64 (3-s))]:=by
 obtain⟨q,hq⟩:=z8 hk
 rw[zAt (a:=List.map zG (List.map (kD i s) (List.take k (zW i s)))) (b:=List.map zG (List.drop (k+1) (zW i s))) (x:=zG q) (y:=zG (kD i s q)) (by
  rw[List.map_append,List.drop_eq_getElem_cons hk,(List.getElem?_eq_some_iff.1 hq).2,List.map_cons]) (by simp;omega) rfl]
 rw[List.take_add_one,hq,Option.toList_some,List.map_append,List.map_append,List.map_append,List.map_cons,List.map_nil,List.map_cons,List.map_nil,List.append_assoc]
 rfl
theorem z8y (i:uL) (h:all1C.cnd i):z2i i:=by
 obtain⟨⟨h1,h2,h3⟩,ht,hr⟩:i.p.small∧jJ i.tops:=h
 have hto:jJ i.tops:=⟨ht,hr⟩
 refine⟨i.p,?_⟩
 simp only[List.length_map,yX]
 (repeat'(first|exact rfl|exact trivial|assumption|apply And.intro|refine fun(_:Unit) (_:True)=>?_|refine Exists.intro () ?_|omega|(dsimp only;omega)))
 have bad (hb:i.p.count=0∨(i.tops.length:Int)≠i.p.count∨i.inst<0∨(i.p.count:Int)≤i.inst):∃(o:Unit),List.map zG (xQ i 1)=[]∧True:=⟨(),by rw[xQ,if_pos hb];rfl,trivial⟩
 refine Cv.cnd.mk (fun c1=>bad (.inl (by have c1:(i.p.count:Int)=0:=(by simpa using c1);omega))) fun c1=>Cv.cnd.mk (fun c2=>bad (.inr (.inl (by simpa using c2)))) fun c2=>zT (fun c3=>bad (by omega)) fun c3=>zT (fun c4=>bad (by omega)) fun c4=>⟨⟨i.p,i.inst⟩,?_⟩
 have c1:i.p.count≠0:=by
  have c1:¬(i.p.count:Int)=0:=(by simpa using c1)
  omega
 have c2:(i.tops.length:Int)=i.p.count:=by simpa using c2
 have c4:i.inst<(i.p.count:Int):=by
  have c4:¬i.inst≥(i.p.count:Int):=c4
  omega
 have hc:=fP c1
 have hm:=b7 hc
 have e0:xQ i 1=if(i.p.legs i.inst).2.2 then(zW i 1).map (kD i 1)else xG i 1 (i.p.months.length-(i.inst.toNat+1))++xF i 1 i.inst.toNat:=by
  rw[xQ,if_neg (by omega)]
 obtain⟨k,hk⟩:∃k:Nat,i.inst=k:=⟨i.inst.toNat,by omega⟩
 have hl:=uC hc (k:=k) (by omega)
 rw[← hk]at hl
 (repeat'(first|exact rfl|exact trivial|assumption|apply And.intro|refine fun(_:Unit) (_:True)=>?_|refine Exists.intro () ?_|omega|(dsimp only;omega)))
 refine Cv.cnd.mk (fun c5=> ?_) (fun c5=> ?_)
 ·have c5:(i.p.legs i.inst).2.2=true:=c5
  rw[e0,if_pos c5]
  rcases hl with⟨_,l1,l2,l3,l4⟩|⟨l1,_⟩
  ·have hsl:(zW i 1).length≤1:=aR _ _ _ _
   refine⟨1,rfl,by omega,fun _ _=>⟨⟨⟨i.tops,[],(i.p.legs i.inst).2.1,(i.p.legs i.inst).1,true⟩,true,false⟩,rfl,rfl,rfl,rfl,rfl,rfl,rfl,⟨l3,by dsimp only;omega,l1,by dsimp only;omega,hto,by simp⟩,fun _ _=>⟨0,rfl,rfl,rfl,fun j=>j≤(zW i 1).length,fun j=>(zW i 1).length-j,by omega,?_⟩⟩⟩
   intro j hj
   have hj:j≤(zW i 1).length:=hj
   have hL:(List.map (kD i 1) (List.take j (zW i 1))++List.drop j (zW i 1)).length=(zW i 1).length:=by simp;omega
   refine zT (fun hlt=> ?_) (fun hlt=> ?_)
   ·have hlt:(j:Int)<((zW i 1).length:Int):=hlt
    refine⟨⟨by omega,by rw[hL];omega⟩,by rw[hL];omega,j+1,by rw[w64 (by omega)];rfl,kp,?_,?_⟩
    ·exact zEo (i:=i) (s:=1) (by omega)
    ·exact kp
   ·have hlt:¬(j:Int)<((zW i 1).length:Int):=hlt
    obtain rfl:j=(zW i 1).length:=by omega
    rw[List.take_of_length_le (Nat.le_refl _),List.drop_length,List.append_nil]
    exact kp
  ·rw[c5]at l1;cases l1
 ·have c5:(i.p.legs i.inst).2.2=false:=c5
  rw[e0,if_neg (by rw[c5];simp)]
  rcases hl with⟨l1,_⟩|⟨_,l2⟩
  ·rw[c5]at l1;cases l1
  have m6:=(qB hc).m6
  have e1:i.inst.toNat=k:=by omega
  rw[e1]
  refine⟨0,by rw[w64 (by omega)];omega,kp,rfl,fun j=>j≤i.p.months.length-(k+1),fun j=>i.p.months.length-(k+1)-j,by omega,?_⟩
  intro j hj
  have hj:j≤i.p.months.length-(k+1):=hj
  have hq:=c0 i 1 j
  refine zT (fun hlt=> ?_) (fun hlt=> ?_)
  ·obtain⟨b1,b2⟩:=vJ hc (a:=k) (b:=k+1+j) (by omega) (by omega)
   have eb:((k+1+j:Nat):Int)=i.inst+1+j:=by omega
   rw[eb,← hk]at b1 b2
   refine⟨⟨i.p,i.inst,i.inst+1+j⟩,?_⟩
   (repeat'(first|exact rfl|exact trivial|assumption|apply And.intro|refine fun(_:Unit) (_:True)=>?_|refine Exists.intro () ?_|omega|(dsimp only;omega)))
   refine⟨⟨⟨i.tops,xG i 1 j,(i.p.spread i.inst (i.inst+1+j)).1,i.inst+1+j,false⟩,false,false⟩,rfl,rfl,rfl,rfl,rfl,kp,rfl,⟨b1,by dsimp only;omega,by dsimp only;omega,by dsimp only;omega,hto,by dsimp only;omega⟩,fun _ _=>⟨j+1,by rw[w64 (by omega)];omega,kp,?_,?_⟩⟩
   ·rw[xG,List.range_succ,List.flatMap_append]
    simp only[List.flatMap_cons,List.flatMap_nil,List.append_nil]
    rfl
   ·exact kp
  ·obtain rfl:j=i.p.months.length-(k+1):=by omega
   refine⟨0,rfl,kp,by rw[xF];simp,fun j=>j≤k,fun j=>k-j,by omega,?_⟩
   intro j hj
   have hj:j≤k:=hj
   have hq2:=gC i 1 j
   refine zT (fun hlt2=> ?_) (fun hlt2=> ?_)
   ·obtain⟨b1,b2⟩:=vJ hc (a:=j) (b:=k) (by omega) (by omega)
    rw[← hk]at b1 b2
    refine⟨⟨i.p,j,i.inst⟩,?_⟩
    (repeat'(first|exact rfl|exact trivial|assumption|apply And.intro|refine fun(_:Unit) (_:True)=>?_|refine Exists.intro () ?_|omega|(dsimp only;omega)))
    refine⟨1,rfl,by omega,fun _ _=>⟨⟨⟨i.tops,xG i 1 (i.p.months.length-(k+1))++xF i 1 j,(i.p.spread j i.inst).1,j,true⟩,true,false⟩,rfl,rfl,rfl,rfl,rfl,kp,rfl,⟨b1,by dsimp only;omega,by dsimp only;omega,by dsimp only;omega,hto,by dsimp only;rw[List.length_append];omega⟩,fun _ _=>⟨j+1,by rw[w64 (by omega)];omega,kp,?_,?_⟩⟩⟩
    ·rw[xF,List.range_succ,List.flatMap_append]
     simp only[List.flatMap_cons,List.flatMap_nil,List.append_nil,List.append_assoc]
     rfl
    ·exact kp
   ·obtain rfl:j=k:=by omega
    exact kp
theorem zZb:all1C.ok Tryz.prog 102:=z7d (gokc uX (gokc zMo (gokc zAd (gokc zAh (gokc zEi gok0))))) z8y
theorem z8n (i:uL) (h:all2C.cnd i):z2h i:=by
 obtain⟨⟨h1,h2,h3⟩,ht,hr⟩:i.p.small∧jJ i.tops:=h
 have hto:jJ i.tops:=⟨ht,hr⟩
 refine⟨i.p,?_⟩
 simp only[List.length_map,yX]
 (repeat'(first|exact rfl|exact trivial|assumption|apply And.intro|refine fun(_:Unit) (_:True)=>?_|refine Exists.intro () ?_|omega|(dsimp only;omega)))
 have bad (hb:i.p.count=0∨(i.tops.length:Int)≠i.p.count∨i.inst<0∨(i.p.count:Int)≤i.inst):∃(o:Unit),List.map zG (xQ i 2)=[]∧True:=⟨(),by rw[xQ,if_pos hb];rfl,trivial⟩
 refine Cv.cnd.mk (fun c1=>bad (.inl (by have c1:(i.p.count:Int)=0:=(by simpa using c1);omega))) fun c1=>Cv.cnd.mk (fun c2=>bad (.inr (.inl (by simpa using c2)))) fun c2=>zT (fun c3=>bad (by omega)) fun c3=>zT (fun c4=>bad (by omega)) fun c4=>⟨⟨i.p,i.inst⟩,?_⟩
 have c1:i.p.count≠0:=by
  have c1:¬(i.p.count:Int)=0:=(by simpa using c1)
  omega
 have c2:(i.tops.length:Int)=i.p.count:=by simpa using c2
 have c4:i.inst<(i.p.count:Int):=by
  have c4:¬i.inst≥(i.p.count:Int):=c4
  omega
 have hc:=fP c1
 have hm:=b7 hc
 have e0:xQ i 2=if(i.p.legs i.inst).2.2 then(zW i 2).map (kD i 2)else xG i 2 (i.p.months.length-(i.inst.toNat+1))++xF i 2 i.inst.toNat:=by
  rw[xQ,if_neg (by omega)]
 obtain⟨k,hk⟩:∃k:Nat,i.inst=k:=⟨i.inst.toNat,by omega⟩
 have hl:=uC hc (k:=k) (by omega)
 rw[← hk]at hl
 (repeat'(first|exact rfl|exact trivial|assumption|apply And.intro|refine fun(_:Unit) (_:True)=>?_|refine Exists.intro () ?_|omega|(dsimp only;omega)))
 refine Cv.cnd.mk (fun c5=> ?_) (fun c5=> ?_)
 ·have c5:(i.p.legs i.inst).2.2=true:=c5
  rw[e0,if_pos c5]
  rcases hl with⟨_,l1,l2,l3,l4⟩|⟨l1,_⟩
  ·have hsl:(zW i 2).length≤1:=aR _ _ _ _
   refine⟨2,rfl,by omega,fun _ _=>⟨⟨⟨i.tops,[],(i.p.legs i.inst).2.1,(i.p.legs i.inst).1,true⟩,false,true⟩,rfl,rfl,rfl,rfl,rfl,rfl,rfl,⟨l3,by dsimp only;omega,l1,by dsimp only;omega,hto,by simp⟩,fun _ _=>⟨0,rfl,rfl,rfl,fun j=>j≤(zW i 2).length,fun j=>(zW i 2).length-j,by omega,?_⟩⟩⟩
   intro j hj
   have hj:j≤(zW i 2).length:=hj
   have hL:(List.map (kD i 2) (List.take j (zW i 2))++List.drop j (zW i 2)).length=(zW i 2).length:=by simp;omega
   refine zT (fun hlt=> ?_) (fun hlt=> ?_)
   ·have hlt:(j:Int)<((zW i 2).length:Int):=hlt
    refine⟨⟨by omega,by rw[hL];omega⟩,by rw[hL];omega,j+1,by rw[w64 (by omega)];rfl,kp,?_,?_⟩
    ·exact zEo (i:=i) (s:=2) (by omega)
    ·exact kp
   ·have hlt:¬(j:Int)<((zW i 2).length:Int):=hlt
    obtain rfl:j=(zW i 2).length:=by omega
    rw[List.take_of_length_le (Nat.le_refl _),List.drop_length,List.append_nil]
    exact kp
  ·rw[c5]at l1;cases l1
 ·have c5:(i.p.legs i.inst).2.2=false:=c5
  rw[e0,if_neg (by rw[c5];simp)]
  rcases hl with⟨l1,_⟩|⟨_,l2⟩
  ·rw[c5]at l1;cases l1
  have m6:=(qB hc).m6
  have e1:i.inst.toNat=k:=by omega
  rw[e1]
  refine⟨0,by rw[w64 (by omega)];omega,kp,rfl,fun j=>j≤i.p.months.length-(k+1),fun j=>i.p.months.length-(k+1)-j,by omega,?_⟩
  intro j hj
  have hj:j≤i.p.months.length-(k+1):=hj
  have hq:=c0 i 2 j
  refine zT (fun hlt=> ?_) (fun hlt=> ?_)
  ·obtain⟨b1,b2⟩:=vJ hc (a:=k) (b:=k+1+j) (by omega) (by omega)
   have eb:((k+1+j:Nat):Int)=i.inst+1+j:=by omega
   rw[eb,← hk]at b1 b2
   refine⟨⟨i.p,i.inst,i.inst+1+j⟩,?_⟩
   (repeat'(first|exact rfl|exact trivial|assumption|apply And.intro|refine fun(_:Unit) (_:True)=>?_|refine Exists.intro () ?_|omega|(dsimp only;omega)))
   refine⟨⟨⟨i.tops,xG i 2 j,(i.p.spread i.inst (i.inst+1+j)).1,i.inst+1+j,false⟩,true,true⟩,rfl,rfl,rfl,rfl,rfl,kp,rfl,⟨b1,by dsimp only;omega,by dsimp only;omega,by dsimp only;omega,hto,by dsimp only;omega⟩,fun _ _=>⟨j+1,by rw[w64 (by omega)];omega,kp,?_,?_⟩⟩
   ·rw[xG,List.range_succ,List.flatMap_append]
    simp only[List.flatMap_cons,List.flatMap_nil,List.append_nil]
    rfl
   ·exact kp
  ·obtain rfl:j=i.p.months.length-(k+1):=by omega
   refine⟨0,rfl,kp,by rw[xF];simp,fun j=>j≤k,fun j=>k-j,by omega,?_⟩
   intro j hj
   have hj:j≤k:=hj
   have hq2:=gC i 2 j
   refine zT (fun hlt2=> ?_) (fun hlt2=> ?_)
   ·obtain⟨b1,b2⟩:=vJ hc (a:=j) (b:=k) (by omega) (by omega)
    rw[← hk]at b1 b2
    refine⟨⟨i.p,j,i.inst⟩,?_⟩
    (repeat'(first|exact rfl|exact trivial|assumption|apply And.intro|refine fun(_:Unit) (_:True)=>?_|refine Exists.intro () ?_|omega|(dsimp only;omega)))
    refine⟨2,rfl,by omega,fun _ _=>⟨⟨⟨i.tops,xG i 2 (i.p.months.length-(k+1))++xF i 2 j,(i.p.spread j i.inst).1,j,true⟩,false,true⟩,rfl,rfl,rfl,rfl,rfl,kp,rfl,⟨b1,by dsimp only;omega,by dsimp only;omega,by dsimp only;omega,hto,by dsimp only;rw[List.length_append];omega⟩,fun _ _=>⟨j+1,by rw[w64 (by omega)];omega,kp,?_,?_⟩⟩⟩
    ·rw[xF,List.range_succ,List.flatMap_append]
     simp only[List.flatMap_cons,List.flatMap_nil,List.append_nil,List.append_assoc]
     rfl
    ·exact kp
   ·obtain rfl:j=k:=by omega
    exact kp
theorem zZv:all2C.ok Tryz.prog 102:=z4h (gokc uX (gokc zMo (gokc zAd (gokc zAh (gokc zEi gok0))))) z8n
theorem z4m:allC.ok Tryz.prog 102:=fun j=>match j with
 |⟨i,false⟩=>zZb i
 |⟨i,true⟩=>zZv i
theorem zQi:quotesC.ok Tryz.prog 65:=zRq (gokc z4m (gokc zEk gok0)) z0y
open Go Cv Go.Proofs
structure BkI where
 p:Prd
 s:MSt
open Go Cv Go.Proofs
open Go Cv Go.Proofs
open Go Cv Go.Proofs
structure Mkt where
 p:Prd
 s:MSt
 used:List Int
open Go Cv Go.Proofs
open Go Cv Go.Proofs
open Go Cv Go.Proofs
structure Ledger where
 p:Prd
 left:List (Int×Int)
 inst:List (Int×Int)
 traded:List Int
 net:List Int
structure WiI where
 n:Int
 lo:Int
 hi:Int
def zD (n lo hi:Int):Int:=lo+n % (hi-lo+1)
def withinC:Con:=con1 WiI (fun i=>[zE i.n,zE i.lo,zE i.hi]) (fun _=>[]) (fun i=>yM i.n∧-1000000≤i.lo∧i.lo≤i.hi∧i.hi≤1000000) (fun i=>zE (zD i.n i.lo i.hi)) (fun _=>[])
def qW (rule:Int):Prd:=⟨[67,76],[320,321,323],5,0,1000,200,rule,4,2,40,[500,505,490]⟩
def threeC:Con:=con1 Int (fun n=>[zE n]) (fun _=>[]) (fun _=>True) (fun n=>prdV (qW n)) (fun _=>[])
open Go Cv Go.Proofs
def zDf (i:WiI):Prop:=
 IntKind.i64=IntKind.i64∧IntKind.i64.wrap (IntKind.i64.wrap (i.hi-i.lo)+1)≠0∧cnd (decide (i.n.tmod (IntKind.i64.wrap (IntKind.i64.wrap (i.hi-i.lo)+1))<0)) (∃(o:Unit),zD i.n i.lo i.hi=IntKind.i64.wrap (i.lo+IntKind.i64.wrap (IntKind.i64.wrap (IntKind.i64.wrap (i.n.tmod (IntKind.i64.wrap (IntKind.i64.wrap (i.hi-i.lo)+1))+i.hi)-i.lo)+1))∧True) (∃(o:Unit),zD i.n i.lo i.hi=IntKind.i64.wrap (i.lo+i.n.tmod (IntKind.i64.wrap (IntKind.i64.wrap (i.hi-i.lo)+1)))∧True)
theorem zWe (hG:GOk Tryz.prog ([])) (h:∀(i:WiI),withinC.cnd i→zDf i):withinC.ok Tryz.prog 13:=okw mixed hG 0 (fun _=>[]) (fun _=>[]) [] Tryz.func13 h
def zSg (n:Int):Prop:=
 ∃(o:Unit),sb [(67:UInt8),(76:UInt8)]=ByteArray.mk #[(67:UInt8),(76:UInt8)]∧iE [(320:Int),(321:Int),(323:Int)]=[[D.v (.int .i64 320)],[D.v (.int .i64 321)],[D.v (.int .i64 323)]]∧(5:Int)=(5:Int)∧(0:Int)=(0:Int)∧(1000:Int)=(1000:Int)∧(200:Int)=(200:Int)∧n=n∧(4:Int)=(4:Int)∧(2:Int)=(2:Int)∧(40:Int)=(40:Int)∧iE [(500:Int),(505:Int),(490:Int)]=[[D.v (.int .i64 500)],[D.v (.int .i64 505)],[D.v (.int .i64 490)]]∧True
theorem z0j (hG:GOk Tryz.prog ([])) (h:∀(n:Int),threeC.cnd n→zSg n):threeC.ok Tryz.prog 17:=okw mixed hG 0 (fun _=>[]) (fun _=>[]) [] Tryz.func17 h
open Go Cv Go.Proofs
theorem zTj:threeC.ok Tryz.prog 17:=z0j gok0 fun n _=>by
 unfold zSg;exact kp
theorem z1w (i:WiI) (h:withinC.cnd i):zDf i:=by
 obtain⟨⟨a1,a2⟩,a3,a4,a5⟩:yM i.n∧-1000000≤i.lo∧i.lo≤i.hi∧i.hi≤1000000:=h
 unfold zDf
 rw[w64 (x:=i.hi-i.lo) (by omega),w64 (x:=i.hi-i.lo+1) (by omega)]
 obtain⟨d,hd⟩:∃d:Int,i.hi-i.lo+1=d:=⟨_,rfl⟩
 rw[hd]
 have h1:i.n.tmod d=if 0≤i.n then i.n % d else-((-i.n) % d):=by
  split
  ·rename_i h;rw[Int.tmod_eq_emod_of_nonneg h]
  ·rename_i h
   have:i.n= -(-i.n):=by omega
   conv=>lhs;rw[this]
   rw[Int.neg_tmod,Int.tmod_eq_emod_of_nonneg (by omega)]
 have hb1:=Int.emod_nonneg i.n (show d≠0 by omega)
 have hb2:=Int.emod_lt_of_pos i.n (show 0<d by omega)
 have hb3:=Int.emod_nonneg (-i.n) (show d≠0 by omega)
 have hb4:=Int.emod_lt_of_pos (-i.n) (show 0<d by omega)
 have key:i.n.tmod d<0→i.n % d=i.n.tmod d+d:=fun hneg=>by
  have:=Int.emod_eq_of_lt (a:=i.n.tmod d+d) (b:=d) (by rw[h1]at hneg ⊢;split at hneg<;>split<;>omega) (by omega)
  rw[← this,Int.add_emod_right]
  have e:=Int.tmod_add_mul_tdiv i.n d
  conv=>lhs;rw[← e]
  rw[Int.add_mul_emod_self_left]
 have key2:¬i.n.tmod d<0→i.n % d=i.n.tmod d:=fun hneg=>by
  have hlt:i.n.tmod d<d:=by rw[h1];split<;>omega
  have:=Int.emod_eq_of_lt (a:=i.n.tmod d) (b:=d) (by omega) hlt
  rw[← this]
  have e:=Int.tmod_add_mul_tdiv i.n d
  conv=>lhs;rw[← e]
  rw[Int.add_mul_emod_self_left]
 refine⟨rfl,by omega,zT (fun c=>⟨(),?_,trivial⟩) (fun c=>⟨(),?_,trivial⟩)⟩
 ·have k:=key c
  rw[zD,hd,k]
  rw[w64 (x:=i.n.tmod d+i.hi) (by omega),w64 (x:=i.n.tmod d+i.hi-i.lo) (by omega),w64 (x:=i.n.tmod d+i.hi-i.lo+1) (by omega),w64 (by omega)]
  omega
 ·have k:=key2 c
  rw[zD,hd,k,w64 (by omega)]
theorem lF:withinC.ok Tryz.prog 13:=zWe gok0 z1w
open Go Cv Go.Proofs
structure LgN where
 l:Ledger
 n:Int
def gP (l:List (Int×Int)) (k:Int):Option Int:=(l.find? fun x=>decide (x.1=k)).map (·.2)
def Ledger.isB (l:Ledger) (n:Int):Bool:=decide (0≤n) && decide (n<l.traded.length)
def Ledger.at (l:Ledger) (v:List Int) (n:Int):Int:=if l.isB n then v.getD n.toNat 0 else 0
@[reducible] def Ledger.ok (l:Ledger):Prop:=l.traded.length≤1000000∧l.net.length=l.traded.length
open Go Cv Go.Proofs
open Go Cv Go.Proofs
theorem zSi (l:List (Int×Int)) (k:Int):∀p∈yE l,like (Value.int IntKind.i64 k) p.1=true:=by
 intro p hp
 obtain⟨x,_,rfl⟩:=List.mem_map.1 hp
 rfl
theorem aG (k:Int):∀l:List (Int×Int),kV (Value.int IntKind.i64 k) (yE l)=(gP l k).map fun v=>[D.v (.int .i64 v)]
 |[]=>rfl
 |(a,v)::l=>by
  have ih:=aG k l
  show(bif (keq .i64 .i64 && decide (k=a))then _ else kV _ (yE l))=_
  by_cases h:k=a
  ·subst h;simp[gP,keq]
  ·have h':¬a=k:=fun e=>h e.symm
   rw[show(keq .i64 .i64 && decide (k=a))=false by simp[h],cond_false,ih]
   simp[gP,List.find?_cons,h']
open Go Cv Go.Proofs
structure Rep where
 kind:Int
 id:Int
 inst:Int
 side:Int
 price:Int
 qty:Int
 left:Int
 why:Int
 deriving DecidableEq
@[reducible] def Rep.cells (r:Rep):List Int:=[r.kind,r.id,r.inst,r.side,r.price,r.qty,r.left,r.why]
def a9 (k v:Int):List (Int×Int)→List (Int×Int)
 |[]=>[(k,v)]
 |(a,b)::l=>if k=a then(a,v)::l else(a,b)::a9 k v l
def zFa (k:Int):List (Int×Int)→List (Int×Int)
 |[]=>[]
 |(a,b)::l=>if k=a then l else(a,b)::zFa k l
def Ledger.acc (l:Ledger) (r:Rep):Ledger×Int:=
 if(gP l.left r.id).isSome=true then(l,25)else if r.qty<1∨r.qty≠r.left then(l,24)else({l with left:=a9 r.id r.left l.left,inst:=a9 r.id r.inst l.inst},0)
def Ledger.own (l:Ledger) (id:Int):Int:=(gP l.inst id).getD 0
def Ledger.legB (l:Ledger) (id inst:Int):Bool:=(gP l.inst id).isSome && ((l.p.legs (l.own id)).2.2 && (decide (inst=(l.p.legs (l.own id)).1)||decide (inst=(l.p.legs (l.own id)).2.1)))
def z2n (l:List Int) (n:Nat) (x:Int):List Int:=l.set n (IntKind.i64.wrap (l.getD n 0+x))
def z8t (l:List Int) (n:Nat) (x:Int):List Int:=l.set n (IntKind.i64.wrap (l.getD n 0-x))
def Ledger.trade (l:Ledger) (r:Rep):Ledger:={l with traded:=z2n l.traded r.inst.toNat r.qty,net:=if r.side=1 then z2n l.net r.inst.toNat r.qty else if r.side=2 then z8t l.net r.inst.toNat r.qty else l.net}
def Ledger.close (l:Ledger) (id n:Int):Ledger:={l with left:=if n=0 then zFa id (a9 id n l.left)else a9 id n l.left}
def Rep.badK (r:Rep):Bool:=decide (r.kind<1)||decide (r.kind>5)
def Ledger.isLeg (l:Ledger) (r:Rep):Bool:=decide (r.kind=3) && l.legB r.id r.inst
def Ledger.e1 (l:Ledger) (r:Rep):Bool:=decide (r.kind=3) && decide (r.inst≠l.own r.id)
def Rep.e2 (r:Rep) (left:Int):Bool:=decide (r.kind=3) && (decide (r.qty<1)||(decide (r.qty>left)||decide (r.left≠IntKind.i64.wrap (left-r.qty))))
def Rep.e3 (r:Rep) (left:Int):Bool:=decide (r.kind=4) && decide (r.qty≠left)
def Rep.e4 (r:Rep) (left:Int):Bool:=decide (r.kind=5) && (decide (r.qty<0)||(decide (r.qty≥left)||decide (r.left≠IntKind.i64.wrap (left-r.qty))))
def Ledger.done (l:Ledger) (r:Rep):Ledger:=
 if r.kind=3 then(l.trade r).close r.id r.left else if r.kind=4 then l.close r.id 0 else l.close r.id r.left
def Ledger.add (l:Ledger) (r:Rep):Ledger×Int:=
 if r.badK=true then(l,31)else if r.kind=2 then(l,0)else if l.isB r.inst=false then(l,20)else if r.kind=1 then l.acc r
 else if l.isLeg r=true then(if r.qty<1 then(l,24)else(l.trade r,0))
 else match gP l.left r.id with
  |none=>(l,26)
  |some left=>if l.e1 r=true then(l,20)else if r.e2 left=true then(l,24)else if r.e3 left=true then(l,24)else if r.e4 left=true then(l,24)else(l.done r,0)
structure LgR where
 l:Ledger
 r:Rep
@[reducible] def Ledger.fit (l:Ledger):Prop:=l.ok∧l.p.small
structure RpI where
 p:Prd
 l:List Rep
structure LfI where
 qty:Int
 steps:List Int
 inst:Int
structure LfS where
 left:Int
 sum:Int
 i:Nat
def bj (t:Nat):SAnn:={ι:=Bool,slots:=fun b=>[(t,yN b)],rows:=fun _=>[]}
def ij (t:Nat):SAnn:={ι:=Int,slots:=fun n=>[(t,zE n)],rows:=fun _=>[]}
structure Li2 where
 a:Int
 b:Int
open Go Cv Go.Proofs
open Go Cv Go.Proofs
theorem uU (l:List (Int×Int)) (k:Int):∀(p:Value×List D),p∈yE l→like (Value.int IntKind.i64 k) p.1=true:=fun p hp=>zSi l k p hp
theorem zGc (k v:Int):∀l,wY (Value.int IntKind.i64 k) [D.v (.int .i64 v)] (yE l)=yE (a9 k v l)
 |[]=>rfl
 |(a,b)::l=>by
  have ih:=zGc k v l
  show(bif (keq .i64 .i64 && decide (k=a))then _ else _::wY _ _ (yE l))=_
  rw[ih,a9]
  by_cases h:k=a
  ·subst h;simp[keq,yE]
  ·simp[h,yE]
theorem zFl (k:Int):∀l,g9 (Value.int IntKind.i64 k) (yE l)=yE (zFa k l)
 |[]=>rfl
 |(a,b)::l=>by
  have ih:=zFl k l
  show(bif (keq .i64 .i64 && decide (k=a))then yE l else _::g9 _ (yE l))=_
  rw[ih,zFa]
  by_cases h:k=a
  ·subst h;simp[keq]
  ·simp[h,yE]
theorem z3t (l:List (Int×Int)) (k:Int):kV (Value.int IntKind.i64 k) (yE l)=some [D.v (.int .i64 ((gP l k).getD 0))]∧(gP l k).isSome=true∨kV (Value.int IntKind.i64 k) (yE l)=none∧[D.v (.int .i64 ((gP l k).getD 0))]=[D.v (.int .i64 0)]∧(gP l k).isSome=false:=by
 rw[aG]
 cases gP l k with
 |none=>exact .inr ⟨rfl,rfl,rfl⟩
 |some v=>exact .inl ⟨rfl,rfl⟩
theorem zGj (a b:Int):(a==b)=decide (a=b):=by
 by_cases h:a=b
 ·subst h;simp
 ·simp[h]
open Go Cv Go.Proofs
theorem yY {n lo hi:Int} (h:lo≤hi):lo≤zD n lo hi∧zD n lo hi≤hi:=by
 rw[zD]
 have h1:=Int.emod_nonneg n (show hi-lo+1≠0 by omega)
 have h2:=Int.emod_lt_of_pos n (show 0<hi-lo+1 by omega)
 omega
open Go Go.RowKit Cv
theorem dP {P:Program} {dT sT ty e sz by_:Nat} {z:Array Value} (hi:jK P dT=some (e,sz,by_,z)) {w:World} {g o dLen dCap b so sLen sCap n:Nat} {cur src:List Value} {T T':TypeId} {fr:Nat×Nat}
 (hg:w.heap[g]? =some (.cells cur.toArray T (0,0))) (hs:w.heap[b]? =some (.cells src.toArray T' fr)) (hn:Nat.min sLen dLen=n) (h1:so+n*sz≤src.length) (h2:o+n*sz≤cur.length)
 (hone:∀v∈(src.drop so).take (n*sz),v.oneC=true):
 j6 P (Builtin.copy_ #[dT,sT] ty #[.slice (some ⟨g,o,none⟩) dLen dCap,.slice (some ⟨b,so,none⟩) sLen sCap]) w (.int .i64 n) (World.setB w g (.cells (spl cur o ((src.drop so).take (n*sz))).toArray T (0,0))):=by
 obtain⟨i,zv,q1,q2,rfl,rfl,q5,rfl⟩:=qH hi
 have hl:((src.drop so).take (n*i.size)).length=n*i.size:=by rw[List.length_take,List.length_drop];omega
 have hst:=x7 (P:=P) ((src.drop so).take (n*i.size)) 0 o cur w hg (by rw[hl];omega) hone
 simp only[Nat.add_zero]at hst
 unfold j6 Builtin.copy_
 simp only[List.getElem?_toArray,List.getElem?_cons_zero,List.getElem?_cons_succ,bind,pure,run_bind,Sem.bind,Sem.run,Cv.run_underlying q1,Cv.run_sizeOf q2,Builtin.lenOf,hn,Builtin.firstCells,jU hs h1,hst]
 rfl
theorem Hp.apart {k:Ko} {w:World} {b c:Nat} {o o':Obj} {L:List HP} (H:Hp k w (pt b o::pt c o'::L)):b≠c:=by
 obtain⟨hk,hs,hh⟩:=H
 cases hh with
 |cons ha hsub hd hr=>
  cases hr with
  |cons hb hsub2 hd2 hr2=>
   intro e
   subst e
   have:=hd _ List.mem_cons_self b
   rw[show _=one b o from ha,show _=one b o' from hb]at this
   simp[one]at this
def z7y (P:Program) (tS tI sz fO fR:Nat) (s:Option Addr) (sn sk:Nat) (i:Int) (v:Option Addr) (vn vk:Nat) (w:World) (R:Ending→World→Prop):Prop:=
slN s sn sk (some i) none sz fun a1 na1 ka1=>
cnd (((vn:Int):Int)==0) (
R (.returned (.slice s sn sk)) w) (
cnd ((i:Int)==(sn:Int)) (
∃(a2:Option Addr) (na2 ka2:Nat),∃w3:World,j6 P (Builtin.append_ #[tS,tS] tS #[.slice s sn sk,.slice v vn vk]) w (.slice a2 na2 ka2) w3∧
R (.returned (.slice a2 na2 ka2)) w3) (
cnd (decide ((IntKind.i64.wrap ((sn:Int)+(vn:Int)):Int)>(sk:Int))) (
slN s sn sk none (some i) sz fun a4 na4 ka4=>
∃(a5:Option Addr) (na5 ka5:Nat),∃w6:World,j6 P (Builtin.append_ #[tS,tI] tS #[.slice a4 na4 ka4,.int .i64 (IntKind.i64.wrap (IntKind.i64.wrap ((sn:Int)+(vn:Int))-i))]) w (.slice a5 na5 ka5) w6∧
slN a5 na5 ka5 (some i) none sz fun a7 na7 ka7=>
∃x8:Int,∃w9:World,j6 P (Builtin.copy_ #[tS,tS] tI #[.slice a7 na7 ka7,.slice v vn vk]) w6 (.int .i64 x8) w9∧
DrewN w9 fun w10=>
slN a5 na5 ka5 (some (IntKind.i64.wrap (i+(vn:Int)))) none sz fun a11 na11 ka11=>
slN s sn sk (some i) none sz fun a12 na12 ka12=>
∃x13:Int,∃w14:World,j6 P (Builtin.copy_ #[tS,tS] tI #[.slice a11 na11 ka11,.slice a12 na12 ka12]) w10 (.int .i64 x13) w14∧
R (.returned (.slice a5 na5 ka5)) w14) (
slN s sn sk none (some (IntKind.i64.wrap ((sn:Int)+(vn:Int)))) sz fun a15 na15 ka15=>
slN a15 na15 ka15 (some (IntKind.i64.wrap (i+(vn:Int)))) none sz fun a16 na16 ka16=>
∃c17:Bool,∃w18:World,Cv.Ext P fO #[.slice v vn vk,.slice a16 na16 ka16] w (.bool c17) w18∧
cnd (!c17) (
DrewN w18 fun w19=>
slN a15 na15 ka15 (some (IntKind.i64.wrap (i+(vn:Int)))) none sz fun a20 na20 ka20=>
slN a15 na15 ka15 (some i) none sz fun a21 na21 ka21=>
∃x22:Int,∃w23:World,j6 P (Builtin.copy_ #[tS,tS] tI #[.slice a20 na20 ka20,.slice a21 na21 ka21]) w19 (.int .i64 x22) w23∧
slN a15 na15 ka15 (some i) none sz fun a24 na24 ka24=>
∃x25:Int,∃w26:World,j6 P (Builtin.copy_ #[tS,tS] tI #[.slice a24 na24 ka24,.slice v vn vk]) w23 (.int .i64 x25) w26∧
R (.returned (.slice a15 na15 ka15)) w26) (
slN a15 na15 ka15 (some (sn:Int)) none sz fun a27 na27 ka27=>
∃x28:Int,∃w29:World,j6 P (Builtin.copy_ #[tS,tS] tI #[.slice a27 na27 ka27,.slice v vn vk]) w18 (.int .i64 x28) w29∧
slN a15 na15 ka15 (some i) none sz fun a30 na30 ka30=>
Calls P fR #[.slice a30 na30 ka30,.int .i64 (vn:Int)] w29 fun e32 w31=>e32= .returned (.tuple #[])∧
R (.returned (.slice a15 na15 ka15)) w31))))
theorem zQg {α:Type} {l m:Nat} {xs r ys:List α} (hl:l≤xs.length) (hy:ys.length=m) (hr:m≤r.length):
 ((xs++r).take (l+m)++xs.drop l++(xs++r).drop (l+m+(xs.drop l).length)).take l++ys++((xs++r).take (l+m)++xs.drop l++(xs++r).drop (l+m+(xs.drop l).length)).drop (l+ys.length)=(xs.take l++ys++xs.drop l)++r.drop m:=by
 have e1:(xs++r).drop (l+m+(xs.drop l).length)=r.drop m:=by
  rw[List.length_drop,show l+m+(xs.length-l)=xs.length+m by omega,List.drop_append]
  simp
 have e2:((xs++r).take (l+m)++xs.drop l++r.drop m).take l=xs.take l:=by
  rw[List.append_assoc,List.take_append_of_le_length (by rw[List.length_take,List.length_append];omega),List.take_take,Nat.min_eq_left (by omega),List.take_append_of_le_length hl]
 have e3:((xs++r).take (l+m)++xs.drop l++r.drop m).drop (l+ys.length)=xs.drop l++r.drop m:=by
  have:((xs++r).take (l+m)).length=l+m:=by rw[List.length_take,List.length_append];omega
  rw[List.append_assoc,hy,List.drop_append,this,Nat.sub_self,List.drop_zero,List.drop_eq_nil_of_le (by omega),List.nil_append]
 rw[e1,e2,e3]
 simp
theorem zCe (A Z Y:List Value):spl (A++Z) A.length Y=A++Y++Z.drop Y.length:=by
 simp only[spl]
 rw[List.take_left,List.drop_append]
 simp
theorem mK {b o n c i:Nat} (h:c≠i):(if c=i then(some ⟨b,o,none⟩:Option Addr)else(some ⟨b,o,none⟩:Option Addr).map (·.add n))=some ⟨b,o+n,none⟩:=by
 rw[if_neg h,Option.map_some,jM]
def zDg (P:Program) (fO:Nat):Prop:=∀(w:World) (va sb so la ca lb cb:Nat) (c c':Array Value) (T T':TypeId),va≠sb→w.heap[va]?=some (.cells c T (0,0))→w.heap[sb]?=some (.cells c' T' (0,0))→c'.size≠0→
 Cv.Ext P fO #[.slice (some ⟨va,0,none⟩) la ca,.slice (some ⟨sb,so,none⟩) lb cb] w (.bool false) w
theorem z0s {P : Program} {fO tS tB e sz by_ : Nat} {z : Array Value} {fn : Func} (hf : P.funcs[fO]? = some fn) (hname : (fn.name == "runtime.NumGoroutine") = false) (hb : fn.body.isNone = true) (hn : Extern.findNext fn = none) (he : Extern.find fn = some (Extern.SlicesOverlaps.overlaps #[tS, tS] #[tB]))
 (hi:jK P tS=some (e,sz,by_,z)):zDg P fO:=by
 obtain⟨i,zv,q1,q2,rfl,rfl,q5,rfl⟩:=qH hi
 intro w va sb so la ca lb cb c c' T T' hne h1 h2 h3
 unfold Cv.Ext
 rw[run_callFunc_extern hf hname hb hn he,Lib.run_overlaps_apart w tS tB e q1 i.size (fun w=>Cv.run_sizeOf q2 w) ⟨va,0,none⟩ ⟨sb,so,none⟩ la ca lb cb hne T T' c.size c'.size (by simp[World.shape?,h1]) (by simp[World.shape?,h2]) h3 (by simp[World.frozen?,h1]) (by simp[World.frozen?,h1])]
 rfl
theorem yAj {P:Program} {tS tI e sz by_ fO fR:Nat} {z:Array Value} (hi:jK P tS=some (e,sz,by_,z)) (hz:z.size=sz) (hby:0<by_) (hsz:0<sz) (h2:zJg P tS=true) (hti:P.underlying tI=some (.int .i64)) (hov:zDg P fO)
 {k:Ko} {w:World} {L:List HP} {s v:Option Addr} {sn sk vn vk i:Nat} {xs ys:List Value} (H:Hp k w (slO e sz s sn sk xs::slO e sz v vn vk ys::L)) (h1:∀u∈xs,u.oneC=true) (hy:∀u∈ys,u.oneC=true) (hin:i≤sn) (hv:0<vn)
 (hb:(sn+vn)*by_≤70368744177664):
 z7y P tS tI sz fO fR s sn sk i v vn vk w fun en w'=>∃a kk,en= .returned (.slice a (sn+vn) kk)∧Hp k w' (slO e sz a (sn+vn) kk (xs.take (i*sz)++ys++xs.drop (i*sz))::slO e sz v vn vk ys::L):=by
 obtain⟨hxl,hnk⟩:=H.len
 obtain⟨hyl,hvk⟩:=H.swap.len
 have hnm:sn+vn≤70368744177664:=Nat.le_trans (Nat.le_mul_of_pos_right _ hby) hb
 have w1:IntKind.i64.wrap ((sn:Int)+(vn:Int))=((sn+vn:Nat):Int):=by rw[Cv.wrap_i64 (by omega) (by omega)];simp
 have w2:IntKind.i64.wrap ((i:Int)+(vn:Int))=((i+vn:Nat):Int):=by rw[Cv.wrap_i64 (by omega) (by omega)];simp
 have w3:IntKind.i64.wrap (((sn+vn:Nat):Int)-(i:Int))=((sn+vn-i:Nat):Int):=by rw[Cv.wrap_i64 (by omega) (by omega)];omega
 have hle:i*sz≤xs.length:=by rw[hxl];exact Nat.mul_le_mul_right _ hin
 have htl:(xs.take (i*sz)).length=i*sz:=by rw[List.length_take];omega
 have hdl:(xs.drop (i*sz)).length=(sn-i)*sz:=by rw[List.length_drop,hxl,Nat.sub_mul]
 have hsum:(i+vn)*sz=i*sz+vn*sz:=Nat.add_mul _ _ _
 have hsum2:(sn+vn)*sz=i*sz+vn*sz+(sn-i)*sz:=by rw[← Nat.add_mul,← Nat.add_mul];congr 1;omega
 have hfin:(xs.take (i*sz)++ys++xs.drop (i*sz)).length=(sn+vn)*sz:=by
  rw[List.length_append,List.length_append,htl,hyl,hdl,hsum2]
 unfold z7y
 simp only[slN,w1,w2,w3,Int.toNat_natCast]
 refine⟨⟨by omega,by omega,hnk⟩,Cv.cnd.mk (fun c=>absurd c (by simp;omega)) fun _=>Cv.cnd.mk (fun c=> ?_) fun c=>Cv.cnd.mk (fun hc=> ?_) fun hc=> ?_⟩
 ·have c:i=sn:=by have:(i:Int)=(sn:Int):=by simpa using c
                  omega
  subst c
  obtain⟨a',c',w',r1,r2⟩:=H.append (rt:=tS) hi h2 (x:= .slice v vn vk) (m:=vn) (ys:=ys) (.inl ⟨v,vk,rfl,H.swap.satR⟩) hy hz hby hb
  refine⟨a',_,c',w',r1,a',c',rfl,?_⟩
  rw[List.take_of_length_le (by omega),List.drop_eq_nil_of_le (by omega),List.append_nil]
  exact r2
 ·have c:i<sn:=by have:¬(i:Int)=(sn:Int):=by simpa using c
                  omega
  have hc:sk<sn+vn:=by have:=of_decide_eq_true hc;omega
  obtain⟨inf,zv,q1,q2,q3,q4,q5,q6⟩:=qH hi
  subst q3 q4 q6
  rcases H.slcases with⟨_,e0,_⟩|⟨b,r,rfl,g1,g2,g3,H0⟩
  ·omega
  rcases H0.swap.slcases with⟨_,e0,_⟩|⟨vb,rv,rfl,g4,g5,g6,H1⟩
  ·omega
  have hold:(Builtin.firstCells inf.size i (.slice (some ⟨b,0,none⟩) i sk)).run P w.drew= .ok (xs.take (i*inf.size)).toArray w.drew:=by
   have hbk:=(H1.drew).swap.get
   have:=jU (P:=P) (o:=0) (n:=i*inf.size) hbk (by rw[List.length_append];omega)
   unfold Builtin.firstCells
   rw[this,List.drop_zero,List.take_append_of_le_length hle]
  have hfit2:=rD (need:=sn+vn) (cap:=sk) (by omega)
  have hfit3:=Nat.mul_le_mul_right inf.bytes hfit2
  have e2:2*(sn+vn)*inf.bytes=2*((sn+vn)*inf.bytes):=by rw[Nat.mul_assoc]
  have hkb:(sn+vn-i)*inf.bytes≤(sn+vn)*inf.bytes:=Nat.mul_le_mul_right _ (by omega)
  have hgr:=Lib.run_append_grow_zeros (P:=P) w tS tI tS e inf zv .i64 .i64 q1 hti q2 q5 (some ⟨b,0,none⟩) i sk (xs.take (i*inf.size)) hold (sn+vn-i) (by omega) hsz (by omega) (by omega) (by omega) (by rw[show i+(sn+vn-i)=sn+vn by omega];omega)
  rw[show i+(sn+vn-i)=sn+vn by omega]at hgr
  have hG:sn+vn≤grownCap w (sn+vn) sk e:=grownCap_ge w (sn+vn) sk e
  generalize grownCap w (sn+vn) sk e=G at hgr hG
  have harr:(xs.take (i*inf.size)).toArray++Builtin.zeroCells zv.cells (sn+vn-i)++Builtin.zeroCells zv.cells (G-(sn+vn))=(xs.take (i*inf.size)++((Builtin.zeroCells zv.cells (sn+vn-i)).toList++(Builtin.zeroCells zv.cells (G-(sn+vn))).toList)).toArray:=by
   apply Array.ext';simp
  rw[harr]at hgr
  have hZl:((Builtin.zeroCells zv.cells (sn+vn-i)).toList++(Builtin.zeroCells zv.cells (G-(sn+vn))).toList).length=(sn+vn-i)*inf.size+(G-(sn+vn))*inf.size:=by
   rw[List.length_append,Array.length_toList,Array.length_toList,size_zeroCells,size_zeroCells,hz]
  generalize (Builtin.zeroCells zv.cells (sn+vn-i)).toList++(Builtin.zeroCells zv.cells (G-(sn+vn))).toList=Z at hgr hZl
  have hZ2:(sn+vn-i)*inf.size=vn*inf.size+(sn-i)*inf.size:=by rw[← Nat.add_mul];congr 1;omega
  have H2:=(H1.drew).new (.cells (xs.take (i*inf.size)++Z).toArray e)
  have hB:w.drew.heap.size=w.heap.size:=rfl
  rw[hB]at H2
  have hc1:=dP (P:=P) (sT:=tS) (ty:=tI) hi (g:=w.heap.size) (o:=0+i*inf.size) (dLen:=sn+vn-i) (dCap:=G-i) (b:=vb) (so:=0) (sLen:=vn) (sCap:=vk) (n:=vn) H2.get H2.swap.get (Nat.min_eq_left (by omega)) (by rw[List.length_append];omega) (by rw[List.length_append,htl,hZl];omega) (by
   rw[List.drop_zero,List.take_append_of_le_length (by omega),List.take_of_length_le (by omega)];exact hy)
  rw[List.drop_zero,List.take_append_of_le_length (by omega),List.take_of_length_le (show ys.length≤vn*inf.size by omega),Nat.zero_add]at hc1
  have es1:spl (xs.take (i*inf.size)++Z) (i*inf.size) ys=xs.take (i*inf.size)++ys++Z.drop ys.length:=by
   have:=zCe (xs.take (i*inf.size)) Z ys
   rwa [htl]at this
  rw[es1]at hc1
  have H3:=(H2.upd (.cells (xs.take (i*inf.size)++ys++Z.drop ys.length).toArray e)).drew
  have hg4:(xs++r).drop (i*inf.size)=xs.drop (i*inf.size)++r:=List.drop_append_of_le_length hle
  have hc2:=dP (P:=P) (sT:=tS) (ty:=tI) hi (g:=w.heap.size) (o:=0+(i+vn)*inf.size) (dLen:=sn+vn-(i+vn)) (dCap:=G-(i+vn)) (b:=b) (so:=0+i*inf.size) (sLen:=sn-i) (sCap:=sk-i) (n:=sn-i) H3.get H3.swap.drop.swap.get (Nat.min_eq_left (by omega)) (by rw[List.length_append,hxl,Nat.zero_add,← Nat.add_mul];exact Nat.le_trans (Nat.mul_le_mul_right _ (by omega)) (Nat.le_add_right _ _)) (by
   rw[List.length_append,List.length_append,htl,hyl,List.length_drop,hZl];omega) (by
   rw[Nat.zero_add,hg4,List.take_append_of_le_length (by omega),List.take_of_length_le (by omega)]
   exact fun u hu=>h1 u (List.mem_of_mem_drop hu))
  rw[Nat.zero_add,Nat.zero_add,hg4,List.take_append_of_le_length (by omega),List.take_of_length_le (show(xs.drop (i*inf.size)).length≤(sn-i)*inf.size by omega)]at hc2
  have es2:spl (xs.take (i*inf.size)++ys++Z.drop ys.length) ((i+vn)*inf.size) (xs.drop (i*inf.size))=xs.take (i*inf.size)++ys++xs.drop (i*inf.size)++(Z.drop ys.length).drop (xs.drop (i*inf.size)).length:=by
   have:=zCe (xs.take (i*inf.size)++ys) (Z.drop ys.length) (xs.drop (i*inf.size))
   rwa [show(xs.take (i*inf.size)++ys).length=(i+vn)*inf.size by rw[List.length_append,htl,hyl,hsum]]at this
  rw[es2]at hc2
  refine⟨⟨by omega,by omega⟩,_,_,_,_,hgr,?_⟩
  rw[mK (show G≠i by omega),Nat.zero_add]
  refine⟨⟨by omega,by omega,hG⟩,_,_,hc1,?_⟩
  rintro _ rfl
  rw[mK (show G≠i+vn by omega),mK (show sk≠i by omega),Nat.zero_add,Nat.zero_add]
  refine⟨⟨by omega,by omega,hG⟩,⟨by omega,by omega,hnk⟩,_,_,hc2,_,_,rfl,?_⟩
  have H4:=H3.upd (.cells (xs.take (i*inf.size)++ys++xs.drop (i*inf.size)++(Z.drop ys.length).drop (xs.drop (i*inf.size)).length).toArray e)
  have H5:=H4.slmk (n:=sn+vn) (c:=G) (sz:=inf.size) hfin (by
   rw[List.length_append,hfin,List.length_drop,List.length_drop,hZl,hyl,hdl]
   have:G*inf.size=(sn+vn)*inf.size+(G-(sn+vn))*inf.size:=by rw[← Nat.add_mul];congr 1;omega
   omega) hG
  have H6:=H5.swap.slmk (n:=vn) (c:=vk) (sz:=inf.size) g4 g5 g6
  exact(H6.swap.perm (List.Perm.trans ((List.Perm.swap _ _ _).cons _) (List.Perm.swap _ _ _))).drop
 ·have c:i<sn:=by have:¬(i:Int)=(sn:Int):=by simpa using c
                  omega
  have hc:sn+vn≤sk:=by have:=of_decide_eq_false hc;omega
  rcases H.slcases with⟨_,e0,_⟩|⟨b,r,rfl,g1,g2,g3,H0⟩
  ·omega
  rcases H0.swap.slcases with⟨_,e0,_⟩|⟨vb,rv,rfl,g4,g5,g6,H1⟩
  ·omega
  have hrl:vn*sz≤r.length:=by
   have e1:(sn+vn)*sz≤sk*sz:=Nat.mul_le_mul_right _ hc
   rw[List.length_append,g1]at g2
   rw[Nat.add_mul]at e1
   omega
  have H2:=H1.swap
  have hne:vb≠b:=Hp.apart H1
  have hg4:(xs++r).drop (i*sz)=xs.drop (i*sz)++r:=List.drop_append_of_le_length hle
  have hex:=hov w vb b (0+(i+vn)*sz) vn vk (sn+vn-(i+vn)) (sk-(i+vn)) (ys++rv).toArray (xs++r).toArray e e hne H1.get H2.get (by
   rw[List.size_toArray,List.length_append,g1]
   have:=Nat.mul_pos (show 0<sn by omega) hsz
   omega)
  have H3:=H2.drew
  have hc1:=dP (P:=P) (sT:=tS) (ty:=tI) hi (g:=b) (o:=0+(i+vn)*sz) (dLen:=sn+vn-(i+vn)) (dCap:=sk-(i+vn)) (b:=b) (so:=0+i*sz) (sLen:=sn+vn-i) (sCap:=sk-i) (n:=sn-i) H3.get H3.get (by rw[show sn+vn-(i+vn)=sn-i by omega];exact Nat.min_eq_right (by omega)) (by
   rw[List.length_append,g1,Nat.zero_add,← Nat.add_mul];exact Nat.le_trans (Nat.mul_le_mul_right _ (by omega)) (Nat.le_add_right _ _)) (by
   rw[List.length_append,g1,Nat.zero_add,← Nat.add_mul,show i+vn+(sn-i)=sn+vn by omega,Nat.add_mul];omega) (by
   rw[Nat.zero_add,hg4,List.take_append_of_le_length (by omega),List.take_of_length_le (by omega)]
   exact fun u hu=>h1 u (List.mem_of_mem_drop hu))
  rw[Nat.zero_add,Nat.zero_add,hg4,List.take_append_of_le_length (by omega),List.take_of_length_le (show(xs.drop (i*sz)).length≤(sn-i)*sz by omega)]at hc1
  have H4:=H3.upd (.cells (spl (xs++r) ((i+vn)*sz) (xs.drop (i*sz))).toArray e)
  have hcl:(spl (xs++r) ((i+vn)*sz) (xs.drop (i*sz))).length=(xs++r).length:=by
   simp only[spl,List.length_append,List.length_take,hdl]
   rw[List.length_drop,List.length_append,g1,hsum]
   have:sn*sz=i*sz+(sn-i)*sz:=by rw[← Nat.add_mul];congr 1;omega
   omega
  have hc2:=dP (P:=P) (sT:=tS) (ty:=tI) hi (g:=b) (o:=0+i*sz) (dLen:=sn+vn-i) (dCap:=sk-i) (b:=vb) (so:=0) (sLen:=vn) (sCap:=vk) (n:=vn) H4.get H4.swap.get (Nat.min_eq_left (by omega)) (by rw[List.length_append];omega) (by
   rw[hcl,List.length_append,Nat.zero_add];omega) (by
   rw[List.drop_zero,List.take_append_of_le_length (by omega),List.take_of_length_le (by omega)];exact hy)
  rw[List.drop_zero,List.take_append_of_le_length (by omega),List.take_of_length_le (show ys.length≤vn*sz by omega),Nat.zero_add]at hc2
  have es:spl (spl (xs++r) ((i+vn)*sz) (xs.drop (i*sz))) (i*sz) ys=(xs.take (i*sz)++ys++xs.drop (i*sz))++r.drop (vn*sz):=by
   have:=zQg (l:=i*sz) (m:=vn*sz) (xs:=xs) (r:=r) (ys:=ys) hle hyl hrl
   simp only[spl,hsum]
   exact this
  rw[es]at hc2
  refine⟨⟨by omega,by omega⟩,⟨by omega,by omega,by omega⟩,false,w,?_,Cv.cnd.mk (fun _=> ?_) (fun c=>absurd c (by decide))⟩
  ·rw[mK (show sk≠i+vn by omega)];exact hex
  rintro _ rfl
  rw[mK (show sk≠i+vn by omega),mK (show sk≠i by omega),Nat.zero_add,Nat.zero_add]
  refine⟨⟨by omega,by omega,by omega⟩,⟨by omega,by omega,by omega⟩,_,_,hc1,⟨by omega,by omega,by omega⟩,_,_,hc2,_,_,rfl,?_⟩
  have H5:=H4.upd (.cells (xs.take (i*sz)++ys++xs.drop (i*sz)++r.drop (vn*sz)).toArray e)
  have H6:=H5.slmk (n:=sn+vn) (c:=sk) (sz:=sz) hfin (by
   rw[List.length_append,hfin,List.length_drop,← g2,List.length_append,g1,Nat.add_mul]
   omega) hc
  exact(H6.swap.slmk (n:=vn) (c:=vk) (sz:=sz) g4 g5 g6).swap
structure zWz where
 els:List (List D)
 el:List D
 i:Nat
def zXv (e sz by_:Nat):Con where
 ι:=zWz
 pat:=fun i=>[.own 0,.d (.v (.int .i64 i.i)),.own 1]
 pre:=fun i=>[.own e sz i.els,.own e sz [i.el]]
 cnd:=fun i=>i.i≤i.els.length∧(i.els.length+1)*by_≤70368744177664
 alts:=fun i=>[{o:=Unit,res:=fun _=> .own 2,post:=fun _=>[.gone,.gone,.own e sz (i.els.take i.i++i.el::i.els.drop i.i)],rel:=fun _=>True}]
theorem insX_ok {P:Program} (hm:P.follows .mixedOrders=true) {tS tI e sz by_ fI fO fR:Nat} {z:Array Value} {fn:Func} {c:Code} (hf:P.funcs[fI]? =some fn) (hb:fn.body=some c) (hbd:k7 P fI=true) (hok:okC fn.ntmps c=true) (hfx:okF [] c=true) (hsz3:Nat.ble 3 fn.ntmps=true)
 (hi:jK P tS=some (e,sz,by_,z)) (hz:z.size=sz) (hby:0<by_) (hsz:0<sz) (h2:zJg P tS=true) (hti:P.underlying tI=some (.int .i64)) (hov:zDg P fO)
 (heq:∀(s:Option Addr) (sn sk:Nat) (i:Int) (v:Option Addr) (vn vk:Nat) (w:World) (R:Ending→World→Prop),z7y P tS tI sz fO fR s sn sk i v vn vk w R=cwp P [] c (zBv P fn R) (jE [.slice s sn sk,.int .i64 i,.slice v vn vk]) w):
 (zXv e sz by_).ok P fI:=by
 intro i hc k L E w ys R hv
 obtain⟨c1,c2⟩:i.i≤i.els.length∧(i.els.length+1)*by_≤70368744177664:=hc
 simp only[zXv,VRL,VR,DR]at hv
 obtain⟨y0,_,rfl,⟨l0,e0,_⟩,y1,_,rfl,⟨rfl,_⟩,y2,_,rfl,⟨l2,e2,_⟩,rfl⟩:=hv
 obtain⟨s,sk,xs,sub0,g1,hxs,hu,H⟩:=R.ownOpen (n:=0) (t:=e) (sz:=sz) (els:=i.els) rfl
 rw[e0]at g1;cases g1
 have hk2:∃v vk zs,y2= .slice v 1 vk∧DRL E.F i.el zs∧i.el.length=sz∧Hp k w (slO e sz s i.els.length sk xs::slO e sz v 1 vk zs::fz E.F::L):=by
  obtain⟨hk,hs,hh⟩:=H
  cases hh with
  |cons ha hsub hd hr=>
   simp only[zXv,j0,k8,List.map_cons,List.map_nil,List.cons_append,List.nil_append]at hr
   cases hr with
   |cons hb2 hsub2 hd2 hr2=>
    rcases hb2 with⟨q,_⟩|⟨⟨hv2,sub2⟩,q1,q2⟩
    ·cases q
    ·simp only at q1
     rw[e2]at q1;cases q1
     simp only[rowHP]at q2
     obtain⟨a,kk,zs,rfl,q3,q4,q5⟩:=q2
     simp only[List.flatten_cons,List.flatten_nil,List.append_nil]at q3
     exact⟨a,kk,zs,rfl,q3,q4 _ List.mem_cons_self,hk,_,.cons ha hsub hd (.cons q5 hsub2 hd2 hr2)⟩
 obtain⟨v,vk,zs,rfl,hzs,hel,H2⟩:=hk2
 have hv:=yAj (fR:=fR) (fO:=fO) hi hz hby hsz h2 hti hov (i:=i.i) H2 hxs.one hzs.one c1 (by omega) c2
 have hcall:=nQ (args:=[.slice s i.els.length sk,.int .i64 i.i,.slice v 1 vk]) hm hf hb [] hok hfx hsz3 (heq s i.els.length sk i.i v 1 vk w _) hv
 refine c9 hbd (hcall.mono ?_)
 rintro en w' ⟨a,kk,rfl,H3⟩
 have H4:Hp k w' (slO e sz a (i.els.take i.i++i.el::i.els.drop i.i).length kk (xs.take (i.i*sz)++zs++xs.drop (i.i*sz))::(([]:List (Nat×AObj)).map (rHP E)++fz E.F::L)):=by
  have:(i.els.take i.i++i.el::i.els.drop i.i).length=i.els.length+1:=by
   rw[List.length_append,List.length_cons,List.length_take,List.length_drop];omega
  rw[this]
  exact H3.swap.drop
 obtain⟨E',r1,r2,r3⟩:=vM (nx:=2) R.nx (by
  rw[List.flatten_append,List.flatten_cons,← u0 i.i hu,← uW i.i hu,← List.append_assoc]
  exact((hxs.take _).append hzs).append (hxs.drop _)) (fun x hx=>by
   rcases List.mem_append.1 hx with hx|hx
   ·exact hu x (List.mem_of_mem_take hx)
   ·rcases List.mem_cons.1 hx with rfl|hx
    ·exact hel
    ·exact hu x (List.mem_of_mem_drop hx)) H4
 have hl:(i.els.take i.i++i.el::i.els.drop i.i).length=i.els.length+1:=by
  rw[List.length_append,List.length_cons,List.length_take,List.length_drop];omega
 rw[hl]at r3
 refine⟨_,rfl,_,List.mem_singleton.2 rfl,(),trivial,E',r1,r3,⟨r2.nx,?_⟩⟩
 have q1:=((@jW k w' True _).2 ⟨trivial,r2.hp⟩).imp (B:=rHP E' (1,.gone)) fun x hx=> .inl ⟨rfl,hx.2⟩
 have q2:=((@jW k w' True _).2 ⟨trivial,q1⟩).imp (B:=rHP E' (0,.gone)) fun x hx=> .inl ⟨rfl,hx.2⟩
 exact q2
open Go Cv Go.Proofs
def bbetterC:Con:=con1 I3' (fun i=>[zE i.side,zE i.x,zE i.y]) (fun _=>[]) (fun _=>True) (fun i=>yN (btr i.side i.x i.y)) (fun _=>[])
@[reducible] def z9w (s:Slot):V:= .agg [yN s.used,zE s.n,zE s.id,zE s.qty,yN s.top,zE s.queue,zE s.ahead,zE s.back]
def pushFC:Con:=con1 Slot (fun s=>[z9w s]) (fun _=>[]) (fun _=>True) (fun s=>yN (!s.used)) (fun _=>[])
def xB (l:List Slot):Int:=m9 (l.findIdx? fun s=> !s.used)
def idxSlotC:Con:=con1 (List Slot) (fun _=>[.own 0,.fn 97 [] []]) (fun l=>[.own 195 8 (l.map zL)]) (fun l=>l.length≤1000000) (fun l=>zE (xB l)) (fun l=>[.own 195 8 (l.map zL)])
def zUt (l:List Slot):List SAnn:=[{ι:=Nat,slots:=fun j=>[(8,zE j)],rows:=fun _=>[]}]
def vR:qG:=⟨-1,-1,0,0⟩
def Arena.openQ (a:Arena):Arena:={a with queues:=a.queues++[vR]}
def aopenC:Con:=con1 Arena (fun _=>[.nm 0 0]) (fun a=>[qR a]) (fun a=>a.queues.length≤1000000) (fun a=>zE a.queues.length) (fun a=>[qR a.openQ])
structure zJs where
 a:Arena
 n:Int
 t:Bool
def Arena.usedAt (a:Arena) (n:Int):Bool:=decide (0≤n) && (decide (n<a.slots.length) && (a.slots.getD n.toNat slot0).used)
def Arena.topF (a:Arena) (n:Int) (t:Bool):Arena:=if a.usedAt n=true then{a with slots:=a.slots.modify n.toNat fun s=>{s with top:=t}}else a
def atopC:Con:=con1 zJs (fun i=>[.nm 0 0,zE i.n,yN i.t]) (fun i=>[qR i.a]) (fun i=>i.a.slots.length≤1000000) (fun i=>zE (if i.a.usedAt i.n=true then 0 else 26)) (fun i=>[qR (i.a.topF i.n i.t)])
structure PuI where
 a:Arena
 n:Int
 id:Int
 qty:Int
 top:Bool
def Arena.put (a:Arena) (n id qty:Int) (top:Bool):Arena:=
 let q:=a.queues.getD n.toNat vR
 let k:=xB a.slots
 let sl:=a.slots.set k.toNat ⟨true,k,id,qty,top,n,q.last,-1⟩
 ⟨if q.last= -1 then sl else sl.modify q.last.toNat fun s=>{s with back:=k},a.queues.set n.toNat ⟨if q.last= -1 then k else q.first,k,IntKind.i64.wrap (q.total+qty),IntKind.i64.wrap (q.count+1)⟩,IntKind.i64.wrap (a.free-1)⟩
def Arena.push (a:Arena) (n id qty:Int) (top:Bool):Arena×Int×Int:=
 if n<0∨a.queues.length≤n then(a,0,26)else if qty<1∨1000000<qty then(a,0,24)else if a.free=0 then(a,0,13)else(a.put n id qty top,xB a.slots,0)
def Arena.fit (a:Arena):Prop:=a.slots.length≤1000000∧(a.free≠0→∃s∈a.slots,s.used=false)∧∀q∈a.queues,q.last= -1∨(0≤q.last∧q.last<a.slots.length)
def apushC:Con:=con1 PuI (fun i=>[.nm 0 0,zE i.n,zE i.id,zE i.qty,yN i.top]) (fun i=>[qR i.a]) (fun i=>i.a.fit) (fun i=> .tup [zE (i.a.push i.n i.id i.qty i.top).2.1,zE (i.a.push i.n i.id i.qty i.top).2.2]) (fun i=>[qR (i.a.push i.n i.id i.qty i.top).1])
@[reducible] def nH (b:Book):List AObj:=[zN b 0,zN b 1,zN b 2,zN b 3,zN b 4,zN b 5]
structure BkP where
 b:Book
 price:Int
def zQ (s:Int) (l:List y7) (price:Int):Nat:=(l.takeWhile fun r=>btr s r.price price).length
def xM (s:Int) (l:List y7) (price:Int):Bool:=match l[zQ s l price]? with
 |some r=>decide (r.price=price)
 |none=>false
def Book.rungs (b:Book) (s:Int):List y7:=if s=1 then b.buys else b.sells
def zRw (s:Int):Con:=con1 BkP (fun i=>[.nm 0 0,zE s,zE i.price]) (fun i=>nH i.b) (fun i=>i.b.small) (fun i=> .tup [zE (zQ s (i.b.rungs s) i.price),yN (xM s (i.b.rungs s) i.price)]) (fun i=>nH i.b)
def find1C:Con:=zRw 1
def find2C:Con:=zRw 2
def z2o:List SAnn:=[{ι:=Nat,slots:=fun j=>[(9,zE j)],rows:=fun _=>[]}]
def pget (l:List (Int×Place)) (k:Int):Option Place:=(l.find? fun x=>decide (x.1=k)).map (·.2)
def h8 (k:Int) (v:Place):List (Int×Place)→List (Int×Place)
 |[]=>[(k,v)]
 |(a,b)::l=>if k=a then(a,v)::l else(a,b)::h8 k v l
structure LdI where
 b:Book
 id:Int
def Book.hasF (b:Book) (s:Int):Bool:=if s=1 then b.has1 else b.has2
def Book.topI (b:Book) (s:Int):Int:=if s=1 then b.top1 else b.top2
def Book.untop (b:Book) (s:Int):Arena:=if b.hasF s=true then(match pget b.at_ (b.topI s)with
 |some o=>if o.side=s then b.a.topF o.slot false else b.a
 |none=>b.a)else b.a
def Book.leadF (b:Book) (id s:Int):Book:=if s=1 then{b with a:=b.untop s,top1:=id,has1:=true}else{b with a:=b.untop s,top2:=id,has2:=true}
def zRe (s:Int):Con:=con1 LdI (fun i=>[.nm 0 0,zE i.id,zE s]) (fun i=>nH i.b) (fun i=>i.b.small) (fun _=>zGt) (fun i=>nH (i.b.leadF i.id s))
def lead1C:Con:=zRe 1
def lead2C:Con:=zRe 2
def Book.newQ (b:Book):Int×List Int×Arena:=if b.spare.length=0 then(b.a.queues.length,b.spare,b.a.openQ)else(b.spare.getD (b.spare.length-1) 0,b.spare.take (b.spare.length-1),b.a)
def Book.ins (b:Book) (s price:Int):List y7:=(b.rungs s).take (zQ s (b.rungs s) price)++⟨price,b.newQ.1⟩::(b.rungs s).drop (zQ s (b.rungs s) price)
def Book.queueF (b:Book) (s price:Int):Book×Int:=
 if xM s (b.rungs s) price=true then(b,((b.rungs s).getD (zQ s (b.rungs s) price) ⟨0,0⟩).queue)
 else(if s=1 then{b with a:=b.newQ.2.2,buys:=b.ins s price,spare:=b.newQ.2.1}else{b with a:=b.newQ.2.2,sells:=b.ins s price,spare:=b.newQ.2.1},b.newQ.1)
def zYp (b:Book):AObj:= .cells [.nm 1 0,.own 6,.own 3,.mp 4,zE b.top1,zE b.top2,.own 7,yN b.has1,yN b.has2] 135
def z0o (b:Book):AObj:= .cells [.nm 1 0,.own 2,.own 6,.mp 4,zE b.top1,zE b.top2,.own 7,yN b.has1,yN b.has2] 135
@[reducible] def z5y (b:Book):List AObj:=[zYp b,zN b 1,.gone,zN b 3,zN b 4,.gone,zN b 2,zN b 5]
@[reducible] def z6r (b:Book):List AObj:=[z0o b,zN b 1,zN b 2,.gone,zN b 4,.gone,zN b 3,zN b 5]
@[reducible] def Book.fit (b:Book):Prop:=b.a.fit∧b.a.queues.length≤100000∧b.buys.length≤100000∧b.sells.length≤100000∧b.spare.length≤100000
def queue1C:Con:=con1 BkP (fun i=>[.nm 0 0,zE 1,zE i.price]) (fun i=>nH i.b) (fun i=>i.b.fit) (fun i=>zE (i.b.queueF 1 i.price).2) (fun i=>z5y (i.b.queueF 1 i.price).1)
def queue2C:Con:=con1 BkP (fun i=>[.nm 0 0,zE 2,zE i.price]) (fun i=>nH i.b) (fun i=>i.b.fit) (fun i=>zE (i.b.queueF 2 i.price).2) (fun i=>z6r (i.b.queueF 2 i.price).1)
def insRC:Con:=zXv 141 2 16
open Go Cv Go.Proofs
def zEt (i:I3'):Prop:=
 cnd (i.side==1) (∃(o:Unit),btr i.side i.x i.y=decide (i.x>i.y)∧True) (∃(o:Unit),btr i.side i.x i.y=decide (i.x<i.y)∧True)
theorem zPo (hG:GOk Tryz.prog ([])) (h:∀(i:I3'),bbetterC.cnd i→zEt i):bbetterC.ok Tryz.prog 60:=okw mixed hG 0 (fun _=>[]) (fun _=>[]) [] Tryz.func60 h
def zVc (s:Slot):Prop:=
 ∃(o:Unit),(!s.used)=!s.used∧True
theorem z1y (hG:GOk Tryz.prog ([])) (h:∀(s:Slot),pushFC.cnd s→zVc s):pushFC.ok Tryz.prog 97:=okw mixed hG 0 (fun _=>[]) (fun _=>[]) [] Tryz.func97 h
def tN (l:List Slot):Prop:=
 ∃(i0:Nat),(↑i0:Int)=0∧∃(I:Nat→Prop),∃(μ:Nat→Nat),I i0∧∀(i:Nat),I i→cnd (decide ((↑i:Int)<(↑(List.map zL l).length:Int))) ((0≤(↑i:Int)∧(↑i:Int)<(↑(List.map zL l).length:Int))∧∃(b:Bool),∃(n:Int),∃(n_1:Int),∃(n_2:Int),∃(b_1:Bool),∃(n_3:Int),∃(n_4:Int),∃(n_5:Int),zI (List.map zL l) (↑i:Int).toNat 0 8=some [D.v (.bool b),D.v (.int .i64 n),D.v (.int .i64 n_1),D.v (.int .i64 n_2),D.v (.bool b_1),D.v (.int .i64 n_3),D.v (.int .i64 n_4),D.v (.int .i64 n_5)]∧∃(i_1:Slot),i_1.used=b∧i_1.n=n∧i_1.id=n_1∧i_1.qty=n_2∧i_1.top=b_1∧i_1.queue=n_3∧i_1.ahead=n_4∧i_1.back=n_5∧True∧∀(o:Unit),True→cnd (!i_1.used) (∃(o:Unit),xB l=(↑i:Int)∧List.map zL l=List.map zL l∧True) (∃(i':Nat),(↑i':Int)=IntKind.i64.wrap ((↑i:Int)+1)∧I i'∧μ i'<μ i∧AObj.own 195 8 (List.map zL l)=AObj.own 195 8 (List.map zL l))) (∃(o:Unit),xB l=(-1)∧List.map zL l=List.map zL l∧True)
theorem zPx (hG:GOk Tryz.prog ([(97,pushFC)])) (h:∀(l:List Slot),idxSlotC.cnd l→tN l):idxSlotC.ok Tryz.prog 96:=okw mixed hG 0 (fun _=>[]) (fun l=>zUt l) [] Tryz.func96 h
def zWd (a:Arena):Prop:=
 ((List.map zF a.queues).length+1)*(32:Nat)≤(70368744177664:Nat)∧∃(o:Unit),(↑a.queues.length:Int)=IntKind.i64.wrap ((↑(List.map zF a.queues++[[D.v (.int .i64 (-1)),D.v (.int .i64 (-1)),D.v (.int .i64 0),D.v (.int .i64 0)]]).length:Int)-1)∧a.free=a.free∧List.map zL a.slots=List.map zL a.slots∧List.map zF (a.queues++[vR])=List.map zF a.queues++[[D.v (.int .i64 (-1)),D.v (.int .i64 (-1)),D.v (.int .i64 0),D.v (.int .i64 0)]]∧True
theorem z0l (hG:GOk Tryz.prog ([])) (h:∀(a:Arena),aopenC.cnd a→zWd a):aopenC.ok Tryz.prog 99:=okw mixed hG 0 (fun _=>[]) (fun _=>[]) [0] Tryz.func99 h
@[reducible] def pK (i:zJs):Prop:=∃(o:Unit),(if i.a.usedAt i.n=true then(0:Int)else(26:Int))=26∧(i.a.topF i.n i.t).free=i.a.free∧List.map zL (i.a.topF i.n i.t).slots=List.map zL i.a.slots∧List.map zF (i.a.topF i.n i.t).queues=List.map zF i.a.queues∧True
def zTa (i:zJs):Prop:=
 cnd (decide (i.n<0)) (pK i) (cnd (decide (i.n≥(↑(List.map zL i.a.slots).length:Int))) (pK i) ((0≤i.n∧i.n<(↑(List.map zL i.a.slots).length:Int))∧∃(b:Bool),zI (List.map zL i.a.slots) i.n.toNat ((0:Nat)+(0:Nat)) 1=some [D.v (.bool b)]∧cnd (!b) (pK i) ((0≤i.n∧i.n<(↑(List.map zL i.a.slots).length:Int))∧i.n.toNat<(List.map zL i.a.slots).length∧∃(o:Unit),(if i.a.usedAt i.n=true then(0:Int)else(26:Int))=0∧(i.a.topF i.n i.t).free=i.a.free∧List.map zL (i.a.topF i.n i.t).slots=zK (List.map zL i.a.slots) i.n.toNat ((0:Nat)+(1:Nat)+3) [D.v (.bool i.t)]∧List.map zF (i.a.topF i.n i.t).queues=List.map zF i.a.queues∧True)))
theorem z4j (hG:GOk Tryz.prog ([])) (h:∀(i:zJs),atopC.cnd i→zTa i):atopC.ok Tryz.prog 94:=okw mixed hG 1 (fun _=>[]) (fun _=>[]) [0] Tryz.func94 h
@[reducible] def rX (i:PuI):Prop:=∃(o:Unit),(i.a.push i.n i.id i.qty i.top).snd.fst=0∧(i.a.push i.n i.id i.qty i.top).snd.snd=26∧(i.a.push i.n i.id i.qty i.top).fst.free=i.a.free∧List.map zL (i.a.push i.n i.id i.qty i.top).fst.slots=List.map zL i.a.slots∧List.map zF (i.a.push i.n i.id i.qty i.top).fst.queues=List.map zF i.a.queues∧True
@[reducible] def rK (i:PuI):Prop:=∃(o:Unit),(i.a.push i.n i.id i.qty i.top).snd.fst=0∧(i.a.push i.n i.id i.qty i.top).snd.snd=24∧(i.a.push i.n i.id i.qty i.top).fst.free=i.a.free∧List.map zL (i.a.push i.n i.id i.qty i.top).fst.slots=List.map zL i.a.slots∧List.map zF (i.a.push i.n i.id i.qty i.top).fst.queues=List.map zF i.a.queues∧True
def zLf (i:PuI):Prop:=
 cnd (decide (i.n≥0)) (cnd (!decide (i.n<(↑(List.map zF i.a.queues).length:Int))) (rX i) (cnd (decide (i.qty<1)) (rK i) (cnd (decide (i.qty>1000000)) (rK i) (cnd (i.a.free==0) (∃(o:Unit),(i.a.push i.n i.id i.qty i.top).snd.fst=0∧(i.a.push i.n i.id i.qty i.top).snd.snd=13∧(i.a.push i.n i.id i.qty i.top).fst.free=i.a.free∧List.map zL (i.a.push i.n i.id i.qty i.top).fst.slots=List.map zL i.a.slots∧List.map zF (i.a.push i.n i.id i.qty i.top).fst.queues=List.map zF i.a.queues∧True) (∃(i_1:List Slot),List.map zL i_1=List.map zL i.a.slots∧i_1.length≤1000000∧∀(o:Unit),True→(0≤i.n∧i.n<(↑(List.map zF i.a.queues).length:Int))∧∃(n:Int),zI (List.map zF i.a.queues) i.n.toNat ((0:Nat)+(1:Nat)) 1=some [D.v (.int .i64 n)]∧(0≤xB i_1∧xB i_1<(↑(List.map zL i_1).length:Int))∧(xB i_1).toNat<(List.map zL i_1).length∧∃(n_1:Int),zI (List.map zF i.a.queues) i.n.toNat ((0:Nat)+(1:Nat)) 1=some [D.v (.int .i64 n_1)]∧cnd (n_1==(-1)) (i.n.toNat<(List.map zF i.a.queues).length∧i.n.toNat<(zK (List.map zF i.a.queues) i.n.toNat ((0:Nat)+(0:Nat)) [D.v (.int .i64 (xB i_1))]).length∧∃(n_2:Int),zI (zK (zK (List.map zF i.a.queues) i.n.toNat ((0:Nat)+(0:Nat)) [D.v (.int .i64 (xB i_1))]) i.n.toNat ((0:Nat)+(1:Nat)) [D.v (.int .i64 (xB i_1))]) i.n.toNat ((0:Nat)+(2:Nat)) 1=some [D.v (.int .i64 n_2)]∧i.n.toNat<(zK (zK (List.map zF i.a.queues) i.n.toNat ((0:Nat)+(0:Nat)) [D.v (.int .i64 (xB i_1))]) i.n.toNat ((0:Nat)+(1:Nat)) [D.v (.int .i64 (xB i_1))]).length∧∃(n_3:Int),zI (zK (zK (zK (List.map zF i.a.queues) i.n.toNat ((0:Nat)+(0:Nat)) [D.v (.int .i64 (xB i_1))]) i.n.toNat ((0:Nat)+(1:Nat)) [D.v (.int .i64 (xB i_1))]) i.n.toNat ((0:Nat)+(2:Nat)) [D.v (.int .i64 (IntKind.i64.wrap (n_2+i.qty)))]) i.n.toNat ((0:Nat)+(3:Nat)) 1=some [D.v (.int .i64 n_3)]∧i.n.toNat<(zK (zK (zK (List.map zF i.a.queues) i.n.toNat ((0:Nat)+(0:Nat)) [D.v (.int .i64 (xB i_1))]) i.n.toNat ((0:Nat)+(1:Nat)) [D.v (.int .i64 (xB i_1))]) i.n.toNat ((0:Nat)+(2:Nat)) [D.v (.int .i64 (IntKind.i64.wrap (n_2+i.qty)))]).length∧∃(o:Unit),(i.a.push i.n i.id i.qty i.top).snd.fst=xB i_1∧(i.a.push i.n i.id i.qty i.top).snd.snd=0∧(i.a.push i.n i.id i.qty i.top).fst.free=IntKind.i64.wrap (i.a.free-1)∧List.map zL (i.a.push i.n i.id i.qty i.top).fst.slots=zK (List.map zL i_1) (xB i_1).toNat 0 [D.v (.bool true),D.v (.int .i64 (xB i_1)),D.v (.int .i64 i.id),D.v (.int .i64 i.qty),D.v (.bool i.top),D.v (.int .i64 i.n),D.v (.int .i64 n),D.v (.int .i64 (-1))]∧List.map zF (i.a.push i.n i.id i.qty i.top).fst.queues=zK (zK (zK (zK (List.map zF i.a.queues) i.n.toNat ((0:Nat)+(0:Nat)) [D.v (.int .i64 (xB i_1))]) i.n.toNat ((0:Nat)+(1:Nat)) [D.v (.int .i64 (xB i_1))]) i.n.toNat ((0:Nat)+(2:Nat)) [D.v (.int .i64 (IntKind.i64.wrap (n_2+i.qty)))]) i.n.toNat ((0:Nat)+(3:Nat)) [D.v (.int .i64 (IntKind.i64.wrap (n_3+1)))]∧True) (∃(n_2:Int),zI (List.map zF i.a.queues) i.n.toNat ((0:Nat)+(1:Nat)) 1=some [D.v (.int .i64 n_2)]∧(0≤n_2∧n_2<(↑(zK (List.map zL i_1) (xB i_1).toNat 0 [D.v (.bool true),D.v (.int .i64 (xB i_1)),D.v (.int .i64 i.id),D.v (.int .i64 i.qty),D.v (.bool i.top),D.v (.int .i64 i.n),D.v (.int .i64 n),D.v (.int .i64 (-1))]).length:Int))∧n_2.toNat<(zK (List.map zL i_1) (xB i_1).toNat 0 [D.v (.bool true),D.v (.int .i64 (xB i_1)),D.v (.int .i64 i.id),D.v (.int .i64 i.qty),D.v (.bool i.top),D.v (.int .i64 i.n),D.v (.int .i64 n),D.v (.int .i64 (-1))]).length∧i.n.toNat<(List.map zF i.a.queues).length∧∃(n_3:Int),zI (zK (List.map zF i.a.queues) i.n.toNat ((0:Nat)+(1:Nat)) [D.v (.int .i64 (xB i_1))]) i.n.toNat ((0:Nat)+(2:Nat)) 1=some [D.v (.int .i64 n_3)]∧i.n.toNat<(zK (List.map zF i.a.queues) i.n.toNat ((0:Nat)+(1:Nat)) [D.v (.int .i64 (xB i_1))]).length∧∃(n_4:Int),zI (zK (zK (List.map zF i.a.queues) i.n.toNat ((0:Nat)+(1:Nat)) [D.v (.int .i64 (xB i_1))]) i.n.toNat ((0:Nat)+(2:Nat)) [D.v (.int .i64 (IntKind.i64.wrap (n_3+i.qty)))]) i.n.toNat ((0:Nat)+(3:Nat)) 1=some [D.v (.int .i64 n_4)]∧i.n.toNat<(zK (zK (List.map zF i.a.queues) i.n.toNat ((0:Nat)+(1:Nat)) [D.v (.int .i64 (xB i_1))]) i.n.toNat ((0:Nat)+(2:Nat)) [D.v (.int .i64 (IntKind.i64.wrap (n_3+i.qty)))]).length∧∃(o:Unit),(i.a.push i.n i.id i.qty i.top).snd.fst=xB i_1∧(i.a.push i.n i.id i.qty i.top).snd.snd=0∧(i.a.push i.n i.id i.qty i.top).fst.free=IntKind.i64.wrap (i.a.free-1)∧List.map zL (i.a.push i.n i.id i.qty i.top).fst.slots=zK (zK (List.map zL i_1) (xB i_1).toNat 0 [D.v (.bool true),D.v (.int .i64 (xB i_1)),D.v (.int .i64 i.id),D.v (.int .i64 i.qty),D.v (.bool i.top),D.v (.int .i64 i.n),D.v (.int .i64 n),D.v (.int .i64 (-1))]) n_2.toNat ((0:Nat)+(7:Nat)) [D.v (.int .i64 (xB i_1))]∧List.map zF (i.a.push i.n i.id i.qty i.top).fst.queues=zK (zK (zK (List.map zF i.a.queues) i.n.toNat ((0:Nat)+(1:Nat)) [D.v (.int .i64 (xB i_1))]) i.n.toNat ((0:Nat)+(2:Nat)) [D.v (.int .i64 (IntKind.i64.wrap (n_3+i.qty)))]) i.n.toNat ((0:Nat)+(3:Nat)) [D.v (.int .i64 (IntKind.i64.wrap (n_4+1)))]∧True)))))) (rX i)
theorem zZr (hG:GOk Tryz.prog ([(96,idxSlotC)])) (h:∀(i:PuI),apushC.cnd i→zLf i):apushC.ok Tryz.prog 62:=okw mixed hG 1 (fun _=>[]) (fun _=>[]) [0] Tryz.func62 h
def zJf (i:BkP):Prop:=
 ∃(i0:Nat),(↑i0:Int)=0∧∃(I:Nat→Prop),∃(μ:Nat→Nat),I i0∧∀(i_1:Nat),I i_1→cnd (decide ((↑i_1:Int)<(↑(List.map zA i.b.buys).length:Int))) ((0≤(↑i_1:Int)∧(↑i_1:Int)<(↑(List.map zA i.b.buys).length:Int))∧∃(n:Int),zI (List.map zA i.b.buys) (↑i_1:Int).toNat ((0:Nat)+(0:Nat)) 1=some [D.v (.int .i64 n)]∧∃(i_2:I3'),i_2.side=1∧i_2.x=n∧i_2.y=i.price∧True∧∀(o:Unit),True→cnd (btr i_2.side i_2.x i_2.y) (∃(i':Nat),(↑i':Int)=IntKind.i64.wrap ((↑i_1:Int)+1)∧I i'∧μ i'<μ i_1∧zN i.b 0=zN i.b 0∧zN i.b 1=zN i.b 1∧zN i.b 2=zN i.b 2∧zN i.b 3=zN i.b 3∧zN i.b 4=zN i.b 4∧zN i.b 5=zN i.b 5) (cnd (decide ((↑i_1:Int)<(↑(List.map zA i.b.buys).length:Int))) ((0≤(↑i_1:Int)∧(↑i_1:Int)<(↑(List.map zA i.b.buys).length:Int))∧∃(n:Int),zI (List.map zA i.b.buys) (↑i_1:Int).toNat ((0:Nat)+(0:Nat)) 1=some [D.v (.int .i64 n)]∧∃(o:Unit),(↑(zQ 1 (i.b.rungs 1) i.price):Int)=(↑i_1:Int)∧xM 1 (i.b.rungs 1) i.price=(n==i.price)∧i.b.top1=i.b.top1∧i.b.top2=i.b.top2∧i.b.has1=i.b.has1∧i.b.has2=i.b.has2∧AObj.adt Arena 3 zC i.b.a=zN i.b 1∧List.map zA i.b.buys=List.map zA i.b.buys∧List.map zA i.b.sells=List.map zA i.b.sells∧atE i.b.at_=atE i.b.at_∧iE i.b.spare=iE i.b.spare∧True) (∃(o:Unit),(↑(zQ 1 (i.b.rungs 1) i.price):Int)=(↑i_1:Int)∧xM 1 (i.b.rungs 1) i.price=false∧i.b.top1=i.b.top1∧i.b.top2=i.b.top2∧i.b.has1=i.b.has1∧i.b.has2=i.b.has2∧AObj.adt Arena 3 zC i.b.a=zN i.b 1∧List.map zA i.b.buys=List.map zA i.b.buys∧List.map zA i.b.sells=List.map zA i.b.sells∧atE i.b.at_=atE i.b.at_∧iE i.b.spare=iE i.b.spare∧True))) (cnd (decide ((↑i_1:Int)<(↑(List.map zA i.b.buys).length:Int))) ((0≤(↑i_1:Int)∧(↑i_1:Int)<(↑(List.map zA i.b.buys).length:Int))∧∃(n:Int),zI (List.map zA i.b.buys) (↑i_1:Int).toNat ((0:Nat)+(0:Nat)) 1=some [D.v (.int .i64 n)]∧∃(o:Unit),(↑(zQ 1 (i.b.rungs 1) i.price):Int)=(↑i_1:Int)∧xM 1 (i.b.rungs 1) i.price=(n==i.price)∧i.b.top1=i.b.top1∧i.b.top2=i.b.top2∧i.b.has1=i.b.has1∧i.b.has2=i.b.has2∧AObj.adt Arena 3 zC i.b.a=zN i.b 1∧List.map zA i.b.buys=List.map zA i.b.buys∧List.map zA i.b.sells=List.map zA i.b.sells∧atE i.b.at_=atE i.b.at_∧iE i.b.spare=iE i.b.spare∧True) (∃(o:Unit),(↑(zQ 1 (i.b.rungs 1) i.price):Int)=(↑i_1:Int)∧xM 1 (i.b.rungs 1) i.price=false∧i.b.top1=i.b.top1∧i.b.top2=i.b.top2∧i.b.has1=i.b.has1∧i.b.has2=i.b.has2∧AObj.adt Arena 3 zC i.b.a=zN i.b 1∧List.map zA i.b.buys=List.map zA i.b.buys∧List.map zA i.b.sells=List.map zA i.b.sells∧atE i.b.at_=atE i.b.at_∧iE i.b.spare=iE i.b.spare∧True))
theorem z1t (hG:GOk Tryz.prog ([(60,bbetterC)])) (h:∀(i:BkP),find1C.cnd i→zJf i):find1C.ok Tryz.prog 98:=okw mixed hG 0 (fun _=>[]) (fun _=>z2o) [] Tryz.func98 h
def zHz (i:BkP):Prop:=
 ∃(i0:Nat),(↑i0:Int)=0∧∃(I:Nat→Prop),∃(μ:Nat→Nat),I i0∧∀(i_1:Nat),I i_1→cnd (decide ((↑i_1:Int)<(↑(List.map zA i.b.sells).length:Int))) ((0≤(↑i_1:Int)∧(↑i_1:Int)<(↑(List.map zA i.b.sells).length:Int))∧∃(n:Int),zI (List.map zA i.b.sells) (↑i_1:Int).toNat ((0:Nat)+(0:Nat)) 1=some [D.v (.int .i64 n)]∧∃(i_2:I3'),i_2.side=2∧i_2.x=n∧i_2.y=i.price∧True∧∀(o:Unit),True→cnd (btr i_2.side i_2.x i_2.y) (∃(i':Nat),(↑i':Int)=IntKind.i64.wrap ((↑i_1:Int)+1)∧I i'∧μ i'<μ i_1∧zN i.b 0=zN i.b 0∧zN i.b 1=zN i.b 1∧zN i.b 2=zN i.b 2∧zN i.b 3=zN i.b 3∧zN i.b 4=zN i.b 4∧zN i.b 5=zN i.b 5) (cnd (decide ((↑i_1:Int)<(↑(List.map zA i.b.sells).length:Int))) ((0≤(↑i_1:Int)∧(↑i_1:Int)<(↑(List.map zA i.b.sells).length:Int))∧∃(n:Int),zI (List.map zA i.b.sells) (↑i_1:Int).toNat ((0:Nat)+(0:Nat)) 1=some [D.v (.int .i64 n)]∧∃(o:Unit),(↑(zQ 2 (i.b.rungs 2) i.price):Int)=(↑i_1:Int)∧xM 2 (i.b.rungs 2) i.price=(n==i.price)∧i.b.top1=i.b.top1∧i.b.top2=i.b.top2∧i.b.has1=i.b.has1∧i.b.has2=i.b.has2∧AObj.adt Arena 3 zC i.b.a=zN i.b 1∧List.map zA i.b.buys=List.map zA i.b.buys∧List.map zA i.b.sells=List.map zA i.b.sells∧atE i.b.at_=atE i.b.at_∧iE i.b.spare=iE i.b.spare∧True) (∃(o:Unit),(↑(zQ 2 (i.b.rungs 2) i.price):Int)=(↑i_1:Int)∧xM 2 (i.b.rungs 2) i.price=false∧i.b.top1=i.b.top1∧i.b.top2=i.b.top2∧i.b.has1=i.b.has1∧i.b.has2=i.b.has2∧AObj.adt Arena 3 zC i.b.a=zN i.b 1∧List.map zA i.b.buys=List.map zA i.b.buys∧List.map zA i.b.sells=List.map zA i.b.sells∧atE i.b.at_=atE i.b.at_∧iE i.b.spare=iE i.b.spare∧True))) (cnd (decide ((↑i_1:Int)<(↑(List.map zA i.b.sells).length:Int))) ((0≤(↑i_1:Int)∧(↑i_1:Int)<(↑(List.map zA i.b.sells).length:Int))∧∃(n:Int),zI (List.map zA i.b.sells) (↑i_1:Int).toNat ((0:Nat)+(0:Nat)) 1=some [D.v (.int .i64 n)]∧∃(o:Unit),(↑(zQ 2 (i.b.rungs 2) i.price):Int)=(↑i_1:Int)∧xM 2 (i.b.rungs 2) i.price=(n==i.price)∧i.b.top1=i.b.top1∧i.b.top2=i.b.top2∧i.b.has1=i.b.has1∧i.b.has2=i.b.has2∧AObj.adt Arena 3 zC i.b.a=zN i.b 1∧List.map zA i.b.buys=List.map zA i.b.buys∧List.map zA i.b.sells=List.map zA i.b.sells∧atE i.b.at_=atE i.b.at_∧iE i.b.spare=iE i.b.spare∧True) (∃(o:Unit),(↑(zQ 2 (i.b.rungs 2) i.price):Int)=(↑i_1:Int)∧xM 2 (i.b.rungs 2) i.price=false∧i.b.top1=i.b.top1∧i.b.top2=i.b.top2∧i.b.has1=i.b.has1∧i.b.has2=i.b.has2∧AObj.adt Arena 3 zC i.b.a=zN i.b 1∧List.map zA i.b.buys=List.map zA i.b.buys∧List.map zA i.b.sells=List.map zA i.b.sells∧atE i.b.at_=atE i.b.at_∧iE i.b.spare=iE i.b.spare∧True))
theorem z1e (hG:GOk Tryz.prog ([(60,bbetterC)])) (h:∀(i:BkP),find2C.cnd i→zHz i):find2C.ok Tryz.prog 98:=okw mixed hG 0 (fun _=>[]) (fun _=>z2o) [] Tryz.func98 h
@[reducible] def p8 (i:LdI) (b:Bool):Prop:=∃(o:Unit),i.id=i.id∧i.b.top2=i.b.top2∧true=true∧i.b.has2=i.b.has2∧AObj.adt Arena 3 zC (i.b.untop 1)=zN i.b 1∧List.map zA i.b.buys=List.map zA i.b.buys∧List.map zA i.b.sells=List.map zA i.b.sells∧atE i.b.at_=atE i.b.at_∧iE i.b.spare=iE i.b.spare∧True
def zLd (i:LdI):Prop:=
 cnd i.b.has1 ((∀(p:Value×List D),p∈atE i.b.at_→like (Value.int IntKind.i64 i.b.top1) p.fst=true)∧∃(b:Bool),∃(n:Int),∃(n_1:Int),∃(n_2:Int),(kV (Value.int IntKind.i64 i.b.top1) (atE i.b.at_)=some [D.v (.int .i64 n),D.v (.int .i64 n_1),D.v (.int .i64 n_2)]∧b=true∨kV (Value.int IntKind.i64 i.b.top1) (atE i.b.at_)=none∧[D.v (.int .i64 n),D.v (.int .i64 n_1),D.v (.int .i64 n_2)]=[D.v (.int .i64 0),D.v (.int .i64 0),D.v (.int .i64 0)]∧b=false)∧((∀(p:Value×List D),p∈atE i.b.at_→like (Value.int IntKind.i64 i.b.top1) p.fst=true)∧∃(b_1:Bool),∃(n_3:Int),∃(n_4:Int),∃(n_5:Int),(kV (Value.int IntKind.i64 i.b.top1) (atE i.b.at_)=some [D.v (.int .i64 n_3),D.v (.int .i64 n_4),D.v (.int .i64 n_5)]∧b_1=true∨kV (Value.int IntKind.i64 i.b.top1) (atE i.b.at_)=none∧[D.v (.int .i64 n_3),D.v (.int .i64 n_4),D.v (.int .i64 n_5)]=[D.v (.int .i64 0),D.v (.int .i64 0),D.v (.int .i64 0)]∧b_1=false)∧(n_3=n∧n_4=n_1∧n_5=n_2∧True)∧b_1=b∧True)∧i.b.top1=i.b.top1∧True∧cnd b (cnd (n==1) (∃(i_1:zJs),i_1.n=n_2∧i_1.t=false∧AObj.adt Arena 3 zC i_1.a=zN i.b 1∧i_1.a.slots.length≤1000000∧∀(o:Unit),True→∃(o:Unit),i.id=i.id∧i.b.top2=i.b.top2∧true=true∧i.b.has2=i.b.has2∧AObj.adt Arena 3 zC (i.b.untop 1)=AObj.adt Arena 3 zC (i_1.a.topF i_1.n i_1.t)∧List.map zA i.b.buys=List.map zA i.b.buys∧List.map zA i.b.sells=List.map zA i.b.sells∧atE i.b.at_=atE i.b.at_∧iE i.b.spare=iE i.b.spare∧True) (p8 i b)) (p8 i b)) (∃(o:Unit),i.id=i.id∧i.b.top2=i.b.top2∧true=true∧i.b.has2=i.b.has2∧AObj.adt Arena 3 zC (i.b.untop 1)=zN i.b 1∧List.map zA i.b.buys=List.map zA i.b.buys∧List.map zA i.b.sells=List.map zA i.b.sells∧atE i.b.at_=atE i.b.at_∧iE i.b.spare=iE i.b.spare∧True)
theorem zXz (hG:GOk Tryz.prog ([(94,atopC)])) (h:∀(i:LdI),lead1C.cnd i→zLd i):lead1C.ok Tryz.prog 61:=okw mixed hG 0 (fun _=>[]) (fun _=>[]) [] Tryz.func61 h
@[reducible] def rN (i:LdI) (b:Bool):Prop:=∃(o:Unit),i.b.top1=i.b.top1∧i.id=i.id∧i.b.has1=i.b.has1∧true=true∧AObj.adt Arena 3 zC (i.b.untop 2)=zN i.b 1∧List.map zA i.b.buys=List.map zA i.b.buys∧List.map zA i.b.sells=List.map zA i.b.sells∧atE i.b.at_=atE i.b.at_∧iE i.b.spare=iE i.b.spare∧True
def zIu (i:LdI):Prop:=
 cnd i.b.has2 ((∀(p:Value×List D),p∈atE i.b.at_→like (Value.int IntKind.i64 i.b.top2) p.fst=true)∧∃(b:Bool),∃(n:Int),∃(n_1:Int),∃(n_2:Int),(kV (Value.int IntKind.i64 i.b.top2) (atE i.b.at_)=some [D.v (.int .i64 n),D.v (.int .i64 n_1),D.v (.int .i64 n_2)]∧b=true∨kV (Value.int IntKind.i64 i.b.top2) (atE i.b.at_)=none∧[D.v (.int .i64 n),D.v (.int .i64 n_1),D.v (.int .i64 n_2)]=[D.v (.int .i64 0),D.v (.int .i64 0),D.v (.int .i64 0)]∧b=false)∧((∀(p:Value×List D),p∈atE i.b.at_→like (Value.int IntKind.i64 i.b.top2) p.fst=true)∧∃(b_1:Bool),∃(n_3:Int),∃(n_4:Int),∃(n_5:Int),(kV (Value.int IntKind.i64 i.b.top2) (atE i.b.at_)=some [D.v (.int .i64 n_3),D.v (.int .i64 n_4),D.v (.int .i64 n_5)]∧b_1=true∨kV (Value.int IntKind.i64 i.b.top2) (atE i.b.at_)=none∧[D.v (.int .i64 n_3),D.v (.int .i64 n_4),D.v (.int .i64 n_5)]=[D.v (.int .i64 0),D.v (.int .i64 0),D.v (.int .i64 0)]∧b_1=false)∧(n_3=n∧n_4=n_1∧n_5=n_2∧True)∧b_1=b∧True)∧i.b.top2=i.b.top2∧True∧cnd b (cnd (n==2) (∃(i_1:zJs),i_1.n=n_2∧i_1.t=false∧AObj.adt Arena 3 zC i_1.a=zN i.b 1∧i_1.a.slots.length≤1000000∧∀(o:Unit),True→∃(o:Unit),i.b.top1=i.b.top1∧i.id=i.id∧i.b.has1=i.b.has1∧true=true∧AObj.adt Arena 3 zC (i.b.untop 2)=AObj.adt Arena 3 zC (i_1.a.topF i_1.n i_1.t)∧List.map zA i.b.buys=List.map zA i.b.buys∧List.map zA i.b.sells=List.map zA i.b.sells∧atE i.b.at_=atE i.b.at_∧iE i.b.spare=iE i.b.spare∧True) (rN i b)) (rN i b)) (∃(o:Unit),i.b.top1=i.b.top1∧i.id=i.id∧i.b.has1=i.b.has1∧true=true∧AObj.adt Arena 3 zC (i.b.untop 2)=zN i.b 1∧List.map zA i.b.buys=List.map zA i.b.buys∧List.map zA i.b.sells=List.map zA i.b.sells∧atE i.b.at_=atE i.b.at_∧iE i.b.spare=iE i.b.spare∧True)
theorem z1r (hG:GOk Tryz.prog ([(94,atopC)])) (h:∀(i:LdI),lead2C.cnd i→zIu i):lead2C.ok Tryz.prog 61:=okw mixed hG 0 (fun _=>[]) (fun _=>[]) [] Tryz.func61 h
def zCk (i:BkP):Prop:=
 ∃(i_1:BkP),(1:Int)=(1:Int)∧i_1.price=i.price∧i_1.b.top1=i.b.top1∧i_1.b.top2=i.b.top2∧i_1.b.has1=i.b.has1∧i_1.b.has2=i.b.has2∧AObj.adt Arena 3 zC i_1.b.a=zN i.b 1∧List.map zA i_1.b.buys=List.map zA i.b.buys∧List.map zA i_1.b.sells=List.map zA i.b.sells∧atE i_1.b.at_=atE i.b.at_∧iE i_1.b.spare=iE i.b.spare∧((i_1.b.a.slots.length≤1000000∧i_1.b.a.queues.length≤1000000)∧i_1.b.buys.length≤1000000∧i_1.b.sells.length≤1000000∧i_1.b.spare.length≤1000000)∧∀(o:Unit),True→cnd (xM 1 (i_1.b.rungs 1) i_1.price) ((0≤(↑(zQ 1 (i_1.b.rungs 1) i_1.price):Int)∧(↑(zQ 1 (i_1.b.rungs 1) i_1.price):Int)<(↑(List.map zA i_1.b.buys).length:Int))∧∃(n:Int),zI (List.map zA i_1.b.buys) (↑(zQ 1 (i_1.b.rungs 1) i_1.price):Int).toNat ((0:Nat)+(1:Nat)) 1=some [D.v (.int .i64 n)]∧∃(o:Unit),(i.b.queueF 1 i.price).snd=n∧(i.b.queueF 1 i.price).fst.top1=i_1.b.top1∧(i.b.queueF 1 i.price).fst.top2=i_1.b.top2∧(i.b.queueF 1 i.price).fst.has1=i_1.b.has1∧(i.b.queueF 1 i.price).fst.has2=i_1.b.has2∧AObj.adt Arena 3 zC (i.b.queueF 1 i.price).fst.a=AObj.adt Arena 3 zC i_1.b.a∧List.map zA (i.b.queueF 1 i.price).fst.sells=List.map zA i_1.b.sells∧atE (i.b.queueF 1 i.price).fst.at_=atE i_1.b.at_∧List.map zA (i.b.queueF 1 i.price).fst.buys=List.map zA i_1.b.buys∧iE (i.b.queueF 1 i.price).fst.spare=iE i_1.b.spare∧True) (cnd (decide ((↑(iE i_1.b.spare).length:Int)>0)) ((0≤IntKind.i64.wrap ((↑(iE i_1.b.spare).length:Int)-1)∧IntKind.i64.wrap ((↑(iE i_1.b.spare).length:Int)-1)<(↑(iE i_1.b.spare).length:Int))∧∃(n:Int),zI (iE i_1.b.spare) (IntKind.i64.wrap ((↑(iE i_1.b.spare).length:Int)-1)).toNat 0 1=some [D.v (.int .i64 n)]∧(0≤IntKind.i64.wrap ((↑(iE i_1.b.spare).length:Int)-1)∧IntKind.i64.wrap ((↑(iE i_1.b.spare).length:Int)-1)≤(↑(iE i_1.b.spare).length:Int))∧True∧∃(i_2:zWz),(↑i_2.i:Int)=(↑(zQ 1 (i_1.b.rungs 1) i_1.price):Int)∧i_2.els=List.map zA i_1.b.buys∧[i_2.el]=[[D.v (.int .i64 i.price),D.v (.int .i64 n)]]∧(i_2.i≤i_2.els.length∧(i_2.els.length+1)*(16:Nat)≤(70368744177664:Nat))∧∀(o:Unit),True→∃(o:Unit),(i.b.queueF 1 i.price).snd=n∧(i.b.queueF 1 i.price).fst.top1=i_1.b.top1∧(i.b.queueF 1 i.price).fst.top2=i_1.b.top2∧(i.b.queueF 1 i.price).fst.has1=i_1.b.has1∧(i.b.queueF 1 i.price).fst.has2=i_1.b.has2∧AObj.adt Arena 3 zC (i.b.queueF 1 i.price).fst.a=AObj.adt Arena 3 zC i_1.b.a∧List.map zA (i.b.queueF 1 i.price).fst.sells=List.map zA i_1.b.sells∧atE (i.b.queueF 1 i.price).fst.at_=atE i_1.b.at_∧List.map zA (i.b.queueF 1 i.price).fst.buys=List.take i_2.i i_2.els++i_2.el::List.drop i_2.i i_2.els∧iE (i.b.queueF 1 i.price).fst.spare=List.take (IntKind.i64.wrap ((↑(iE i_1.b.spare).length:Int)-1)).toNat (iE i_1.b.spare)∧True) (∃(i_2:Arena),AObj.adt Arena 3 zC i_2=AObj.adt Arena 3 zC i_1.b.a∧i_2.queues.length≤1000000∧∀(o:Unit),True→True∧∃(i_3:zWz),(↑i_3.i:Int)=(↑(zQ 1 (i_1.b.rungs 1) i_1.price):Int)∧i_3.els=List.map zA i_1.b.buys∧[i_3.el]=[[D.v (.int .i64 i.price),D.v (.int .i64 (↑i_2.queues.length:Int))]]∧(i_3.i≤i_3.els.length∧(i_3.els.length+1)*(16:Nat)≤(70368744177664:Nat))∧∀(o:Unit),True→∃(o:Unit),(i.b.queueF 1 i.price).snd=(↑i_2.queues.length:Int)∧(i.b.queueF 1 i.price).fst.top1=i_1.b.top1∧(i.b.queueF 1 i.price).fst.top2=i_1.b.top2∧(i.b.queueF 1 i.price).fst.has1=i_1.b.has1∧(i.b.queueF 1 i.price).fst.has2=i_1.b.has2∧AObj.adt Arena 3 zC (i.b.queueF 1 i.price).fst.a=AObj.adt Arena 3 zC i_2.openQ∧List.map zA (i.b.queueF 1 i.price).fst.sells=List.map zA i_1.b.sells∧atE (i.b.queueF 1 i.price).fst.at_=atE i_1.b.at_∧List.map zA (i.b.queueF 1 i.price).fst.buys=List.take i_3.i i_3.els++i_3.el::List.drop i_3.i i_3.els∧iE (i.b.queueF 1 i.price).fst.spare=iE i_1.b.spare∧True))
theorem zRh (hG:GOk Tryz.prog ([(98,find1C),(99,aopenC),(100,insRC)])) (h:∀(i:BkP),queue1C.cnd i→zCk i):queue1C.ok Tryz.prog 63:=okw mixed hG 0 (fun _=>[]) (fun _=>[]) [] Tryz.func63 h
def zCn (i:BkP):Prop:=
 ∃(i_1:BkP),(2:Int)=(2:Int)∧i_1.price=i.price∧i_1.b.top1=i.b.top1∧i_1.b.top2=i.b.top2∧i_1.b.has1=i.b.has1∧i_1.b.has2=i.b.has2∧AObj.adt Arena 3 zC i_1.b.a=zN i.b 1∧List.map zA i_1.b.buys=List.map zA i.b.buys∧List.map zA i_1.b.sells=List.map zA i.b.sells∧atE i_1.b.at_=atE i.b.at_∧iE i_1.b.spare=iE i.b.spare∧((i_1.b.a.slots.length≤1000000∧i_1.b.a.queues.length≤1000000)∧i_1.b.buys.length≤1000000∧i_1.b.sells.length≤1000000∧i_1.b.spare.length≤1000000)∧∀(o:Unit),True→cnd (xM 2 (i_1.b.rungs 2) i_1.price) ((0≤(↑(zQ 2 (i_1.b.rungs 2) i_1.price):Int)∧(↑(zQ 2 (i_1.b.rungs 2) i_1.price):Int)<(↑(List.map zA i_1.b.sells).length:Int))∧∃(n:Int),zI (List.map zA i_1.b.sells) (↑(zQ 2 (i_1.b.rungs 2) i_1.price):Int).toNat ((0:Nat)+(1:Nat)) 1=some [D.v (.int .i64 n)]∧∃(o:Unit),(i.b.queueF 2 i.price).snd=n∧(i.b.queueF 2 i.price).fst.top1=i_1.b.top1∧(i.b.queueF 2 i.price).fst.top2=i_1.b.top2∧(i.b.queueF 2 i.price).fst.has1=i_1.b.has1∧(i.b.queueF 2 i.price).fst.has2=i_1.b.has2∧AObj.adt Arena 3 zC (i.b.queueF 2 i.price).fst.a=AObj.adt Arena 3 zC i_1.b.a∧List.map zA (i.b.queueF 2 i.price).fst.buys=List.map zA i_1.b.buys∧atE (i.b.queueF 2 i.price).fst.at_=atE i_1.b.at_∧List.map zA (i.b.queueF 2 i.price).fst.sells=List.map zA i_1.b.sells∧iE (i.b.queueF 2 i.price).fst.spare=iE i_1.b.spare∧True) (cnd (decide ((↑(iE i_1.b.spare).length:Int)>0)) ((0≤IntKind.i64.wrap ((↑(iE i_1.b.spare).length:Int)-1)∧IntKind.i64.wrap ((↑(iE i_1.b.spare).length:Int)-1)<(↑(iE i_1.b.spare).length:Int))∧∃(n:Int),zI (iE i_1.b.spare) (IntKind.i64.wrap ((↑(iE i_1.b.spare).length:Int)-1)).toNat 0 1=some [D.v (.int .i64 n)]∧(0≤IntKind.i64.wrap ((↑(iE i_1.b.spare).length:Int)-1)∧IntKind.i64.wrap ((↑(iE i_1.b.spare).length:Int)-1)≤(↑(iE i_1.b.spare).length:Int))∧True∧∃(i_2:zWz),(↑i_2.i:Int)=(↑(zQ 2 (i_1.b.rungs 2) i_1.price):Int)∧i_2.els=List.map zA i_1.b.sells∧[i_2.el]=[[D.v (.int .i64 i.price),D.v (.int .i64 n)]]∧(i_2.i≤i_2.els.length∧(i_2.els.length+1)*(16:Nat)≤(70368744177664:Nat))∧∀(o:Unit),True→∃(o:Unit),(i.b.queueF 2 i.price).snd=n∧(i.b.queueF 2 i.price).fst.top1=i_1.b.top1∧(i.b.queueF 2 i.price).fst.top2=i_1.b.top2∧(i.b.queueF 2 i.price).fst.has1=i_1.b.has1∧(i.b.queueF 2 i.price).fst.has2=i_1.b.has2∧AObj.adt Arena 3 zC (i.b.queueF 2 i.price).fst.a=AObj.adt Arena 3 zC i_1.b.a∧List.map zA (i.b.queueF 2 i.price).fst.buys=List.map zA i_1.b.buys∧atE (i.b.queueF 2 i.price).fst.at_=atE i_1.b.at_∧List.map zA (i.b.queueF 2 i.price).fst.sells=List.take i_2.i i_2.els++i_2.el::List.drop i_2.i i_2.els∧iE (i.b.queueF 2 i.price).fst.spare=List.take (IntKind.i64.wrap ((↑(iE i_1.b.spare).length:Int)-1)).toNat (iE i_1.b.spare)∧True) (∃(i_2:Arena),AObj.adt Arena 3 zC i_2=AObj.adt Arena 3 zC i_1.b.a∧i_2.queues.length≤1000000∧∀(o:Unit),True→True∧∃(i_3:zWz),(↑i_3.i:Int)=(↑(zQ 2 (i_1.b.rungs 2) i_1.price):Int)∧i_3.els=List.map zA i_1.b.sells∧[i_3.el]=[[D.v (.int .i64 i.price),D.v (.int .i64 (↑i_2.queues.length:Int))]]∧(i_3.i≤i_3.els.length∧(i_3.els.length+1)*(16:Nat)≤(70368744177664:Nat))∧∀(o:Unit),True→∃(o:Unit),(i.b.queueF 2 i.price).snd=(↑i_2.queues.length:Int)∧(i.b.queueF 2 i.price).fst.top1=i_1.b.top1∧(i.b.queueF 2 i.price).fst.top2=i_1.b.top2∧(i.b.queueF 2 i.price).fst.has1=i_1.b.has1∧(i.b.queueF 2 i.price).fst.has2=i_1.b.has2∧AObj.adt Arena 3 zC (i.b.queueF 2 i.price).fst.a=AObj.adt Arena 3 zC i_2.openQ∧List.map zA (i.b.queueF 2 i.price).fst.buys=List.map zA i_1.b.buys∧atE (i.b.queueF 2 i.price).fst.at_=atE i_1.b.at_∧List.map zA (i.b.queueF 2 i.price).fst.sells=List.take i_3.i i_3.els++i_3.el::List.drop i_3.i i_3.els∧iE (i.b.queueF 2 i.price).fst.spare=iE i_1.b.spare∧True))
theorem zSl (hG:GOk Tryz.prog ([(98,find2C),(99,aopenC),(100,insRC)])) (h:∀(i:BkP),queue2C.cnd i→zCn i):queue2C.ok Tryz.prog 63:=okw mixed hG 0 (fun _=>[]) (fun _=>[]) [] Tryz.func63 h
open Go Cv Go.Proofs
theorem vZ:bbetterC.ok Tryz.prog 60:=zPo gok0 fun i _=>by
 unfold zEt
 refine Cv.cnd.mk (fun c=> ?_) (fun c=> ?_)
 ·have c:i.side=1:=by simpa using c
  rw[btr,if_pos c];exact kp
 ·have c:¬i.side=1:=by simpa using c
  rw[btr,if_neg c];exact kp
theorem zUo:pushFC.ok Tryz.prog 97:=z1y gok0 fun s _=>by
 unfold zVc;exact kp
theorem yAk {l:List Slot} {k:Nat} {s:Slot} (h:l[k]? =some s):zI (l.map zL) k 0 8=some [D.v (.bool s.used),.v (.int .i64 s.n),.v (.int .i64 s.id),.v (.int .i64 s.qty),.v (.bool s.top),.v (.int .i64 s.queue),.v (.int .i64 s.ahead),.v (.int .i64 s.back)]:=elA h (by simp[zL]) rfl
theorem zTd (l:List Slot) (h:idxSlotC.cnd l):tN l:=by
 have h:l.length≤1000000:=h
 unfold tN
 simp only[List.length_map]
 refine⟨0,rfl,fun j=>j≤l.length∧∀k<j,∀x,l[k]? =some x→(!x.used)=false,fun j=>l.length-j,⟨by omega,fun k hk=>by omega⟩,?_⟩
 rintro j ⟨h3,h4⟩
 refine zT (fun hj=> ?_) (fun hj=> ?_)
 ·obtain⟨s,hs⟩:=z8 (l:=l) (i:=j) (by omega)
  refine⟨⟨by omega,by omega⟩,s.used,s.n,s.id,s.qty,s.top,s.queue,s.ahead,s.back,yAk hs,s,rfl,rfl,rfl,rfl,rfl,rfl,rfl,rfl,trivial,fun _ _=>Cv.cnd.mk (fun e=> ?_) (fun e=> ?_)⟩
  ·rw[xB,mS hs e h4];exact kp
  ·refine⟨j+1,by rw[w64 (by omega)];rfl,⟨by omega,fun k hk x hx=> ?_⟩,by(first|omega|(dsimp only;omega)),by(repeat'(first|exact trivial|exact rfl|apply And.intro))⟩
   rcases Nat.lt_or_ge k j with hk'|hk'
   ·exact h4 k hk' x hx
   ·obtain rfl:k=j:=by omega
    rw[hs]at hx;cases hx;exact e
 ·rw[xB,mN fun k x hx=>h4 k (by have:=(List.getElem?_eq_some_iff.1 hx).1;omega) x hx];exact kp
theorem zIh:idxSlotC.ok Tryz.prog 96:=zPx (gokc zUo gok0) zTd
theorem zGg:aopenC.ok Tryz.prog 99:=z0l gok0 fun a h=>by
 have h:a.queues.length≤1000000:=h
 unfold zWd
 rw[List.length_append,List.length_map,w64 (by simp only[List.length_cons,List.length_nil];omega)]
 refine⟨by omega,(),?_,rfl,rfl,?_,trivial⟩
 ·simp
 ·rw[List.map_append];rfl
theorem wR {α:Type} {f:α→α}:∀{l:List α} {i:Nat} {x:α},l[i]? =some x→l.modify i f=l.set i (f x)
 |[],i,x,h=>by simp at h
 |a::l,0,x,h=>by simp at h;subst h;rfl
 |a::l,i+1,x,h=>by
  simp only[List.getElem?_cons_succ]at h
  simp only[List.modify_succ_cons,List.set_cons_succ,wR h]
theorem yC {α:Type} {f:α→List D} {l:List α} {i g:Nat} {x y:α} {ds:List D} (hi:l[i]? =some x) (hh:(f x).take g++(ds++(f x).drop (g+ds.length))=f y):zK (l.map f) i g ds=(l.set i y).map f:=by
 have hlt:=(List.getElem?_eq_some_iff.1 hi).1
 rw[zK,wR (by rw[List.getElem?_map,hi];rfl),hh,List.map_set]
theorem k9 {α:Type} {l:List α} {i:Nat} {x y:α} (hi:l[i]? =some x):(l.set i y)[i]? =some y:=List.getElem?_set_self (List.getElem?_eq_some_iff.1 hi).1
theorem zP {α:Type} {l:List α} {i:Nat} {x d:α} (h:l[i]? =some x):l.getD i d=x:=by rw[List.getD_eq_getElem?_getD,h];rfl
theorem z9a (i:zJs) (h:atopC.cnd i):zTa i:=by
 have h:i.a.slots.length≤1000000:=h
 unfold zTa pK
 simp only[List.length_map]
 have no (e:i.a.usedAt i.n=false):i.a.topF i.n i.t=i.a:=by rw[Arena.topF,if_neg (by rw[e];decide)]
 refine zT (fun c=> ?_) (fun c=>zT (fun d=> ?_) (fun d=> ?_))
 ·have e:i.a.usedAt i.n=false:=by rw[Arena.usedAt,decide_eq_false (by omega),Bool.false_and]
  rw[no e,e];exact kp
 ·have e:i.a.usedAt i.n=false:=by rw[Arena.usedAt,decide_eq_false (show ¬i.n<(i.a.slots.length:Int)by omega),Bool.false_and,Bool.and_false]
  rw[no e,e];exact kp
 ·obtain⟨s,hs⟩:=z8 (l:=i.a.slots) (i:=i.n.toNat) (by omega)
  have eu:i.a.usedAt i.n=s.used:=by rw[Arena.usedAt,decide_eq_true (show 0≤i.n by omega),decide_eq_true (show i.n<(i.a.slots.length:Int)by omega),zP hs];simp
  refine⟨⟨by omega,by omega⟩,s.used,elA hs (by simp[zL]) rfl,Cv.cnd.mk (fun u=> ?_) (fun u=> ?_)⟩
  ·have e:i.a.usedAt i.n=false:=by rw[eu];simpa using u
   rw[no e,e];exact kp
  ·have e:i.a.usedAt i.n=true:=by rw[eu];simpa using u
   have et:i.a.topF i.n i.t={i.a with slots:=i.a.slots.set i.n.toNat {s with top:=i.t}}:=by
    rw[Arena.topF,if_pos e,wR hs]
   rw[et,e,yC hs (y:={s with top:=i.t}) rfl]
   refine⟨⟨by omega,by omega⟩,by omega,(),rfl,rfl,rfl,rfl,trivial⟩
theorem zNp:atopC.ok Tryz.prog 94:=z4j gok0 z9a
theorem zTh {l:List Slot} (h:∃s∈l,s.used=false):∃k:Nat,xB l=k∧k<l.length:=by
 obtain⟨s,hs,hu⟩:=h
 cases hf:l.findIdx? fun s=> !s.used with
 |none=>
  rw[List.findIdx?_eq_none_iff]at hf
  have:=hf s hs
  rw[hu]at this;cases this
 |some k=>
  rw[List.findIdx?_eq_some_iff_getElem]at hf
  exact⟨k,by rw[xB,show(l.findIdx? fun s=> !s.used)=some k by rw[List.findIdx?_eq_some_iff_getElem];exact hf];rfl,hf.1⟩
theorem z7b (i:PuI) (h:apushC.cnd i):zLf i:=by
 obtain⟨h1,h2,h3⟩:i.a.fit:=h
 unfold zLf rX rK
 simp only[List.length_map]
 have out (e:i.n<0∨i.a.queues.length≤i.n):i.a.push i.n i.id i.qty i.top=(i.a,0,26):=by rw[Arena.push,if_pos e]
 refine zT (fun c=>Cv.cnd.mk (fun d=> ?_) (fun d=> ?_)) (fun c=> ?_)
 ·have d:¬i.n<(i.a.queues.length:Int):=by simpa using d
  rw[out (.inr (by omega))];exact kp
 ·have d:i.n<(i.a.queues.length:Int):=by simpa using d
  have hn:¬(i.n<0∨(i.a.queues.length:Int)≤i.n):=by omega
  refine zT (fun q1=> ?_) (fun q1=>zT (fun q2=> ?_) (fun q2=>Cv.cnd.mk (fun fr=> ?_) (fun fr=> ?_)))
  ·rw[Arena.push,if_neg hn,if_pos (.inl q1)];exact kp
  ·rw[Arena.push,if_neg hn,if_pos (.inr q2)];exact kp
  ·rw[Arena.push,if_neg hn,if_neg (by omega),if_pos (by simpa using fr)];exact kp
  ·have fr:i.a.free≠0:=by simpa using fr
   have ep:i.a.push i.n i.id i.qty i.top=(i.a.put i.n i.id i.qty i.top,xB i.a.slots,0):=by rw[Arena.push,if_neg hn,if_neg (by omega),if_neg fr]
   obtain⟨k,hk,hkl⟩:=zTh (h2 fr)
   obtain⟨q,hq⟩:=z8 (l:=i.a.queues) (i:=i.n.toNat) (by omega)
   have hqm:=List.mem_of_getElem? hq
   have hl:=h3 q hqm
   obtain⟨s,hs⟩:=z8 hkl
   refine⟨i.a.slots,rfl,h1,fun _ _=>⟨⟨by omega,by omega⟩,q.last,elA hq (by simp[zF]) rfl,⟨by omega,by omega⟩,by rw[hk];exact hkl,q.last,elA hq (by simp[zF]) rfl,?_⟩⟩
   rw[ep]
   have eput:i.a.put i.n i.id i.qty i.top=⟨if q.last= -1 then i.a.slots.set k ⟨true,k,i.id,i.qty,i.top,i.n,q.last,-1⟩else(i.a.slots.set k ⟨true,k,i.id,i.qty,i.top,i.n,q.last,-1⟩).modify q.last.toNat fun s=>{s with back:=k},i.a.queues.set i.n.toNat ⟨if q.last= -1 then k else q.first,k,IntKind.i64.wrap (q.total+i.qty),IntKind.i64.wrap (q.count+1)⟩,IntKind.i64.wrap (i.a.free-1)⟩:=by
    simp only[Arena.put,zP hq,hk,Int.toNat_natCast]
   rw[eput,hk]
   simp only[Int.toNat_natCast]
   have es:zK (List.map zL i.a.slots) k 0 [D.v (.bool true),D.v (.int .i64 k),D.v (.int .i64 i.id),D.v (.int .i64 i.qty),D.v (.bool i.top),D.v (.int .i64 i.n),D.v (.int .i64 q.last),D.v (.int .i64 (-1))]=List.map zL (i.a.slots.set k ⟨true,k,i.id,i.qty,i.top,i.n,q.last,-1⟩):=yC hs rfl
   rw[es]
   refine Cv.cnd.mk (fun e=> ?_) (fun e=> ?_)
   ·have e:q.last= -1:=by simpa using e
    have e1:zK (List.map zF i.a.queues) i.n.toNat (0+0) [D.v (.int .i64 k)]=List.map zF (i.a.queues.set i.n.toNat {q with first:=k}):=yC hq rfl
    have g1:=k9 (y:={q with first:=(k:Int)}) hq
    have e2:zK (List.map zF (i.a.queues.set i.n.toNat {q with first:=k})) i.n.toNat (0+1) [D.v (.int .i64 k)]=List.map zF (i.a.queues.set i.n.toNat {q with first:=k,last:=k}):=by
     rw[yC g1 (y:={q with first:=(k:Int),last:=(k:Int)}) rfl,List.set_set]
    have g2:=k9 (y:={q with first:=(k:Int),last:=(k:Int)}) hq
    have e3:zK (List.map zF (i.a.queues.set i.n.toNat {q with first:=k,last:=k})) i.n.toNat (0+2) [D.v (.int .i64 (IntKind.i64.wrap (q.total+i.qty)))]=List.map zF (i.a.queues.set i.n.toNat {q with first:=k,last:=k,total:=IntKind.i64.wrap (q.total+i.qty)}):=by
     rw[yC g2 (y:={q with first:=(k:Int),last:=(k:Int),total:=IntKind.i64.wrap (q.total+i.qty)}) rfl,List.set_set]
    have g3:=k9 (y:={q with first:=(k:Int),last:=(k:Int),total:=IntKind.i64.wrap (q.total+i.qty)}) hq
    have e4:zK (List.map zF (i.a.queues.set i.n.toNat {q with first:=k,last:=k,total:=IntKind.i64.wrap (q.total+i.qty)})) i.n.toNat (0+3) [D.v (.int .i64 (IntKind.i64.wrap (q.count+1)))]=List.map zF (i.a.queues.set i.n.toNat ⟨k,k,IntKind.i64.wrap (q.total+i.qty),IntKind.i64.wrap (q.count+1)⟩):=by
     rw[yC g3 (y:=⟨k,k,IntKind.i64.wrap (q.total+i.qty),IntKind.i64.wrap (q.count+1)⟩) rfl,List.set_set]
    rw[e1,e2]
    simp only[if_pos e]
    refine⟨by omega,by simp only[List.length_map,List.length_set];omega,q.total,elA g2 (by simp[zF]) rfl,by simp only[List.length_map,List.length_set];omega,q.count,?_,by rw[e3];simp only[List.length_map,List.length_set];omega,(),?_⟩
    ·rw[e3];exact elA g3 (by simp[zF]) rfl
    ·rw[e3,e4];exact kp
   ·have e:¬q.last= -1:=by simpa using e
    have hl:0≤q.last∧q.last<i.a.slots.length:=hl.resolve_left e
    have e2:zK (List.map zF i.a.queues) i.n.toNat (0+1) [D.v (.int .i64 k)]=List.map zF (i.a.queues.set i.n.toNat {q with last:=k}):=yC hq rfl
    have g2:=k9 (y:={q with last:=(k:Int)}) hq
    have e3:zK (List.map zF (i.a.queues.set i.n.toNat {q with last:=k})) i.n.toNat (0+2) [D.v (.int .i64 (IntKind.i64.wrap (q.total+i.qty)))]=List.map zF (i.a.queues.set i.n.toNat {q with last:=k,total:=IntKind.i64.wrap (q.total+i.qty)}):=by
     rw[yC g2 (y:={q with last:=(k:Int),total:=IntKind.i64.wrap (q.total+i.qty)}) rfl,List.set_set]
    have g3:=k9 (y:={q with last:=(k:Int),total:=IntKind.i64.wrap (q.total+i.qty)}) hq
    have e4:zK (List.map zF (i.a.queues.set i.n.toNat {q with last:=k,total:=IntKind.i64.wrap (q.total+i.qty)})) i.n.toNat (0+3) [D.v (.int .i64 (IntKind.i64.wrap (q.count+1)))]=List.map zF (i.a.queues.set i.n.toNat ⟨q.first,k,IntKind.i64.wrap (q.total+i.qty),IntKind.i64.wrap (q.count+1)⟩):=by
     rw[yC g3 (y:=⟨q.first,k,IntKind.i64.wrap (q.total+i.qty),IntKind.i64.wrap (q.count+1)⟩) rfl,List.set_set]
    obtain⟨s2,hs2⟩:=z8 (l:=i.a.slots.set k ⟨true,k,i.id,i.qty,i.top,i.n,q.last,-1⟩) (i:=q.last.toNat) (by rw[List.length_set];omega)
    have e5:zK (List.map zL (i.a.slots.set k ⟨true,k,i.id,i.qty,i.top,i.n,q.last,-1⟩)) q.last.toNat (0+7) [D.v (.int .i64 k)]=List.map zL ((i.a.slots.set k ⟨true,k,i.id,i.qty,i.top,i.n,q.last,-1⟩).modify q.last.toNat fun s=>{s with back:=k}):=by
     rw[yC hs2 (y:={s2 with back:=(k:Int)}) rfl,wR hs2]
    rw[e2]
    simp only[if_neg e]
    refine⟨q.last,elA hq (by simp[zF]) rfl,⟨by omega,by simp only[List.length_map,List.length_set];omega⟩,by simp only[List.length_map,List.length_set];omega,by omega,q.total,elA g2 (by simp[zF]) rfl,by simp only[List.length_map,List.length_set];omega,q.count,?_,by rw[e3];simp only[List.length_map,List.length_set];omega,(),?_⟩
    ·rw[e3];exact elA g3 (by simp[zF]) rfl
    ·rw[e3,e4,e5];exact kp
 ·rw[out (.inl (by omega))];exact kp
theorem zFu:apushC.ok Tryz.prog 62:=zZr (gokc zIh gok0) z7b
theorem uQ {s price:Int}:∀{l:List y7} {j:Nat},j≤l.length→(∀k<j,∀r,l[k]? =some r→btr s r.price price=true)→(∀r,l[j]? =some r→btr s r.price price=false)→zQ s l price=j
 |[],j,hj,_,_=>by
  obtain rfl:j=0:=by simpa using hj
  rfl
 |r::l,0,_,_,he=>by
  have:=he r rfl
  rw[zQ,List.takeWhile_cons,this];rfl
 |r::l,j+1,hj,h,he=>by
  have h0:=h 0 (by omega) r rfl
  have ih:=uQ (l:=l) (j:=j) (by simpa using hj) (fun k hk x hx=>h (k+1) (by omega) x (by simpa using hx)) (fun x hx=>he x (by simpa using hx))
  rw[zQ]at ih ⊢
  rw[List.takeWhile_cons,h0,if_pos rfl,List.length_cons,ih]
theorem aT (s price:Int) (l:List y7):zQ s l price≤l.length:=(List.takeWhile_sublist _).length_le
theorem gU (b:Book):b.rungs 1=b.buys:=rfl
theorem gS (b:Book):b.rungs 2=b.sells:=rfl
theorem z4z (i:BkP) (h:find1C.cnd i):zJf i:=by
 obtain⟨_,h1,h2,_⟩:i.b.small:=h
 unfold zJf
 simp only[List.length_map,gU]
 refine⟨0,rfl,fun j=>j≤i.b.buys.length∧∀k<j,∀r,i.b.buys[k]? =some r→btr 1 r.price i.price=true,fun j=>i.b.buys.length-j,⟨by omega,fun k hk=>by omega⟩,?_⟩
 rintro j ⟨h3,h4⟩
 refine zT (fun hj=> ?_) (fun hj=> ?_)
 ·obtain⟨r,hr⟩:=z8 (l:=i.b.buys) (i:=j) (by omega)
  refine⟨⟨by omega,by omega⟩,r.price,elA hr (by simp[zA]) rfl,⟨1,r.price,i.price⟩,rfl,rfl,rfl,trivial,fun _ _=> ?_⟩
  dsimp only
  refine Cv.cnd.mk (fun e=>⟨j+1,by rw[w64 (by omega)];rfl,⟨by omega,fun k hk x hx=> ?_⟩,by(first|omega|(dsimp only;omega)),by(repeat'(first|exact trivial|exact rfl|apply And.intro))⟩) (fun e=>zT (fun _=> ?_) (fun c=>absurd hj c))
  ·rcases Nat.lt_or_ge k j with hk'|hk'
   ·exact h4 k hk' x hx
   ·obtain rfl:k=j:=by omega
    rw[hr]at hx;cases hx;exact e
  ·have en:zQ 1 i.b.buys i.price=j:=uQ h3 h4 fun x hx=>by rw[hr]at hx;cases hx;exact e
   have eb:xM 1 i.b.buys i.price=(r.price==i.price):=by rw[xM,en,hr];exact(zGj _ _).symm
   refine⟨⟨by omega,by omega⟩,r.price,elA hr (by simp[zA]) rfl,(),by rw[en],eb,?_⟩
   (repeat'(first|exact trivial|exact rfl|apply And.intro))
 ·have en:zQ 1 i.b.buys i.price=j:=uQ h3 h4 fun x hx=>by have:=(List.getElem?_eq_some_iff.1 hx).1;omega
  have eb:xM 1 i.b.buys i.price=false:=by rw[xM,en,List.getElem?_eq_none (by omega)]
  refine zT (fun c=>absurd c hj) (fun _=>⟨(),by rw[en],eb,?_⟩)
  (repeat'(first|exact trivial|exact rfl|apply And.intro))
theorem sG:find1C.ok Tryz.prog 98:=z1t (gokc vZ gok0) z4z
theorem qT (l:List (Int×Place)) (k:Int):∀(p:Value×List D),p∈atE l→like (Value.int IntKind.i64 k) p.1=true:=by
 intro p hp
 obtain⟨x,_,rfl⟩:=List.mem_map.1 hp
 rfl
theorem dZ (k:Int):∀l:List (Int×Place),kV (Value.int IntKind.i64 k) (atE l)=(pget l k).map zKq
 |[]=>rfl
 |(a,v)::l=>by
  have ih:=dZ k l
  show(bif (keq .i64 .i64 && decide (k=a))then _ else kV _ (atE l))=_
  by_cases h:k=a
  ·subst h;simp[pget,keq]
  ·have h':¬a=k:=fun e=>h e.symm
   rw[show(keq .i64 .i64 && decide (k=a))=false by simp[h],cond_false,ih]
   simp[pget,List.find?_cons,h']
def mW:Place:=⟨0,0,0⟩
theorem lC (l:List (Int×Place)) (k:Int):kV (Value.int IntKind.i64 k) (atE l)=some [D.v (.int .i64 ((pget l k).getD mW).side),D.v (.int .i64 ((pget l k).getD mW).price),D.v (.int .i64 ((pget l k).getD mW).slot)]∧(pget l k).isSome=true∨kV (Value.int IntKind.i64 k) (atE l)=none∧[D.v (.int .i64 ((pget l k).getD mW).side),D.v (.int .i64 ((pget l k).getD mW).price),D.v (.int .i64 ((pget l k).getD mW).slot)]=[D.v (.int .i64 0),D.v (.int .i64 0),D.v (.int .i64 0)]∧(pget l k).isSome=false:=by
 rw[dZ]
 cases pget l k with
 |none=>exact .inr ⟨rfl,rfl,rfl⟩
 |some v=>exact .inl ⟨rfl,rfl⟩
theorem zDd (k:Int) (v:Place):∀l,wY (Value.int IntKind.i64 k) (zKq v) (atE l)=atE (h8 k v l)
 |[]=>rfl
 |(a,b)::l=>by
  have ih:=zDd k v l
  show(bif (keq .i64 .i64 && decide (k=a))then _ else _::wY _ _ (atE l))=_
  rw[ih,h8]
  by_cases h:k=a
  ·subst h;simp[keq,atE]
  ·simp[h,atE]
theorem z4o (i:LdI) (h:lead1C.cnd i):zLd i:=by
 obtain⟨⟨ha,_⟩,h1,h2,_⟩:i.b.small:=h
 unfold zLd p8
 have no (e:i.b.untop 1=i.b.a):AObj.adt Arena 3 zC (i.b.untop 1)=zN i.b 1:=by rw[e];rfl
 refine Cv.cnd.mk (fun c=> ?_) (fun c=>⟨(),?_⟩)
 ·have c:i.b.hasF 1=true:=c
  refine⟨qT _ _,(pget i.b.at_ i.b.top1).isSome,_,_,_,lC _ _,⟨qT _ _,(pget i.b.at_ i.b.top1).isSome,_,_,_,lC _ _,⟨rfl,rfl,rfl,trivial⟩,rfl,trivial⟩,rfl,trivial,Cv.cnd.mk (fun d=>Cv.cnd.mk (fun e=> ?_) (fun e=>⟨(),?_⟩)) (fun d=>⟨(),?_⟩)⟩
  ·obtain⟨o,ho⟩:=Option.isSome_iff_exists.1 d
   have e:o.side=1:=by rw[ho]at e;simpa using e
   have eu:i.b.untop 1=i.b.a.topF o.slot false:=by
    have ht:pget i.b.at_ (i.b.topI 1)=some o:=ho
    rw[Book.untop,if_pos c,ht];dsimp only;rw[if_pos e]
   refine⟨⟨i.b.a,o.slot,false⟩,by rw[ho];rfl,rfl,rfl,ha,fun _ _=>⟨(),?_⟩⟩
   rw[eu];(repeat'(first|exact trivial|exact rfl|apply And.intro))
  ·obtain⟨o,ho⟩:=Option.isSome_iff_exists.1 d
   have e:¬o.side=1:=by rw[ho]at e;simpa using e
   have ht:pget i.b.at_ (i.b.topI 1)=some o:=ho
   rw[no (by rw[Book.untop,if_pos c,ht];dsimp only;rw[if_neg e])];(repeat'(first|exact trivial|exact rfl|apply And.intro))
  ·have ht:pget i.b.at_ (i.b.topI 1)=none:=by
    show pget i.b.at_ i.b.top1=none
    simpa using d
   rw[no (by rw[Book.untop,if_pos c,ht])];(repeat'(first|exact trivial|exact rfl|apply And.intro))
 ·have c:¬i.b.hasF 1=true:=by rw[show i.b.hasF 1=i.b.has1 from rfl,c];decide
  rw[no (by rw[Book.untop,if_neg c])];(repeat'(first|exact trivial|exact rfl|apply And.intro))
theorem zSz:lead1C.ok Tryz.prog 61:=zXz (gokc zNp gok0) z4o
theorem zGf {s price:Int} {l:List y7} (h:xM s l price=true):∃r,l[zQ s l price]? =some r:=by
 rw[xM]at h
 split at h
 ·rename_i r hr;exact⟨r,hr⟩
 ·cases h
theorem z1l (i:BkP) (h:queue1C.cnd i):zCk i:=by
 obtain⟨⟨ha,_⟩,ha',h1,h2,h3⟩:i.b.fit:=h
 have hle:=aT 1 i.price i.b.buys
 unfold zCk
 refine⟨i,rfl,rfl,rfl,rfl,rfl,rfl,rfl,rfl,rfl,rfl,rfl,⟨⟨ha,by omega⟩,by omega,by omega,by omega⟩,fun _ _=> ?_⟩
 simp only[List.length_map,yX,gU]
 refine Cv.cnd.mk (fun c=> ?_) (fun c=> ?_)
 ·obtain⟨r,hr⟩:=zGf c
  have hlt:=(List.getElem?_eq_some_iff.1 hr).1
  have e:i.b.queueF 1 i.price=(i.b,r.queue):=by rw[Book.queueF,if_pos (by rw[gU];exact c),gU,zP hr]
  rw[e]
  refine⟨⟨by omega,by omega⟩,r.queue,elA (by simpa using hr) (by simp[zA]) rfl,(),?_⟩
  (repeat'(first|exact trivial|exact rfl|apply And.intro))
 ·have e:i.b.queueF 1 i.price=({i.b with a:=i.b.newQ.2.2,buys:=i.b.ins 1 i.price,spare:=i.b.newQ.2.1},i.b.newQ.1):=by
   rw[Book.queueF,if_neg (by rw[gU,c];decide),if_pos rfl]
  have hins:List.map zA (i.b.ins 1 i.price)=List.take (zQ 1 i.b.buys i.price) (List.map zA i.b.buys)++zA ⟨i.price,i.b.newQ.1⟩::List.drop (zQ 1 i.b.buys i.price) (List.map zA i.b.buys):=by
   rw[Book.ins,gU,List.map_append,List.map_cons,List.map_take,List.map_drop]
  rw[e]
  refine zT (fun d=> ?_) (fun d=> ?_)
  ·have w:IntKind.i64.wrap ((i.b.spare.length:Int)-1)=((i.b.spare.length-1:Nat):Int):=by rw[w64 (by omega)];omega
   rw[w]
   simp only[Int.toNat_natCast]
   obtain⟨q,hq⟩:=z8 (l:=i.b.spare) (i:=i.b.spare.length-1) (by omega)
   have eq:i.b.newQ=(q,i.b.spare.take (i.b.spare.length-1),i.b.a):=by rw[Book.newQ,if_neg (by omega),zP hq]
   rw[eq]at hins ⊢
   refine⟨⟨by omega,by omega⟩,q,elI hq,⟨by omega,by omega⟩,trivial,⟨i.b.buys.map zA,zA ⟨i.price,q⟩,zQ 1 i.b.buys i.price⟩,rfl,rfl,rfl,⟨by rw[List.length_map];exact hle,by rw[List.length_map];omega⟩,fun _ _=>⟨(),?_⟩⟩
   have hs:iE (i.b.spare.take (i.b.spare.length-1))=(iE i.b.spare).take (i.b.spare.length-1):=by simp only[iE,List.map_take]
   exact kp
  ·have eq:i.b.newQ=((i.b.a.queues.length:Int),i.b.spare,i.b.a.openQ):=by rw[Book.newQ,if_pos (by omega)]
   rw[eq]at hins ⊢
   refine⟨i.b.a,rfl,by omega,fun _ _=>⟨trivial,⟨i.b.buys.map zA,zA ⟨i.price,i.b.a.queues.length⟩,zQ 1 i.b.buys i.price⟩,rfl,rfl,rfl,⟨by rw[List.length_map];exact hle,by rw[List.length_map];omega⟩,fun _ _=>⟨(),?_⟩⟩⟩
   exact kp
theorem mU:jK Tryz.prog 132=some (141,2,16,#[.int .i64 0,.int .i64 0]):=by kernel_rfl
theorem zNf:insRC.ok Tryz.prog 100:=
 insX_ok (tS:=132) (tI:=3) (fO:=122) (fR:=123) (z:= #[.int .i64 0,.int .i64 0]) mixed Tryz.func100 rfl (by kernel_rfl) (by kernel_rfl) (by kernel_rfl) (by kernel_rfl) mU rfl (by decide) (by decide) (by kernel_rfl) Tryz.underlying3
  (z0s (tS:=132) (tB:=4) Tryz.func122 (by kernel_rfl) (by kernel_rfl) (by kernel_rfl) (by kernel_rfl) mU) (fun s sn sk i v vn vk w R=>by kernel_rfl)
theorem zOn:queue1C.ok Tryz.prog 63:=zRh (gokc sG (gokc zGg (gokc zNf gok0))) z1l
theorem z7t (i:BkP) (h:find2C.cnd i):zHz i:=by
 obtain⟨_,h1,h2,_⟩:i.b.small:=h
 unfold zHz
 simp only[List.length_map,gS]
 refine⟨0,rfl,fun j=>j≤i.b.sells.length∧∀k<j,∀r,i.b.sells[k]? =some r→btr 2 r.price i.price=true,fun j=>i.b.sells.length-j,⟨by omega,fun k hk=>by omega⟩,?_⟩
 rintro j ⟨h3,h4⟩
 refine zT (fun hj=> ?_) (fun hj=> ?_)
 ·obtain⟨r,hr⟩:=z8 (l:=i.b.sells) (i:=j) (by omega)
  refine⟨⟨by omega,by omega⟩,r.price,elA hr (by simp[zA]) rfl,⟨2,r.price,i.price⟩,rfl,rfl,rfl,trivial,fun _ _=> ?_⟩
  dsimp only
  refine Cv.cnd.mk (fun e=>⟨j+1,by rw[w64 (by omega)];rfl,⟨by omega,fun k hk x hx=> ?_⟩,by(first|omega|(dsimp only;omega)),by(repeat'(first|exact trivial|exact rfl|apply And.intro))⟩) (fun e=>zT (fun _=> ?_) (fun c=>absurd hj c))
  ·rcases Nat.lt_or_ge k j with hk'|hk'
   ·exact h4 k hk' x hx
   ·obtain rfl:k=j:=by omega
    rw[hr]at hx;cases hx;exact e
  ·have en:zQ 2 i.b.sells i.price=j:=uQ h3 h4 fun x hx=>by rw[hr]at hx;cases hx;exact e
   have eb:xM 2 i.b.sells i.price=(r.price==i.price):=by rw[xM,en,hr];exact(zGj _ _).symm
   refine⟨⟨by omega,by omega⟩,r.price,elA hr (by simp[zA]) rfl,(),by rw[en],eb,?_⟩
   (repeat'(first|exact trivial|exact rfl|apply And.intro))
 ·have en:zQ 2 i.b.sells i.price=j:=uQ h3 h4 fun x hx=>by have:=(List.getElem?_eq_some_iff.1 hx).1;omega
  have eb:xM 2 i.b.sells i.price=false:=by rw[xM,en,List.getElem?_eq_none (by omega)]
  refine zT (fun c=>absurd c hj) (fun _=>⟨(),by rw[en],eb,?_⟩)
  (repeat'(first|exact trivial|exact rfl|apply And.intro))
theorem tC:find2C.ok Tryz.prog 98:=z1e (gokc vZ gok0) z7t
theorem z5b (i:LdI) (h:lead2C.cnd i):zIu i:=by
 obtain⟨⟨ha,_⟩,h1,h2,_⟩:i.b.small:=h
 unfold zIu rN
 have no (e:i.b.untop 2=i.b.a):AObj.adt Arena 3 zC (i.b.untop 2)=zN i.b 1:=by rw[e];rfl
 refine Cv.cnd.mk (fun c=> ?_) (fun c=>⟨(),?_⟩)
 ·have c:i.b.hasF 2=true:=c
  refine⟨qT _ _,(pget i.b.at_ i.b.top2).isSome,_,_,_,lC _ _,⟨qT _ _,(pget i.b.at_ i.b.top2).isSome,_,_,_,lC _ _,⟨rfl,rfl,rfl,trivial⟩,rfl,trivial⟩,rfl,trivial,Cv.cnd.mk (fun d=>Cv.cnd.mk (fun e=> ?_) (fun e=>⟨(),?_⟩)) (fun d=>⟨(),?_⟩)⟩
  ·obtain⟨o,ho⟩:=Option.isSome_iff_exists.1 d
   have e:o.side=2:=by rw[ho]at e;simpa using e
   have eu:i.b.untop 2=i.b.a.topF o.slot false:=by
    have ht:pget i.b.at_ (i.b.topI 2)=some o:=ho
    rw[Book.untop,if_pos c,ht];dsimp only;rw[if_pos e]
   refine⟨⟨i.b.a,o.slot,false⟩,by rw[ho];rfl,rfl,rfl,ha,fun _ _=>⟨(),?_⟩⟩
   rw[eu];(repeat'(first|exact trivial|exact rfl|apply And.intro))
  ·obtain⟨o,ho⟩:=Option.isSome_iff_exists.1 d
   have e:¬o.side=2:=by rw[ho]at e;simpa using e
   have ht:pget i.b.at_ (i.b.topI 2)=some o:=ho
   rw[no (by rw[Book.untop,if_pos c,ht];dsimp only;rw[if_neg e])];(repeat'(first|exact trivial|exact rfl|apply And.intro))
  ·have ht:pget i.b.at_ (i.b.topI 2)=none:=by
    show pget i.b.at_ i.b.top2=none
    simpa using d
   rw[no (by rw[Book.untop,if_pos c,ht])];(repeat'(first|exact trivial|exact rfl|apply And.intro))
 ·have c:¬i.b.hasF 2=true:=by rw[show i.b.hasF 2=i.b.has2 from rfl,c];decide
  rw[no (by rw[Book.untop,if_neg c])];(repeat'(first|exact trivial|exact rfl|apply And.intro))
theorem zUx:lead2C.ok Tryz.prog 61:=z1r (gokc zNp gok0) z5b
theorem z0e (i:BkP) (h:queue2C.cnd i):zCn i:=by
 obtain⟨⟨ha,_⟩,ha',h1,h2,h3⟩:i.b.fit:=h
 have hle:=aT 2 i.price i.b.sells
 unfold zCn
 refine⟨i,rfl,rfl,rfl,rfl,rfl,rfl,rfl,rfl,rfl,rfl,rfl,⟨⟨ha,by omega⟩,by omega,by omega,by omega⟩,fun _ _=> ?_⟩
 simp only[List.length_map,yX,gS]
 refine Cv.cnd.mk (fun c=> ?_) (fun c=> ?_)
 ·obtain⟨r,hr⟩:=zGf c
  have hlt:=(List.getElem?_eq_some_iff.1 hr).1
  have e:i.b.queueF 2 i.price=(i.b,r.queue):=by rw[Book.queueF,if_pos (by rw[gS];exact c),gS,zP hr]
  rw[e]
  refine⟨⟨by omega,by omega⟩,r.queue,elA (by simpa using hr) (by simp[zA]) rfl,(),?_⟩
  (repeat'(first|exact trivial|exact rfl|apply And.intro))
 ·have e:i.b.queueF 2 i.price=({i.b with a:=i.b.newQ.2.2,sells:=i.b.ins 2 i.price,spare:=i.b.newQ.2.1},i.b.newQ.1):=by
   rw[Book.queueF,if_neg (by rw[gS,c];decide),if_neg (by decide)]
  have hins:List.map zA (i.b.ins 2 i.price)=List.take (zQ 2 i.b.sells i.price) (List.map zA i.b.sells)++zA ⟨i.price,i.b.newQ.1⟩::List.drop (zQ 2 i.b.sells i.price) (List.map zA i.b.sells):=by
   rw[Book.ins,gS,List.map_append,List.map_cons,List.map_take,List.map_drop]
  rw[e]
  refine zT (fun d=> ?_) (fun d=> ?_)
  ·have w:IntKind.i64.wrap ((i.b.spare.length:Int)-1)=((i.b.spare.length-1:Nat):Int):=by rw[w64 (by omega)];omega
   rw[w]
   simp only[Int.toNat_natCast]
   obtain⟨q,hq⟩:=z8 (l:=i.b.spare) (i:=i.b.spare.length-1) (by omega)
   have eq:i.b.newQ=(q,i.b.spare.take (i.b.spare.length-1),i.b.a):=by rw[Book.newQ,if_neg (by omega),zP hq]
   rw[eq]at hins ⊢
   refine⟨⟨by omega,by omega⟩,q,elI hq,⟨by omega,by omega⟩,trivial,⟨i.b.sells.map zA,zA ⟨i.price,q⟩,zQ 2 i.b.sells i.price⟩,rfl,rfl,rfl,⟨by rw[List.length_map];exact hle,by rw[List.length_map];omega⟩,fun _ _=>⟨(),?_⟩⟩
   have hs:iE (i.b.spare.take (i.b.spare.length-1))=(iE i.b.spare).take (i.b.spare.length-1):=by simp only[iE,List.map_take]
   exact kp
  ·have eq:i.b.newQ=((i.b.a.queues.length:Int),i.b.spare,i.b.a.openQ):=by rw[Book.newQ,if_pos (by omega)]
   rw[eq]at hins ⊢
   refine⟨i.b.a,rfl,by omega,fun _ _=>⟨trivial,⟨i.b.sells.map zA,zA ⟨i.price,i.b.a.queues.length⟩,zQ 2 i.b.sells i.price⟩,rfl,rfl,rfl,⟨by rw[List.length_map];exact hle,by rw[List.length_map];omega⟩,fun _ _=>⟨(),?_⟩⟩⟩
   exact kp
theorem zOq:queue2C.ok Tryz.prog 63:=zSl (gokc tC (gokc zGg (gokc zNf gok0))) z0e
open Go Cv Go.Proofs
structure BaI where
 b:Book
 id:Int
 price:Int
 qty:Int
def Book.leads (b:Book) (s price:Int):Bool:=match b.rungs s with
 |[]=>true
 |r::_=>btr s price r.price
def Book.led (b:Book) (id s price:Int):Book:=if b.leads s price=true then b.leadF id s else b
def Book.stand (b:Book) (s id price qty:Int):Book:=
 let b2:=(b.led id s price).queueF s price
 let x:=b2.1.a.push b2.2 id qty (b.leads s price)
 {b2.1 with a:=x.1,at_:=h8 id ⟨s,price,x.2.1⟩ b2.1.at_}
def Book.addF (b:Book) (s id price qty:Int):Book×Int:=
 if qty<1∨1000000<qty then(b,24)else if(pget b.at_ id).isSome=true then(b,25)else if 250≤b.at_.length then(b,13)else(b.stand s id price qty,0)
def zVq (s:Int):Con:=con1 BaI (fun i=>[.nm 0 0,zE i.id,zE s,zE i.price,zE i.qty]) (fun i=>[yA i.b]) (fun i=>i.b.fit) (fun i=>zE (i.b.addF s i.id i.price i.qty).2) (fun i=>[yA (i.b.addF s i.id i.price i.qty).1])
def z2t:List (Nat×SAnn):=[(44,bj 14)]
def badd1C:Con:=zVq 1
def badd2C:Con:=zVq 2
structure BaJ where
 i:BaI
 s:Bool
def baddC:Con:=con1 BaJ (fun j=>[.nm 0 0,zE j.i.id,zE (zB j.s),zE j.i.price,zE j.i.qty]) (fun j=>[yA j.i.b]) (fun j=>j.i.b.fit) (fun j=>zE (j.i.b.addF (zB j.s) j.i.id j.i.price j.i.qty).2) (fun j=>[yA (j.i.b.addF (zB j.s) j.i.id j.i.price j.i.qty).1])
structure SaI where
 s:MSt
 inst:Int
 id:Int
 sd:Bool
 price:Int
 qty:Int
def MSt.bookAt (s:MSt) (n:Int):Book:=s.books.getD n.toNat book0
def MSt.addF (i:SaI):MSt×Int:=
 if i.inst<0∨i.s.books.length≤i.inst then(i.s,20)else if(gP i.s.wh i.id).isSome=true then(i.s,25)else if 250≤i.s.wh.length then(i.s,13)else if i.s.p.price i.inst i.price≠0 then(i.s,i.s.p.price i.inst i.price)
 else
  let x:=(i.s.bookAt i.inst).addF (zB i.sd) i.id i.price i.qty
  ({i.s with books:=i.s.books.set i.inst.toNat x.1,wh:=if x.2=0 then a9 i.id i.inst i.s.wh else i.s.wh},x.2)
@[reducible] def MSt.fit (s:MSt):Prop:=s.p.small∧s.books.length≤1000000∧∀b∈s.books,b.fit
def saddC:Con:=con1 SaI (fun i=>[.nm 0 0,zE i.inst,zE i.id,zE (zB i.sd),zE i.price,zE i.qty]) (fun i=>[zJ i.s]) (fun i=>i.s.fit) (fun i=>zE (MSt.addF i).2) (fun i=>[zJ (MSt.addF i).1])
open Go Cv Go.Proofs
@[reducible] def aU (n:Int) (n_1:Int) (n_2:Int):AObj:=Sx.AObj.cells [V.d (D.v (.int .i64 n)),V.d (D.v (.int .i64 n_1)),V.d (D.v (.int .i64 n_2))] (138:Nat)
@[reducible] def aY (i:BaI) (b:Bool):AObj:=Sx.AObj.cells (gO (jH (0:Nat) (1:Nat) (6:Nat)) [V.nm (1:Nat) (0:Nat),V.own (2:Nat),V.own (3:Nat),V.mp (4:Nat),zE i.b.top1,zE i.b.top2,V.own (5:Nat),yN i.b.has1,yN i.b.has2]) (135:TypeId)
@[reducible] def pZ (i:BaI) (b:Bool) (o:Unit):Prop:=∃(o:Unit),(i.b.addF 1 i.id i.price i.qty).snd=24∧(i.b.addF 1 i.id i.price i.qty).fst.top1=i.b.top1∧(i.b.addF 1 i.id i.price i.qty).fst.top2=i.b.top2∧(i.b.addF 1 i.id i.price i.qty).fst.has1=i.b.has1∧(i.b.addF 1 i.id i.price i.qty).fst.has2=i.b.has2∧AObj.adt Arena 3 zC (i.b.addF 1 i.id i.price i.qty).fst.a=AObj.adt Arena 3 zC i.b.a∧List.map zA (i.b.addF 1 i.id i.price i.qty).fst.buys=List.map zA i.b.buys∧List.map zA (i.b.addF 1 i.id i.price i.qty).fst.sells=List.map zA i.b.sells∧atE (i.b.addF 1 i.id i.price i.qty).fst.at_=atE i.b.at_∧iE (i.b.addF 1 i.id i.price i.qty).fst.spare=iE i.b.spare∧True
def zJp (i:BaI):Prop:=
 (∀(p:Value×List D),p∈atE i.b.at_→like (Value.int IntKind.i64 i.id) p.fst=true)∧∃(b:Bool),∃(n:Int),∃(n_1:Int),∃(n_2:Int),(kV (Value.int IntKind.i64 i.id) (atE i.b.at_)=some [D.v (.int .i64 n),D.v (.int .i64 n_1),D.v (.int .i64 n_2)]∧b=true∨kV (Value.int IntKind.i64 i.id) (atE i.b.at_)=none∧[D.v (.int .i64 n),D.v (.int .i64 n_1),D.v (.int .i64 n_2)]=[D.v (.int .i64 0),D.v (.int .i64 0),D.v (.int .i64 0)]∧b=false)∧∃(i_1:Int),i_1=1∧True∧∀(o:Unit),True→cnd (!(decide (i_1=1)||decide (i_1=2))) (∃(o:Unit),(i.b.addF 1 i.id i.price i.qty).snd=21∧(i.b.addF 1 i.id i.price i.qty).fst.top1=i.b.top1∧(i.b.addF 1 i.id i.price i.qty).fst.top2=i.b.top2∧(i.b.addF 1 i.id i.price i.qty).fst.has1=i.b.has1∧(i.b.addF 1 i.id i.price i.qty).fst.has2=i.b.has2∧AObj.adt Arena 3 zC (i.b.addF 1 i.id i.price i.qty).fst.a=AObj.adt Arena 3 zC i.b.a∧List.map zA (i.b.addF 1 i.id i.price i.qty).fst.buys=List.map zA i.b.buys∧List.map zA (i.b.addF 1 i.id i.price i.qty).fst.sells=List.map zA i.b.sells∧atE (i.b.addF 1 i.id i.price i.qty).fst.at_=atE i.b.at_∧iE (i.b.addF 1 i.id i.price i.qty).fst.spare=iE i.b.spare∧True) (cnd (decide (i.qty<1)) (pZ i b o) (cnd (decide (i.qty>1000000)) (pZ i b o) (cnd b (∃(o:Unit),(i.b.addF 1 i.id i.price i.qty).snd=25∧(i.b.addF 1 i.id i.price i.qty).fst.top1=i.b.top1∧(i.b.addF 1 i.id i.price i.qty).fst.top2=i.b.top2∧(i.b.addF 1 i.id i.price i.qty).fst.has1=i.b.has1∧(i.b.addF 1 i.id i.price i.qty).fst.has2=i.b.has2∧AObj.adt Arena 3 zC (i.b.addF 1 i.id i.price i.qty).fst.a=AObj.adt Arena 3 zC i.b.a∧List.map zA (i.b.addF 1 i.id i.price i.qty).fst.buys=List.map zA i.b.buys∧List.map zA (i.b.addF 1 i.id i.price i.qty).fst.sells=List.map zA i.b.sells∧atE (i.b.addF 1 i.id i.price i.qty).fst.at_=atE i.b.at_∧iE (i.b.addF 1 i.id i.price i.qty).fst.spare=iE i.b.spare∧True) (cnd (decide ((↑(atE i.b.at_).length:Int)≥250)) (∃(o:Unit),(i.b.addF 1 i.id i.price i.qty).snd=13∧(i.b.addF 1 i.id i.price i.qty).fst.top1=i.b.top1∧(i.b.addF 1 i.id i.price i.qty).fst.top2=i.b.top2∧(i.b.addF 1 i.id i.price i.qty).fst.has1=i.b.has1∧(i.b.addF 1 i.id i.price i.qty).fst.has2=i.b.has2∧AObj.adt Arena 3 zC (i.b.addF 1 i.id i.price i.qty).fst.a=AObj.adt Arena 3 zC i.b.a∧List.map zA (i.b.addF 1 i.id i.price i.qty).fst.buys=List.map zA i.b.buys∧List.map zA (i.b.addF 1 i.id i.price i.qty).fst.sells=List.map zA i.b.sells∧atE (i.b.addF 1 i.id i.price i.qty).fst.at_=atE i.b.at_∧iE (i.b.addF 1 i.id i.price i.qty).fst.spare=iE i.b.spare∧True) (∃(i0:Bool),∃(I:Bool→Prop),cnd ((↑(List.map zA i.b.buys).length:Int)==0) (∃(i':Bool),i'=true∧I i'∧aU n n_1 n_2=aU n n_1 n_2∧aY i b=aY i b∧AObj.adt Arena 3 zC i.b.a=AObj.adt Arena 3 zC i.b.a∧AObj.own 141 2 (List.map zA i.b.buys)=AObj.own 141 2 (List.map zA i.b.buys)∧AObj.own 141 2 (List.map zA i.b.sells)=AObj.own 141 2 (List.map zA i.b.sells)∧Sx.AObj.map (atE i.b.at_)=Sx.AObj.map (atE i.b.at_)∧AObj.own 3 1 (iE i.b.spare)=AObj.own 3 1 (iE i.b.spare)) (((0:Int)≤(0:Int)∧0<(↑(List.map zA i.b.buys).length:Int))∧∃(n_3:Int),zI (List.map zA i.b.buys) (Int.toNat 0) ((0:Nat)+(0:Nat)) 1=some [D.v (.int .i64 n_3)]∧∃(i_2:I3'),i_2.side=1∧i_2.x=i.price∧i_2.y=n_3∧True∧∀(o:Unit),True→∃(i':Bool),i'=btr i_2.side i_2.x i_2.y∧I i'∧aU n n_1 n_2=aU n n_1 n_2∧aY i b=aY i b∧AObj.adt Arena 3 zC i.b.a=AObj.adt Arena 3 zC i.b.a∧AObj.own 141 2 (List.map zA i.b.buys)=AObj.own 141 2 (List.map zA i.b.buys)∧AObj.own 141 2 (List.map zA i.b.sells)=AObj.own 141 2 (List.map zA i.b.sells)∧Sx.AObj.map (atE i.b.at_)=Sx.AObj.map (atE i.b.at_)∧AObj.own 3 1 (iE i.b.spare)=AObj.own 3 1 (iE i.b.spare))∧∀(i_2:Bool),I i_2→cnd i_2 (∃(i_3:LdI),i_3.id=i.id∧(1:Int)=(1:Int)∧i_3.b.top1=i.b.top1∧i_3.b.top2=i.b.top2∧i_3.b.has1=i.b.has1∧i_3.b.has2=i.b.has2∧AObj.adt Arena 3 zC i_3.b.a=AObj.adt Arena 3 zC i.b.a∧List.map zA i_3.b.buys=List.map zA i.b.buys∧List.map zA i_3.b.sells=List.map zA i.b.sells∧atE i_3.b.at_=atE i.b.at_∧iE i_3.b.spare=iE i.b.spare∧((i_3.b.a.slots.length≤1000000∧i_3.b.a.queues.length≤1000000)∧i_3.b.buys.length≤1000000∧i_3.b.sells.length≤1000000∧i_3.b.spare.length≤1000000)∧∀(o:Unit),True→∃(i_4:BkP),(1:Int)=(1:Int)∧i_4.price=i.price∧i_4.b.top1=i_3.id∧i_4.b.top2=i_3.b.top2∧i_4.b.has1=true∧i_4.b.has2=i_3.b.has2∧AObj.adt Arena 3 zC i_4.b.a=AObj.adt Arena 3 zC (i_3.b.untop 1)∧List.map zA i_4.b.buys=List.map zA i_3.b.buys∧List.map zA i_4.b.sells=List.map zA i_3.b.sells∧atE i_4.b.at_=atE i_3.b.at_∧iE i_4.b.spare=iE i_3.b.spare∧((i_4.b.a.slots.length≤1000000∧(i_4.b.a.free≠0→∃(s:Slot),s∈i_4.b.a.slots∧s.used=false)∧∀(q:qG),q∈i_4.b.a.queues→q.last=(-1)∨0≤q.last∧q.last<(↑i_4.b.a.slots.length:Int))∧i_4.b.a.queues.length≤100000∧i_4.b.buys.length≤100000∧i_4.b.sells.length≤100000∧i_4.b.spare.length≤100000)∧∀(o:Unit),True→True∧∃(i_5:PuI),i_5.n=(i_4.b.queueF 1 i_4.price).snd∧i_5.id=i.id∧i_5.qty=i.qty∧i_5.top=i_2∧AObj.adt Arena 3 zC i_5.a=AObj.adt Arena 3 zC (i_4.b.queueF 1 i_4.price).fst.a∧(i_5.a.slots.length≤1000000∧(i_5.a.free≠0→∃(s:Slot),s∈i_5.a.slots∧s.used=false)∧∀(q:qG),q∈i_5.a.queues→q.last=(-1)∨0≤q.last∧q.last<(↑i_5.a.slots.length:Int))∧∀(o:Unit),True→(∀(p:Value×List D),p∈atE (i_4.b.queueF 1 i_4.price).fst.at_→like (Value.int IntKind.i64 i.id) p.fst=true)∧∃(o:Unit),(i.b.addF 1 i.id i.price i.qty).snd=0∧(i.b.addF 1 i.id i.price i.qty).fst.top1=(i_4.b.queueF 1 i_4.price).fst.top1∧(i.b.addF 1 i.id i.price i.qty).fst.top2=(i_4.b.queueF 1 i_4.price).fst.top2∧(i.b.addF 1 i.id i.price i.qty).fst.has1=(i_4.b.queueF 1 i_4.price).fst.has1∧(i.b.addF 1 i.id i.price i.qty).fst.has2=(i_4.b.queueF 1 i_4.price).fst.has2∧AObj.adt Arena 3 zC (i.b.addF 1 i.id i.price i.qty).fst.a=AObj.adt Arena 3 zC (i_5.a.push i_5.n i_5.id i_5.qty i_5.top).fst∧List.map zA (i.b.addF 1 i.id i.price i.qty).fst.buys=List.map zA (i_4.b.queueF 1 i_4.price).fst.buys∧List.map zA (i.b.addF 1 i.id i.price i.qty).fst.sells=List.map zA (i_4.b.queueF 1 i_4.price).fst.sells∧atE (i.b.addF 1 i.id i.price i.qty).fst.at_=wY (Value.int IntKind.i64 i.id) [D.v (.int .i64 1),D.v (.int .i64 i.price),D.v (.int .i64 (i_5.a.push i_5.n i_5.id i_5.qty i_5.top).snd.fst)] (atE (i_4.b.queueF 1 i_4.price).fst.at_)∧iE (i.b.addF 1 i.id i.price i.qty).fst.spare=iE (i_4.b.queueF 1 i_4.price).fst.spare∧True) (∃(i_3:BkP),(1:Int)=(1:Int)∧i_3.price=i.price∧i_3.b.top1=i.b.top1∧i_3.b.top2=i.b.top2∧i_3.b.has1=i.b.has1∧i_3.b.has2=i.b.has2∧AObj.adt Arena 3 zC i_3.b.a=AObj.adt Arena 3 zC i.b.a∧List.map zA i_3.b.buys=List.map zA i.b.buys∧List.map zA i_3.b.sells=List.map zA i.b.sells∧atE i_3.b.at_=atE i.b.at_∧iE i_3.b.spare=iE i.b.spare∧((i_3.b.a.slots.length≤1000000∧(i_3.b.a.free≠0→∃(s:Slot),s∈i_3.b.a.slots∧s.used=false)∧∀(q:qG),q∈i_3.b.a.queues→q.last=(-1)∨0≤q.last∧q.last<(↑i_3.b.a.slots.length:Int))∧i_3.b.a.queues.length≤100000∧i_3.b.buys.length≤100000∧i_3.b.sells.length≤100000∧i_3.b.spare.length≤100000)∧∀(o:Unit),True→True∧∃(i_4:PuI),i_4.n=(i_3.b.queueF 1 i_3.price).snd∧i_4.id=i.id∧i_4.qty=i.qty∧i_4.top=i_2∧AObj.adt Arena 3 zC i_4.a=AObj.adt Arena 3 zC (i_3.b.queueF 1 i_3.price).fst.a∧(i_4.a.slots.length≤1000000∧(i_4.a.free≠0→∃(s:Slot),s∈i_4.a.slots∧s.used=false)∧∀(q:qG),q∈i_4.a.queues→q.last=(-1)∨0≤q.last∧q.last<(↑i_4.a.slots.length:Int))∧∀(o:Unit),True→(∀(p:Value×List D),p∈atE (i_3.b.queueF 1 i_3.price).fst.at_→like (Value.int IntKind.i64 i.id) p.fst=true)∧∃(o:Unit),(i.b.addF 1 i.id i.price i.qty).snd=0∧(i.b.addF 1 i.id i.price i.qty).fst.top1=(i_3.b.queueF 1 i_3.price).fst.top1∧(i.b.addF 1 i.id i.price i.qty).fst.top2=(i_3.b.queueF 1 i_3.price).fst.top2∧(i.b.addF 1 i.id i.price i.qty).fst.has1=(i_3.b.queueF 1 i_3.price).fst.has1∧(i.b.addF 1 i.id i.price i.qty).fst.has2=(i_3.b.queueF 1 i_3.price).fst.has2∧AObj.adt Arena 3 zC (i.b.addF 1 i.id i.price i.qty).fst.a=AObj.adt Arena 3 zC (i_4.a.push i_4.n i_4.id i_4.qty i_4.top).fst∧List.map zA (i.b.addF 1 i.id i.price i.qty).fst.buys=List.map zA (i_3.b.queueF 1 i_3.price).fst.buys∧List.map zA (i.b.addF 1 i.id i.price i.qty).fst.sells=List.map zA (i_3.b.queueF 1 i_3.price).fst.sells∧atE (i.b.addF 1 i.id i.price i.qty).fst.at_=wY (Value.int IntKind.i64 i.id) [D.v (.int .i64 1),D.v (.int .i64 i.price),D.v (.int .i64 (i_4.a.push i_4.n i_4.id i_4.qty i_4.top).snd.fst)] (atE (i_3.b.queueF 1 i_3.price).fst.at_)∧iE (i.b.addF 1 i.id i.price i.qty).fst.spare=iE (i_3.b.queueF 1 i_3.price).fst.spare∧True))))))
theorem z1k (hG:GOk Tryz.prog ([(59,bisC),(60,bbetterC),(61,lead1C),(63,queue1C),(62,apushC)])) (h:∀(i:BaI),badd1C.cnd i→zJp i):badd1C.ok Tryz.prog 30:=okw mixed hG 0 (fun _=>z2t) (fun _=>[]) [0] Tryz.func30 h
@[reducible] def a8 (n:Int) (n_1:Int) (n_2:Int):AObj:=Sx.AObj.cells [V.d (D.v (.int .i64 n)),V.d (D.v (.int .i64 n_1)),V.d (D.v (.int .i64 n_2))] (138:Nat)
@[reducible] def b9 (i:BaI) (b:Bool):AObj:=Sx.AObj.cells (gO (jH (0:Nat) (1:Nat) (6:Nat)) [V.nm (1:Nat) (0:Nat),V.own (2:Nat),V.own (3:Nat),V.mp (4:Nat),zE i.b.top1,zE i.b.top2,V.own (5:Nat),yN i.b.has1,yN i.b.has2]) (135:TypeId)
@[reducible] def rC (i:BaI) (b:Bool) (o:Unit):Prop:=∃(o:Unit),(i.b.addF 2 i.id i.price i.qty).snd=24∧(i.b.addF 2 i.id i.price i.qty).fst.top1=i.b.top1∧(i.b.addF 2 i.id i.price i.qty).fst.top2=i.b.top2∧(i.b.addF 2 i.id i.price i.qty).fst.has1=i.b.has1∧(i.b.addF 2 i.id i.price i.qty).fst.has2=i.b.has2∧AObj.adt Arena 3 zC (i.b.addF 2 i.id i.price i.qty).fst.a=AObj.adt Arena 3 zC i.b.a∧List.map zA (i.b.addF 2 i.id i.price i.qty).fst.buys=List.map zA i.b.buys∧List.map zA (i.b.addF 2 i.id i.price i.qty).fst.sells=List.map zA i.b.sells∧atE (i.b.addF 2 i.id i.price i.qty).fst.at_=atE i.b.at_∧iE (i.b.addF 2 i.id i.price i.qty).fst.spare=iE i.b.spare∧True
def zKd (i:BaI):Prop:=
 (∀(p:Value×List D),p∈atE i.b.at_→like (Value.int IntKind.i64 i.id) p.fst=true)∧∃(b:Bool),∃(n:Int),∃(n_1:Int),∃(n_2:Int),(kV (Value.int IntKind.i64 i.id) (atE i.b.at_)=some [D.v (.int .i64 n),D.v (.int .i64 n_1),D.v (.int .i64 n_2)]∧b=true∨kV (Value.int IntKind.i64 i.id) (atE i.b.at_)=none∧[D.v (.int .i64 n),D.v (.int .i64 n_1),D.v (.int .i64 n_2)]=[D.v (.int .i64 0),D.v (.int .i64 0),D.v (.int .i64 0)]∧b=false)∧∃(i_1:Int),i_1=2∧True∧∀(o:Unit),True→cnd (!(decide (i_1=1)||decide (i_1=2))) (∃(o:Unit),(i.b.addF 2 i.id i.price i.qty).snd=21∧(i.b.addF 2 i.id i.price i.qty).fst.top1=i.b.top1∧(i.b.addF 2 i.id i.price i.qty).fst.top2=i.b.top2∧(i.b.addF 2 i.id i.price i.qty).fst.has1=i.b.has1∧(i.b.addF 2 i.id i.price i.qty).fst.has2=i.b.has2∧AObj.adt Arena 3 zC (i.b.addF 2 i.id i.price i.qty).fst.a=AObj.adt Arena 3 zC i.b.a∧List.map zA (i.b.addF 2 i.id i.price i.qty).fst.buys=List.map zA i.b.buys∧List.map zA (i.b.addF 2 i.id i.price i.qty).fst.sells=List.map zA i.b.sells∧atE (i.b.addF 2 i.id i.price i.qty).fst.at_=atE i.b.at_∧iE (i.b.addF 2 i.id i.price i.qty).fst.spare=iE i.b.spare∧True) (cnd (decide (i.qty<1)) (rC i b o) (cnd (decide (i.qty>1000000)) (rC i b o) (cnd b (∃(o:Unit),(i.b.addF 2 i.id i.price i.qty).snd=25∧(i.b.addF 2 i.id i.price i.qty).fst.top1=i.b.top1∧(i.b.addF 2 i.id i.price i.qty).fst.top2=i.b.top2∧(i.b.addF 2 i.id i.price i.qty).fst.has1=i.b.has1∧(i.b.addF 2 i.id i.price i.qty).fst.has2=i.b.has2∧AObj.adt Arena 3 zC (i.b.addF 2 i.id i.price i.qty).fst.a=AObj.adt Arena 3 zC i.b.a∧List.map zA (i.b.addF 2 i.id i.price i.qty).fst.buys=List.map zA i.b.buys∧List.map zA (i.b.addF 2 i.id i.price i.qty).fst.sells=List.map zA i.b.sells∧atE (i.b.addF 2 i.id i.price i.qty).fst.at_=atE i.b.at_∧iE (i.b.addF 2 i.id i.price i.qty).fst.spare=iE i.b.spare∧True) (cnd (decide ((↑(atE i.b.at_).length:Int)≥250)) (∃(o:Unit),(i.b.addF 2 i.id i.price i.qty).snd=13∧(i.b.addF 2 i.id i.price i.qty).fst.top1=i.b.top1∧(i.b.addF 2 i.id i.price i.qty).fst.top2=i.b.top2∧(i.b.addF 2 i.id i.price i.qty).fst.has1=i.b.has1∧(i.b.addF 2 i.id i.price i.qty).fst.has2=i.b.has2∧AObj.adt Arena 3 zC (i.b.addF 2 i.id i.price i.qty).fst.a=AObj.adt Arena 3 zC i.b.a∧List.map zA (i.b.addF 2 i.id i.price i.qty).fst.buys=List.map zA i.b.buys∧List.map zA (i.b.addF 2 i.id i.price i.qty).fst.sells=List.map zA i.b.sells∧atE (i.b.addF 2 i.id i.price i.qty).fst.at_=atE i.b.at_∧iE (i.b.addF 2 i.id i.price i.qty).fst.spare=iE i.b.spare∧True) (∃(i0:Bool),∃(I:Bool→Prop),cnd ((↑(List.map zA i.b.sells).length:Int)==0) (∃(i':Bool),i'=true∧I i'∧a8 n n_1 n_2=a8 n n_1 n_2∧b9 i b=b9 i b∧AObj.adt Arena 3 zC i.b.a=AObj.adt Arena 3 zC i.b.a∧AObj.own 141 2 (List.map zA i.b.buys)=AObj.own 141 2 (List.map zA i.b.buys)∧AObj.own 141 2 (List.map zA i.b.sells)=AObj.own 141 2 (List.map zA i.b.sells)∧Sx.AObj.map (atE i.b.at_)=Sx.AObj.map (atE i.b.at_)∧AObj.own 3 1 (iE i.b.spare)=AObj.own 3 1 (iE i.b.spare)) (((0:Int)≤(0:Int)∧0<(↑(List.map zA i.b.sells).length:Int))∧∃(n_3:Int),zI (List.map zA i.b.sells) (Int.toNat 0) ((0:Nat)+(0:Nat)) 1=some [D.v (.int .i64 n_3)]∧∃(i_2:I3'),i_2.side=2∧i_2.x=i.price∧i_2.y=n_3∧True∧∀(o:Unit),True→∃(i':Bool),i'=btr i_2.side i_2.x i_2.y∧I i'∧a8 n n_1 n_2=a8 n n_1 n_2∧b9 i b=b9 i b∧AObj.adt Arena 3 zC i.b.a=AObj.adt Arena 3 zC i.b.a∧AObj.own 141 2 (List.map zA i.b.buys)=AObj.own 141 2 (List.map zA i.b.buys)∧AObj.own 141 2 (List.map zA i.b.sells)=AObj.own 141 2 (List.map zA i.b.sells)∧Sx.AObj.map (atE i.b.at_)=Sx.AObj.map (atE i.b.at_)∧AObj.own 3 1 (iE i.b.spare)=AObj.own 3 1 (iE i.b.spare))∧∀(i_2:Bool),I i_2→cnd i_2 (∃(i_3:LdI),i_3.id=i.id∧(2:Int)=(2:Int)∧i_3.b.top1=i.b.top1∧i_3.b.top2=i.b.top2∧i_3.b.has1=i.b.has1∧i_3.b.has2=i.b.has2∧AObj.adt Arena 3 zC i_3.b.a=AObj.adt Arena 3 zC i.b.a∧List.map zA i_3.b.buys=List.map zA i.b.buys∧List.map zA i_3.b.sells=List.map zA i.b.sells∧atE i_3.b.at_=atE i.b.at_∧iE i_3.b.spare=iE i.b.spare∧((i_3.b.a.slots.length≤1000000∧i_3.b.a.queues.length≤1000000)∧i_3.b.buys.length≤1000000∧i_3.b.sells.length≤1000000∧i_3.b.spare.length≤1000000)∧∀(o:Unit),True→∃(i_4:BkP),(2:Int)=(2:Int)∧i_4.price=i.price∧i_4.b.top1=i_3.b.top1∧i_4.b.top2=i_3.id∧i_4.b.has1=i_3.b.has1∧i_4.b.has2=true∧AObj.adt Arena 3 zC i_4.b.a=AObj.adt Arena 3 zC (i_3.b.untop 2)∧List.map zA i_4.b.buys=List.map zA i_3.b.buys∧List.map zA i_4.b.sells=List.map zA i_3.b.sells∧atE i_4.b.at_=atE i_3.b.at_∧iE i_4.b.spare=iE i_3.b.spare∧((i_4.b.a.slots.length≤1000000∧(i_4.b.a.free≠0→∃(s:Slot),s∈i_4.b.a.slots∧s.used=false)∧∀(q:qG),q∈i_4.b.a.queues→q.last=(-1)∨0≤q.last∧q.last<(↑i_4.b.a.slots.length:Int))∧i_4.b.a.queues.length≤100000∧i_4.b.buys.length≤100000∧i_4.b.sells.length≤100000∧i_4.b.spare.length≤100000)∧∀(o:Unit),True→True∧∃(i_5:PuI),i_5.n=(i_4.b.queueF 2 i_4.price).snd∧i_5.id=i.id∧i_5.qty=i.qty∧i_5.top=i_2∧AObj.adt Arena 3 zC i_5.a=AObj.adt Arena 3 zC (i_4.b.queueF 2 i_4.price).fst.a∧(i_5.a.slots.length≤1000000∧(i_5.a.free≠0→∃(s:Slot),s∈i_5.a.slots∧s.used=false)∧∀(q:qG),q∈i_5.a.queues→q.last=(-1)∨0≤q.last∧q.last<(↑i_5.a.slots.length:Int))∧∀(o:Unit),True→(∀(p:Value×List D),p∈atE (i_4.b.queueF 2 i_4.price).fst.at_→like (Value.int IntKind.i64 i.id) p.fst=true)∧∃(o:Unit),(i.b.addF 2 i.id i.price i.qty).snd=0∧(i.b.addF 2 i.id i.price i.qty).fst.top1=(i_4.b.queueF 2 i_4.price).fst.top1∧(i.b.addF 2 i.id i.price i.qty).fst.top2=(i_4.b.queueF 2 i_4.price).fst.top2∧(i.b.addF 2 i.id i.price i.qty).fst.has1=(i_4.b.queueF 2 i_4.price).fst.has1∧(i.b.addF 2 i.id i.price i.qty).fst.has2=(i_4.b.queueF 2 i_4.price).fst.has2∧AObj.adt Arena 3 zC (i.b.addF 2 i.id i.price i.qty).fst.a=AObj.adt Arena 3 zC (i_5.a.push i_5.n i_5.id i_5.qty i_5.top).fst∧List.map zA (i.b.addF 2 i.id i.price i.qty).fst.buys=List.map zA (i_4.b.queueF 2 i_4.price).fst.buys∧List.map zA (i.b.addF 2 i.id i.price i.qty).fst.sells=List.map zA (i_4.b.queueF 2 i_4.price).fst.sells∧atE (i.b.addF 2 i.id i.price i.qty).fst.at_=wY (Value.int IntKind.i64 i.id) [D.v (.int .i64 2),D.v (.int .i64 i.price),D.v (.int .i64 (i_5.a.push i_5.n i_5.id i_5.qty i_5.top).snd.fst)] (atE (i_4.b.queueF 2 i_4.price).fst.at_)∧iE (i.b.addF 2 i.id i.price i.qty).fst.spare=iE (i_4.b.queueF 2 i_4.price).fst.spare∧True) (∃(i_3:BkP),(2:Int)=(2:Int)∧i_3.price=i.price∧i_3.b.top1=i.b.top1∧i_3.b.top2=i.b.top2∧i_3.b.has1=i.b.has1∧i_3.b.has2=i.b.has2∧AObj.adt Arena 3 zC i_3.b.a=AObj.adt Arena 3 zC i.b.a∧List.map zA i_3.b.buys=List.map zA i.b.buys∧List.map zA i_3.b.sells=List.map zA i.b.sells∧atE i_3.b.at_=atE i.b.at_∧iE i_3.b.spare=iE i.b.spare∧((i_3.b.a.slots.length≤1000000∧(i_3.b.a.free≠0→∃(s:Slot),s∈i_3.b.a.slots∧s.used=false)∧∀(q:qG),q∈i_3.b.a.queues→q.last=(-1)∨0≤q.last∧q.last<(↑i_3.b.a.slots.length:Int))∧i_3.b.a.queues.length≤100000∧i_3.b.buys.length≤100000∧i_3.b.sells.length≤100000∧i_3.b.spare.length≤100000)∧∀(o:Unit),True→True∧∃(i_4:PuI),i_4.n=(i_3.b.queueF 2 i_3.price).snd∧i_4.id=i.id∧i_4.qty=i.qty∧i_4.top=i_2∧AObj.adt Arena 3 zC i_4.a=AObj.adt Arena 3 zC (i_3.b.queueF 2 i_3.price).fst.a∧(i_4.a.slots.length≤1000000∧(i_4.a.free≠0→∃(s:Slot),s∈i_4.a.slots∧s.used=false)∧∀(q:qG),q∈i_4.a.queues→q.last=(-1)∨0≤q.last∧q.last<(↑i_4.a.slots.length:Int))∧∀(o:Unit),True→(∀(p:Value×List D),p∈atE (i_3.b.queueF 2 i_3.price).fst.at_→like (Value.int IntKind.i64 i.id) p.fst=true)∧∃(o:Unit),(i.b.addF 2 i.id i.price i.qty).snd=0∧(i.b.addF 2 i.id i.price i.qty).fst.top1=(i_3.b.queueF 2 i_3.price).fst.top1∧(i.b.addF 2 i.id i.price i.qty).fst.top2=(i_3.b.queueF 2 i_3.price).fst.top2∧(i.b.addF 2 i.id i.price i.qty).fst.has1=(i_3.b.queueF 2 i_3.price).fst.has1∧(i.b.addF 2 i.id i.price i.qty).fst.has2=(i_3.b.queueF 2 i_3.price).fst.has2∧AObj.adt Arena 3 zC (i.b.addF 2 i.id i.price i.qty).fst.a=AObj.adt Arena 3 zC (i_4.a.push i_4.n i_4.id i_4.qty i_4.top).fst∧List.map zA (i.b.addF 2 i.id i.price i.qty).fst.buys=List.map zA (i_3.b.queueF 2 i_3.price).fst.buys∧List.map zA (i.b.addF 2 i.id i.price i.qty).fst.sells=List.map zA (i_3.b.queueF 2 i_3.price).fst.sells∧atE (i.b.addF 2 i.id i.price i.qty).fst.at_=wY (Value.int IntKind.i64 i.id) [D.v (.int .i64 2),D.v (.int .i64 i.price),D.v (.int .i64 (i_4.a.push i_4.n i_4.id i_4.qty i_4.top).snd.fst)] (atE (i_3.b.queueF 2 i_3.price).fst.at_)∧iE (i.b.addF 2 i.id i.price i.qty).fst.spare=iE (i_3.b.queueF 2 i_3.price).fst.spare∧True))))))
theorem zZn (hG:GOk Tryz.prog ([(59,bisC),(60,bbetterC),(61,lead2C),(63,queue2C),(62,apushC)])) (h:∀(i:BaI),badd2C.cnd i→zKd i):badd2C.ok Tryz.prog 30:=okw mixed hG 0 (fun _=>z2t) (fun _=>[]) [0] Tryz.func30 h
@[reducible] def zDj (i:SaI):Prop:=∃(o:Unit),(MSt.addF i).snd=20∧sb (MSt.addF i).fst.p.code=sb i.s.p.code∧(MSt.addF i).fst.p.tick=i.s.p.tick∧(MSt.addF i).fst.p.low=i.s.p.low∧(MSt.addF i).fst.p.high=i.s.p.high∧(MSt.addF i).fst.p.wide=i.s.p.wide∧(MSt.addF i).fst.p.rule=i.s.p.rule∧(MSt.addF i).fst.p.top=i.s.p.top∧(MSt.addF i).fst.p.least=i.s.p.least∧(MSt.addF i).fst.p.part=i.s.p.part∧AObj.objs 64 Book 6 zN (MSt.addF i).fst.books none=AObj.objs 64 Book 6 zN i.s.books none∧yE (MSt.addF i).fst.wh=yE i.s.wh∧AObj.fro 1 (iE (MSt.addF i).fst.p.months)=AObj.fro 1 (iE i.s.p.months)∧AObj.fro 1 (iE (MSt.addF i).fst.p.settle)=AObj.fro 1 (iE i.s.p.settle)∧True
def zVz (i:SaI):Prop:=
 (∀(p:Value×List D),p∈yE i.s.wh→like (Value.int IntKind.i64 i.id) p.fst=true)∧∃(b:Bool),∃(n:Int),(kV (Value.int IntKind.i64 i.id) (yE i.s.wh)=some [D.v (.int .i64 n)]∧b=true∨kV (Value.int IntKind.i64 i.id) (yE i.s.wh)=none∧[D.v (.int .i64 n)]=[D.v (.int .i64 0)]∧b=false)∧cnd (decide (i.inst≥0)) (cnd (!decide (i.inst<(↑i.s.books.length:Int))) (zDj i) (cnd b (∃(o:Unit),(MSt.addF i).snd=25∧sb (MSt.addF i).fst.p.code=sb i.s.p.code∧(MSt.addF i).fst.p.tick=i.s.p.tick∧(MSt.addF i).fst.p.low=i.s.p.low∧(MSt.addF i).fst.p.high=i.s.p.high∧(MSt.addF i).fst.p.wide=i.s.p.wide∧(MSt.addF i).fst.p.rule=i.s.p.rule∧(MSt.addF i).fst.p.top=i.s.p.top∧(MSt.addF i).fst.p.least=i.s.p.least∧(MSt.addF i).fst.p.part=i.s.p.part∧AObj.objs 64 Book 6 zN (MSt.addF i).fst.books none=AObj.objs 64 Book 6 zN i.s.books none∧yE (MSt.addF i).fst.wh=yE i.s.wh∧AObj.fro 1 (iE (MSt.addF i).fst.p.months)=AObj.fro 1 (iE i.s.p.months)∧AObj.fro 1 (iE (MSt.addF i).fst.p.settle)=AObj.fro 1 (iE i.s.p.settle)∧True) (cnd (decide ((↑(yE i.s.wh).length:Int)≥250)) (∃(o:Unit),(MSt.addF i).snd=13∧sb (MSt.addF i).fst.p.code=sb i.s.p.code∧(MSt.addF i).fst.p.tick=i.s.p.tick∧(MSt.addF i).fst.p.low=i.s.p.low∧(MSt.addF i).fst.p.high=i.s.p.high∧(MSt.addF i).fst.p.wide=i.s.p.wide∧(MSt.addF i).fst.p.rule=i.s.p.rule∧(MSt.addF i).fst.p.top=i.s.p.top∧(MSt.addF i).fst.p.least=i.s.p.least∧(MSt.addF i).fst.p.part=i.s.p.part∧AObj.objs 64 Book 6 zN (MSt.addF i).fst.books none=AObj.objs 64 Book 6 zN i.s.books none∧yE (MSt.addF i).fst.wh=yE i.s.wh∧AObj.fro 1 (iE (MSt.addF i).fst.p.months)=AObj.fro 1 (iE i.s.p.months)∧AObj.fro 1 (iE (MSt.addF i).fst.p.settle)=AObj.fro 1 (iE i.s.p.settle)∧True) (∃(i_1:cA),sb i_1.p.code=sb i.s.p.code∧iE i_1.p.months=iE i.s.p.months∧i_1.p.tick=i.s.p.tick∧i_1.p.low=i.s.p.low∧i_1.p.high=i.s.p.high∧i_1.p.wide=i.s.p.wide∧i_1.p.rule=i.s.p.rule∧i_1.p.top=i.s.p.top∧i_1.p.least=i.s.p.least∧i_1.p.part=i.s.p.part∧iE i_1.p.settle=iE i.s.p.settle∧i_1.a=i.inst∧i_1.b=i.price∧(i_1.p.code.length≤1099511627776∧i_1.p.months.length≤1099511627776∧i_1.p.settle.length≤1099511627776)∧∀(o:Unit),True→cnd (i_1.p.price i_1.a i_1.b !=0) (∃(o:Unit),(MSt.addF i).snd=i_1.p.price i_1.a i_1.b∧sb (MSt.addF i).fst.p.code=sb i.s.p.code∧(MSt.addF i).fst.p.tick=i.s.p.tick∧(MSt.addF i).fst.p.low=i.s.p.low∧(MSt.addF i).fst.p.high=i.s.p.high∧(MSt.addF i).fst.p.wide=i.s.p.wide∧(MSt.addF i).fst.p.rule=i.s.p.rule∧(MSt.addF i).fst.p.top=i.s.p.top∧(MSt.addF i).fst.p.least=i.s.p.least∧(MSt.addF i).fst.p.part=i.s.p.part∧AObj.objs 64 Book 6 zN (MSt.addF i).fst.books none=AObj.objs 64 Book 6 zN i.s.books none∧yE (MSt.addF i).fst.wh=yE i.s.wh∧AObj.fro 1 (iE (MSt.addF i).fst.p.months)=AObj.fro 1 (iE i.s.p.months)∧AObj.fro 1 (iE (MSt.addF i).fst.p.settle)=AObj.fro 1 (iE i.s.p.settle)∧True) ((0≤i.inst∧i.inst<(↑i.s.books.length:Int))∧i.inst.toNat<i.s.books.length∧∃(x:Book),i.s.books[i.inst.toNat]?=some x∧∃(i_2:BaJ),i_2.i.id=i.id∧zB i_2.s=zB i.sd∧i_2.i.price=i.price∧i_2.i.qty=i.qty∧yA i_2.i.b=yA x∧((i_2.i.b.a.slots.length≤1000000∧(i_2.i.b.a.free≠0→∃(s:Slot),s∈i_2.i.b.a.slots∧s.used=false)∧∀(q:qG),q∈i_2.i.b.a.queues→q.last=(-1)∨0≤q.last∧q.last<(↑i_2.i.b.a.slots.length:Int))∧i_2.i.b.a.queues.length≤100000∧i_2.i.b.buys.length≤100000∧i_2.i.b.sells.length≤100000∧i_2.i.b.spare.length≤100000)∧∀(o:Unit),True→∃(x:Book),yA (i_2.i.b.addF (zB i_2.s) i_2.i.id i_2.i.price i_2.i.qty).fst=yA x∧i.inst.toNat=i.inst.toNat∧i.inst.toNat<i.s.books.length∧cnd ((i_2.i.b.addF (zB i_2.s) i_2.i.id i_2.i.price i_2.i.qty).snd==0) ((∀(p:Value×List D),p∈yE i.s.wh→like (Value.int IntKind.i64 i.id) p.fst=true)∧∃(o:Unit),(MSt.addF i).snd=(i_2.i.b.addF (zB i_2.s) i_2.i.id i_2.i.price i_2.i.qty).snd∧sb (MSt.addF i).fst.p.code=sb i.s.p.code∧(MSt.addF i).fst.p.tick=i.s.p.tick∧(MSt.addF i).fst.p.low=i.s.p.low∧(MSt.addF i).fst.p.high=i.s.p.high∧(MSt.addF i).fst.p.wide=i.s.p.wide∧(MSt.addF i).fst.p.rule=i.s.p.rule∧(MSt.addF i).fst.p.top=i.s.p.top∧(MSt.addF i).fst.p.least=i.s.p.least∧(MSt.addF i).fst.p.part=i.s.p.part∧AObj.objs 64 Book 6 zN (MSt.addF i).fst.books none=AObj.objs 64 Book 6 zN (i.s.books.set i.inst.toNat x) none∧yE (MSt.addF i).fst.wh=wY (Value.int IntKind.i64 i.id) [D.v (.int .i64 i.inst)] (yE i.s.wh)∧AObj.fro 1 (iE (MSt.addF i).fst.p.months)=AObj.fro 1 (iE i.s.p.months)∧AObj.fro 1 (iE (MSt.addF i).fst.p.settle)=AObj.fro 1 (iE i.s.p.settle)∧True) (∃(o:Unit),(MSt.addF i).snd=(i_2.i.b.addF (zB i_2.s) i_2.i.id i_2.i.price i_2.i.qty).snd∧sb (MSt.addF i).fst.p.code=sb i.s.p.code∧(MSt.addF i).fst.p.tick=i.s.p.tick∧(MSt.addF i).fst.p.low=i.s.p.low∧(MSt.addF i).fst.p.high=i.s.p.high∧(MSt.addF i).fst.p.wide=i.s.p.wide∧(MSt.addF i).fst.p.rule=i.s.p.rule∧(MSt.addF i).fst.p.top=i.s.p.top∧(MSt.addF i).fst.p.least=i.s.p.least∧(MSt.addF i).fst.p.part=i.s.p.part∧AObj.objs 64 Book 6 zN (MSt.addF i).fst.books none=AObj.objs 64 Book 6 zN (i.s.books.set i.inst.toNat x) none∧yE (MSt.addF i).fst.wh=yE i.s.wh∧AObj.fro 1 (iE (MSt.addF i).fst.p.months)=AObj.fro 1 (iE i.s.p.months)∧AObj.fro 1 (iE (MSt.addF i).fst.p.settle)=AObj.fro 1 (iE i.s.p.settle)∧True)))))) (zDj i)
theorem z2v (hG:GOk Tryz.prog ([(29,priceC),(30,baddC)])) (h:∀(i:SaI),saddC.cnd i→zVz i):saddC.ok Tryz.prog 12:=okw mixed hG 1 (fun _=>[]) (fun _=>[]) [0] Tryz.func12 h
open Go Cv Go.Proofs
theorem sS {α:Type} {f:α→α} {Q:α→Prop} (hf:∀x,Q x→Q (f x)):∀{l:List α} (i:Nat),(∃x∈l,Q x)→∃x∈l.modify i f,Q x
 |[],i,⟨x,hx,_⟩=>by cases hx
 |a::l,0,⟨x,hx,q⟩=>by
  rcases List.mem_cons.1 hx with rfl|hx
  ·exact⟨f x,List.mem_cons_self,hf x q⟩
  ·exact⟨x,List.mem_cons_of_mem _ hx,q⟩
 |a::l,i+1,⟨x,hx,q⟩=>by
  rw[List.modify_succ_cons]
  rcases List.mem_cons.1 hx with rfl|hx
  ·exact⟨x,List.mem_cons_self,q⟩
  ·obtain⟨y,hy,hq⟩:=sS hf (l:=l) i ⟨x,hx,q⟩
   exact⟨y,List.mem_cons_of_mem _ hy,hq⟩
theorem zWs {a:Arena} (h:a.fit) (n:Int) (t:Bool):(a.topF n t).fit:=by
 obtain⟨h1,h2,h3⟩:=h
 rw[Arena.topF]
 split
 ·refine⟨by simpa using h1,fun hf=> ?_,by simpa using h3⟩
  exact sS (f:=fun s:Slot=>{s with top:=t}) (Q:=fun s=>s.used=false) (fun x hx=>hx) _ (h2 hf)
 ·exact⟨h1,h2,h3⟩
theorem zPu {b:Book} (h:b.a.fit) (s:Int):(b.untop s).fit:=by
 rw[Book.untop]
 repeat' split
 all_goals first|exact h|exact zWs h _ _
theorem zPi {a:Arena} (h:a.fit):a.openQ.fit:=by
 obtain⟨h1,h2,h3⟩:=h
 refine⟨h1,h2,fun q hq=> ?_⟩
 rcases List.mem_append.1 hq with hq|hq
 ·exact h3 q hq
 ·rw[List.mem_singleton.1 hq];exact .inl rfl
theorem zGd {b:Book} (h:b.a.fit):b.newQ.2.2.fit:=by
 rw[Book.newQ]
 split
 ·exact zPi h
 ·exact h
theorem gE {b:Book} (h:b.a.fit) (s p:Int):(b.queueF s p).1.a.fit:=by
 rw[Book.queueF]
 repeat' split
 ·exact h
 ·exact zGd h
 ·exact zGd h
theorem zQk (b:Book) (s:Int):(b.untop s).slots.length=b.a.slots.length∧(b.untop s).queues=b.a.queues:=by
 have ht:∀n t,(b.a.topF n t).slots.length=b.a.slots.length∧(b.a.topF n t).queues=b.a.queues:=by
  intro n t
  rw[Arena.topF]
  split
  ·exact⟨by simp,rfl⟩
  ·exact⟨rfl,rfl⟩
 rw[Book.untop]
 repeat' split
 all_goals first|exact⟨rfl,rfl⟩|exact ht _ _
theorem zAo {b:Book} (h:b.fit) (id s:Int):(b.leadF id s).fit:=by
 obtain⟨h1,h2,h3,h4,h5⟩:=h
 have hl:=zQk b s
 rw[Book.leadF]
 split
 all_goals exact⟨zPu h1 s,by rw[hl.2];exact h2,h3,h4,h5⟩
theorem lS {b:Book} (h:b.fit):b.small:=by
 obtain⟨⟨h1,_⟩,h2,h3,h4,h5⟩:=h
 exact⟨⟨h1,by omega⟩,by omega,by omega,by omega⟩
theorem z3r (i:BaI) (h:badd1C.cnd i):zJp i:=by
 have hfit:i.b.fit:=h
 have hsm:=lS hfit
 unfold zJp pZ
 have plc:∀(b:Book) (x:Int),wY (Value.int IntKind.i64 i.id) [D.v (.int .i64 1),D.v (.int .i64 i.price),D.v (.int .i64 x)] (atE b.at_)=atE (h8 i.id ⟨1,i.price,x⟩ b.at_):=fun b x=>zDd i.id ⟨1,i.price,x⟩ b.at_
 refine⟨qT _ _,(pget i.b.at_ i.id).isSome,_,_,_,lC _ _,1,rfl,trivial,fun _ _=> ?_⟩
 refine Cv.cnd.mk (fun c=>absurd c (by decide)) fun _=> ?_
 refine zT (fun c=> ?_) (fun c=>zT (fun d=> ?_) (fun d=> ?_))
 ·have ha:i.b.addF 1 i.id i.price i.qty=(i.b,24):=by rw[Book.addF,if_pos (.inl c)]
  rw[ha];exact kp
 ·have ha:i.b.addF 1 i.id i.price i.qty=(i.b,24):=by rw[Book.addF,if_pos (.inr d)]
  rw[ha];exact kp
 have hq:¬(i.qty<1∨1000000<i.qty):=by omega
 refine Cv.cnd.mk (fun e=> ?_) (fun e=> ?_)
 ·have ha:i.b.addF 1 i.id i.price i.qty=(i.b,25):=by rw[Book.addF,if_neg hq,if_pos e]
  rw[ha];exact kp
 have hlen:(atE i.b.at_).length=i.b.at_.length:=by simp[atE]
 rw[hlen]
 refine zT (fun f=> ?_) (fun f=> ?_)
 ·have ha:i.b.addF 1 i.id i.price i.qty=(i.b,13):=by rw[Book.addF,if_neg hq,if_neg (by rw[e];decide),if_pos (by omega)]
  rw[ha];exact kp
 have ha:i.b.addF 1 i.id i.price i.qty=(i.b.stand 1 i.id i.price i.qty,0):=by rw[Book.addF,if_neg hq,if_neg (by rw[e];decide),if_neg (by omega)]
 rw[ha]
 simp only[List.length_map]
 refine⟨true,fun x=>x=i.b.leads 1 i.price,Cv.cnd.mk (fun g=>⟨true,rfl,?_,by(repeat'(first|exact trivial|exact rfl|apply And.intro))⟩) (fun g=> ?_),fun x hx=> ?_⟩
 ·have:i.b.buys=[]:=List.eq_nil_of_length_eq_zero (by have:(i.b.buys.length:Int)=0:=(by simpa using g);omega)
  rw[Book.leads,gU,this]
 ·obtain⟨r,l,hl⟩:∃r l,i.b.buys=r::l:=by
   cases hb:i.b.buys with
   |nil=>rw[hb]at g;exact absurd g (by decide)
   |cons r l=>exact⟨r,l,rfl⟩
  refine⟨⟨by omega,by rw[hl,List.length_cons];omega⟩,r.price,elA (x:=r) (by rw[hl];rfl) (by simp[zA]) rfl,⟨1,i.price,r.price⟩,rfl,rfl,rfl,trivial,fun _ _=>⟨_,rfl,?_,by(repeat'(first|exact trivial|exact rfl|apply And.intro))⟩⟩
  rw[Book.leads,gU,hl]
 subst hx
 refine Cv.cnd.mk (fun g=> ?_) (fun g=> ?_)
 ·have hled:i.b.led i.id 1 i.price=i.b.leadF i.id 1:=by rw[Book.led,if_pos g]
  have hf1:=zAo hfit i.id 1
  have hst:i.b.stand 1 i.id i.price i.qty={((i.b.leadF i.id 1).queueF 1 i.price).1 with a:=(((i.b.leadF i.id 1).queueF 1 i.price).1.a.push ((i.b.leadF i.id 1).queueF 1 i.price).2 i.id i.qty (i.b.leads 1 i.price)).1,at_:=h8 i.id ⟨1,i.price,(((i.b.leadF i.id 1).queueF 1 i.price).1.a.push ((i.b.leadF i.id 1).queueF 1 i.price).2 i.id i.qty (i.b.leads 1 i.price)).2.1⟩ ((i.b.leadF i.id 1).queueF 1 i.price).1.at_}:=by
   simp only[Book.stand,hled]
  refine⟨⟨i.b,i.id⟩,rfl,trivial,rfl,rfl,rfl,rfl,rfl,rfl,rfl,rfl,rfl,hsm,fun _ _=>⟨⟨i.b.leadF i.id 1,i.price⟩,trivial,rfl,rfl,rfl,rfl,rfl,rfl,rfl,rfl,rfl,rfl,hf1,fun _ _=>⟨trivial,?_⟩⟩⟩
  refine⟨⟨((i.b.leadF i.id 1).queueF 1 i.price).1.a,((i.b.leadF i.id 1).queueF 1 i.price).2,i.id,i.qty,i.b.leads 1 i.price⟩,rfl,rfl,rfl,rfl,rfl,gE hf1.1 1 i.price,fun _ _=>⟨qT _ _,(),?_⟩⟩
  dsimp only
  rw[hst,plc]
  exact kp
 ·have hled:i.b.led i.id 1 i.price=i.b:=by rw[Book.led,if_neg (by rw[g];decide)]
  have hst:i.b.stand 1 i.id i.price i.qty={(i.b.queueF 1 i.price).1 with a:=((i.b.queueF 1 i.price).1.a.push (i.b.queueF 1 i.price).2 i.id i.qty (i.b.leads 1 i.price)).1,at_:=h8 i.id ⟨1,i.price,((i.b.queueF 1 i.price).1.a.push (i.b.queueF 1 i.price).2 i.id i.qty (i.b.leads 1 i.price)).2.1⟩ (i.b.queueF 1 i.price).1.at_}:=by
   simp only[Book.stand,hled]
  refine⟨⟨i.b,i.price⟩,trivial,rfl,rfl,rfl,rfl,rfl,rfl,rfl,rfl,rfl,rfl,hfit,fun _ _=>⟨trivial,?_⟩⟩
  refine⟨⟨(i.b.queueF 1 i.price).1.a,(i.b.queueF 1 i.price).2,i.id,i.qty,i.b.leads 1 i.price⟩,rfl,rfl,rfl,rfl,rfl,gE hfit.1 1 i.price,fun _ _=>⟨qT _ _,(),?_⟩⟩
  dsimp only
  rw[hst,plc]
  exact kp
theorem zVk:badd1C.ok Tryz.prog 30:=z1k (gokc mX (gokc vZ (gokc zSz (gokc zOn (gokc zFu gok0))))) z3r
theorem z6b (i:BaI) (h:badd2C.cnd i):zKd i:=by
 have hfit:i.b.fit:=h
 have hsm:=lS hfit
 unfold zKd rC
 have plc:∀(b:Book) (x:Int),wY (Value.int IntKind.i64 i.id) [D.v (.int .i64 2),D.v (.int .i64 i.price),D.v (.int .i64 x)] (atE b.at_)=atE (h8 i.id ⟨2,i.price,x⟩ b.at_):=fun b x=>zDd i.id ⟨2,i.price,x⟩ b.at_
 refine⟨qT _ _,(pget i.b.at_ i.id).isSome,_,_,_,lC _ _,2,rfl,trivial,fun _ _=> ?_⟩
 refine Cv.cnd.mk (fun c=>absurd c (by decide)) fun _=> ?_
 refine zT (fun c=> ?_) (fun c=>zT (fun d=> ?_) (fun d=> ?_))
 ·have ha:i.b.addF 2 i.id i.price i.qty=(i.b,24):=by rw[Book.addF,if_pos (.inl c)]
  rw[ha];exact kp
 ·have ha:i.b.addF 2 i.id i.price i.qty=(i.b,24):=by rw[Book.addF,if_pos (.inr d)]
  rw[ha];exact kp
 have hq:¬(i.qty<1∨1000000<i.qty):=by omega
 refine Cv.cnd.mk (fun e=> ?_) (fun e=> ?_)
 ·have ha:i.b.addF 2 i.id i.price i.qty=(i.b,25):=by rw[Book.addF,if_neg hq,if_pos e]
  rw[ha];exact kp
 have hlen:(atE i.b.at_).length=i.b.at_.length:=by simp[atE]
 rw[hlen]
 refine zT (fun f=> ?_) (fun f=> ?_)
 ·have ha:i.b.addF 2 i.id i.price i.qty=(i.b,13):=by rw[Book.addF,if_neg hq,if_neg (by rw[e];decide),if_pos (by omega)]
  rw[ha];exact kp
 have ha:i.b.addF 2 i.id i.price i.qty=(i.b.stand 2 i.id i.price i.qty,0):=by rw[Book.addF,if_neg hq,if_neg (by rw[e];decide),if_neg (by omega)]
 rw[ha]
 simp only[List.length_map]
 refine⟨true,fun x=>x=i.b.leads 2 i.price,Cv.cnd.mk (fun g=>⟨true,rfl,?_,by(repeat'(first|exact trivial|exact rfl|apply And.intro))⟩) (fun g=> ?_),fun x hx=> ?_⟩
 ·have:i.b.sells=[]:=List.eq_nil_of_length_eq_zero (by have:(i.b.sells.length:Int)=0:=(by simpa using g);omega)
  rw[Book.leads,gS,this]
 ·obtain⟨r,l,hl⟩:∃r l,i.b.sells=r::l:=by
   cases hb:i.b.sells with
   |nil=>rw[hb]at g;exact absurd g (by decide)
   |cons r l=>exact⟨r,l,rfl⟩
  refine⟨⟨by omega,by rw[hl,List.length_cons];omega⟩,r.price,elA (x:=r) (by rw[hl];rfl) (by simp[zA]) rfl,⟨2,i.price,r.price⟩,rfl,rfl,rfl,trivial,fun _ _=>⟨_,rfl,?_,by(repeat'(first|exact trivial|exact rfl|apply And.intro))⟩⟩
  rw[Book.leads,gS,hl]
 subst hx
 refine Cv.cnd.mk (fun g=> ?_) (fun g=> ?_)
 ·have hled:i.b.led i.id 2 i.price=i.b.leadF i.id 2:=by rw[Book.led,if_pos g]
  have hf1:=zAo hfit i.id 2
  have hst:i.b.stand 2 i.id i.price i.qty={((i.b.leadF i.id 2).queueF 2 i.price).1 with a:=(((i.b.leadF i.id 2).queueF 2 i.price).1.a.push ((i.b.leadF i.id 2).queueF 2 i.price).2 i.id i.qty (i.b.leads 2 i.price)).1,at_:=h8 i.id ⟨2,i.price,(((i.b.leadF i.id 2).queueF 2 i.price).1.a.push ((i.b.leadF i.id 2).queueF 2 i.price).2 i.id i.qty (i.b.leads 2 i.price)).2.1⟩ ((i.b.leadF i.id 2).queueF 2 i.price).1.at_}:=by
   simp only[Book.stand,hled]
  refine⟨⟨i.b,i.id⟩,rfl,trivial,rfl,rfl,rfl,rfl,rfl,rfl,rfl,rfl,rfl,hsm,fun _ _=>⟨⟨i.b.leadF i.id 2,i.price⟩,trivial,rfl,rfl,rfl,rfl,rfl,rfl,rfl,rfl,rfl,rfl,hf1,fun _ _=>⟨trivial,?_⟩⟩⟩
  refine⟨⟨((i.b.leadF i.id 2).queueF 2 i.price).1.a,((i.b.leadF i.id 2).queueF 2 i.price).2,i.id,i.qty,i.b.leads 2 i.price⟩,rfl,rfl,rfl,rfl,rfl,gE hf1.1 2 i.price,fun _ _=>⟨qT _ _,(),?_⟩⟩
  dsimp only
  rw[hst,plc]
  exact kp
 ·have hled:i.b.led i.id 2 i.price=i.b:=by rw[Book.led,if_neg (by rw[g];decide)]
  have hst:i.b.stand 2 i.id i.price i.qty={(i.b.queueF 2 i.price).1 with a:=((i.b.queueF 2 i.price).1.a.push (i.b.queueF 2 i.price).2 i.id i.qty (i.b.leads 2 i.price)).1,at_:=h8 i.id ⟨2,i.price,((i.b.queueF 2 i.price).1.a.push (i.b.queueF 2 i.price).2 i.id i.qty (i.b.leads 2 i.price)).2.1⟩ (i.b.queueF 2 i.price).1.at_}:=by
   simp only[Book.stand,hled]
  refine⟨⟨i.b,i.price⟩,trivial,rfl,rfl,rfl,rfl,rfl,rfl,rfl,rfl,rfl,rfl,hfit,fun _ _=>⟨trivial,?_⟩⟩
  refine⟨⟨(i.b.queueF 2 i.price).1.a,(i.b.queueF 2 i.price).2,i.id,i.qty,i.b.leads 2 i.price⟩,rfl,rfl,rfl,rfl,rfl,gE hfit.1 2 i.price,fun _ _=>⟨qT _ _,(),?_⟩⟩
  dsimp only
  rw[hst,plc]
  exact kp
theorem zWi:badd2C.ok Tryz.prog 30:=zZn (gokc mX (gokc vZ (gokc zUx (gokc zOq (gokc zFu gok0))))) z6b
theorem z0w:baddC.ok Tryz.prog 30:=fun j=>match j with
 |⟨i,false⟩=>zVk i
 |⟨i,true⟩=>zWi i
theorem z8w (i:SaI) (h:saddC.cnd i):zVz i:=by
 obtain⟨hp,hbl,hb⟩:i.s.fit:=h
 unfold zVz zDj
 simp only[zGc]
 have hml:(yE i.s.wh).length=i.s.wh.length:=by simp[yE]
 rw[hml]
 have out (e:i.inst<0∨i.s.books.length≤i.inst):MSt.addF i=(i.s,20):=by rw[MSt.addF,if_pos e]
 refine⟨uU _ _,(gP i.s.wh i.id).isSome,_,z3t _ _,zT (fun c=>Cv.cnd.mk (fun d=> ?_) (fun d=> ?_)) (fun c=> ?_)⟩
 ·have d:¬i.inst<(i.s.books.length:Int):=by simpa using d
  rw[out (.inr (by omega))];exact kp
 ·have d:i.inst<(i.s.books.length:Int):=by simpa using d
  have hn:¬(i.inst<0∨(i.s.books.length:Int)≤i.inst):=by omega
  refine Cv.cnd.mk (fun e=> ?_) (fun e=>zT (fun f=> ?_) (fun f=> ?_))
  ·rw[MSt.addF,if_neg hn,if_pos e];exact kp
  ·rw[MSt.addF,if_neg hn,if_neg (by rw[e];decide),if_pos (by omega)];exact kp
  ·refine⟨⟨i.s.p,i.inst,i.price⟩,rfl,rfl,rfl,rfl,rfl,rfl,rfl,rfl,rfl,rfl,rfl,rfl,rfl,hp,fun _ _=>Cv.cnd.mk (fun g=> ?_) (fun g=> ?_)⟩
   ·have g:i.s.p.price i.inst i.price≠0:=by simpa using g
    rw[MSt.addF,if_neg hn,if_neg (by rw[e];decide),if_neg (by omega),if_pos g];exact kp
   ·have g:i.s.p.price i.inst i.price=0:=by simpa using g
    obtain⟨x,hx⟩:=z8 (l:=i.s.books) (i:=i.inst.toNat) (by omega)
    have hba:i.s.bookAt i.inst=x:=zP hx
    have ha:MSt.addF i=({i.s with books:=i.s.books.set i.inst.toNat (x.addF (zB i.sd) i.id i.price i.qty).1,wh:=if(x.addF (zB i.sd) i.id i.price i.qty).2=0 then a9 i.id i.inst i.s.wh else i.s.wh},(x.addF (zB i.sd) i.id i.price i.qty).2):=by
     rw[MSt.addF,if_neg hn,if_neg (by rw[e];decide),if_neg (by omega),if_neg (by simp[g])]
     simp only[hba]
    refine⟨⟨by omega,by omega⟩,by omega,x,hx,⟨⟨x,i.id,i.price,i.qty⟩,i.sd⟩,rfl,rfl,rfl,rfl,rfl,hb x (List.mem_of_getElem? hx),fun _ _=>⟨(x.addF (zB i.sd) i.id i.price i.qty).1,rfl,trivial,by omega,Cv.cnd.mk (fun z=>⟨uU _ _,?_⟩) (fun z=> ?_)⟩⟩
    ·have z:(x.addF (zB i.sd) i.id i.price i.qty).2=0:=by simpa using z
     rw[ha,z]
     simp only[if_true]
     exact kp
    ·have z:¬(x.addF (zB i.sd) i.id i.price i.qty).2=0:=by simpa using z
     rw[ha,if_neg z]
     exact kp
 ·rw[out (.inl (by omega))];exact kp
theorem sadd_ok:saddC.ok Tryz.prog 12:=z2v (gokc zEk (gokc z0w gok0)) z8w
open Go Cv Go.Proofs
def r3prodC:Con:=con1 (List UInt8) (fun s=>[sV s]) (fun _=>[]) (fun s=>s.length≤1099511627776) (fun s=>yN (qU s)) (fun _=>[])
def z0k (s:List UInt8):List SAnn:=[{ι:=Nat×Nat,slots:=fun x=>[(3,zE x.2),(7,.nm 0 0)],rows:=fun x=>[.iter (sb s) x.1]}]
def z1b:List (Nat×SAnn):=[(20,bj 29)]
def r5checkC:Con:=con1 Prd (fun p=>[prdV p]) (fun _=>[]) Prd.small (fun p=>zE p.check) (fun _=>[])
def zTt:List SAnn:=[{ι:=Nat,slots:=fun j=>[(3,zE j)],rows:=fun _=>[]},{ι:=Nat,slots:=fun j=>[(4,zE j)],rows:=fun _=>[]},{ι:=Nat,slots:=fun j=>[(5,zE j)],rows:=fun _=>[]}]
def zWb:List (Nat×SAnn):=[(12,bj 19),(32,bj 58),(40,bj 90),(68,bj 136),(96,bj 168),(104,bj 176),(112,bj 204)]
def r5countC:Con:=con1 Prd (fun p=>[prdV p]) (fun _=>[]) Prd.small (fun p=>zE p.count) (fun _=>[])
def r5legsC:Con:=con1 h9 (fun i=>[prdV i.p,zE i.n]) (fun _=>[]) (fun i=>i.p.small) (fun i=> .tup [zE (i.p.legs i.n).1,zE (i.p.legs i.n).2.1,yN (i.p.legs i.n).2.2]) (fun _=>[])
def zYs (i:h9):List SAnn:=[{ι:=Nat,slots:=fun m=>[(8,zE (zZ i.p.months.length m)),(9,zE m)],rows:=fun _=>[]},
 {ι:=Nat×Nat,slots:=fun m=>[(8,zE ((zZ i.p.months.length m.1+m.2:Nat):Int)),(9,zE m.1),(10,zE ((m.1+1+m.2:Nat):Int))],rows:=fun _=>[]}]
def kN (x:Prd):Int:=2+zD x.months.length 0 3
def z9 (x:Prd):Int:=1+zD x.tick 0 9
def qM (n:Nat):List Int:=(List.range n).map fun(i:Nat)=>10*(i:Int)+3
def xV (t:Int) (n:Nat):List Int:=(List.range n).map fun(i:Nat)=>t*(10+(i:Int))
def wW (x:Prd):Prd:=⟨[206,169],qM (kN x).toNat,z9 x,-20*z9 x,100*z9 x,z9 x*(5+zD x.wide 0 60),1+zD x.rule 0 2,zD x.top 0 9,1+zD x.least 0 4,zD x.part 0 100,xV (z9 x) (kN x).toNat⟩
@[reducible] def Prd.raw (x:Prd):Prop:=yM x.tick∧yM x.wide∧yM x.rule∧yM x.top∧yM x.least∧yM x.part∧x.months.length≤9223372036854775807
def kprodC:Con:=con1 Prd (fun x=>[prdV x]) (fun _=>[]) Prd.raw (fun x=>prdV (wW x)) (fun _=>[])
def yAm (x:Prd) (w:Int) (j:Nat):List AObj:=[.cells [sV [206,169],.own 1,zE (z9 x),zE (-20*z9 x),zE (100*z9 x),zE w,zE (1+zD x.rule 0 2),zE (zD x.top 0 9),zE (1+zD x.least 0 4),zE (zD x.part 0 100),.own 2] 25,.own 3 1 (iE (qM j)),.own 2 1 (iE (xV (z9 x) j))]
def z9r (x:Prd):List AObj:=[.cells [sV [206,169],.d (.v (.slice none 0 0)),zE (z9 x),zE (-20*z9 x),zE (100*z9 x),zE 0,zE (1+zD x.rule 0 2),zE (zD x.top 0 9),zE (1+zD x.least 0 4),zE (zD x.part 0 100),.d (.v (.slice none 0 0))] 25]
def z7n (x:Prd):List SAnn:=[{ι:=Nat,slots:=fun j=>[(5,.nm 0 0),(6,zE j)],rows:=fun j=>yAm x (z9 x*(5+zD x.wide 0 60)) j}]
def z3w (x:Prd):List (Nat×SAnn):=[(12,{ι:=Unit,slots:=fun _=>[(5,.nm 0 0)],slots0:=fun _=>[],rows0:=fun _=>[],rows:=fun _=>z9r x})]
end Sx
