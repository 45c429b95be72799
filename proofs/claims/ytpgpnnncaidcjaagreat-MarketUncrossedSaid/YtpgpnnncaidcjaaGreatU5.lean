/- Texts of ours, one behind the other: a walk that the kernel reckons, and contracts of functions. No condition. -/
import Derived.Test.YtpgpnnncaidcjaaGreatU4
namespace Sx
set_option linter.unusedVariables false
set_option linter.unusedSimpArgs false
set_option maxRecDepth 100000
open Go Cv Go.Proofs
theorem zUo {l:List Quote} {q:Quote} (s:Int) (h:l[0]? =some q):(yW (l.take (max 0 1)) s).1=q:=by
 cases l with
 |nil=>simp at h
 |cons a l=>simp at h;subst h;rfl
theorem zTk {l:List Quote} {j:Nat} {q:Quote} (s:Int) (h:l[j]? =some q):
 (yW (l.take (max (j+1) 1)) s).1=if btr s q.price (yW (l.take (max j 1)) s).1.price then q else(yW (l.take (max j 1)) s).1:=by
 cases l with
 |nil=>simp at h
 |cons a l=>
  cases j with
  |zero=>simp at h;subst h;simp[yW]
  |succ m=>
   simp only[List.getElem?_cons_succ]at h
   rw[show max (m+1+1) 1=(m+1)+1 by omega,show max (m+1) 1=m+1 by omega,List.take_succ_cons,List.take_succ_cons,List.take_add_one,h]
   simp only[yW,Option.toList_some,List.foldl_append]
   rfl
theorem z1c {l:List Quote} (s:Int) (h:l≠[]):(yW l s).2=true:=by
 cases l with
 |nil=>exact absurd rfl h
 |cons a l=>rfl
theorem yIo (i:BsI) (h:bestQC.cnd i):zUg i:=by
 obtain⟨hs,hl⟩:(i.s=1∨i.s=2)∧i.l.length≤1000000:=h
 unfold zUg zGt zAv z5 dE tC
 simp only[List.length_map]
 refine Cv.cnd.mk (fun c=> ?_) (fun c=> ?_)
 ·have e:i.l=[]:=List.eq_nil_of_length_eq_zero (by have:(i.l.length:Int)=0:=(by simpa using c);omega)
  rw[e];exact kp
 have h0:0<i.l.length:=by
  rcases Nat.eq_zero_or_pos i.l.length with h|h
  ·rw[h]at c;exact absurd c (by decide)
  ·exact h
 have hne:i.l≠[]:=by intro e;rw[e]at h0;simp at h0
 have two:=z1c i.s hne
 obtain⟨q,hq⟩:=yA h0
 have b0:=zUo i.s hq
 have fin:(yW (i.l.take (max i.l.length 1)) i.s).1=(yW i.l i.s).1:=by
  rw[List.take_of_length_le (by omega)]
 have step:∀j:Nat,j<i.l.length→∀x:Quote,i.l[j]? =some x→(btr i.s x.price (yW (i.l.take (max j 1)) i.s).1.price=true→(yW (i.l.take (max (j+1) 1)) i.s).1=x)∧(btr i.s x.price (yW (i.l.take (max j 1)) i.s).1.price=false→(yW (i.l.take (max (j+1) 1)) i.s).1=(yW (i.l.take (max j 1)) i.s).1):=fun j hj x hx=>by
  have:=zTk i.s hx
  constructor
  ·intro e;rw[this,if_pos e]
  ·intro e;rw[this,if_neg (by rw[e];simp)]
 refine Cv.cnd.mk (fun c1=>Cv.cnd.mk (fun c2=> ?_) (fun c2=> ?_)) (fun c1=> ?_)
 ·exfalso
  have c1:i.s≠1:=by simpa using c1
  have c2:i.s≠2:=by simpa using c2
  omega
 all_goals
  refine⟨⟨by omega,by omega⟩,q.price,q.qty,q.a.inst,q.a.side,q.b.inst,q.b.side,elA hq (by simp[zH]) rfl,0,?_⟩
  rw[b0]
  (repeat'(first|exact rfl|exact trivial|assumption|apply And.intro|refine fun(_:Unit) (_:True)=>?_|refine Exists.intro () ?_|omega|(dsimp only;omega)))
  refine⟨fun j=>j≤i.l.length,fun j=>i.l.length-j,by omega,fun j hj=>zK (fun hlt=> ?_) (fun hlt=> ?_)⟩
  ·have hj':j<i.l.length:=by omega
   obtain⟨x,hx⟩:=yA hj'
   obtain⟨st,sf⟩:=step j hj' x hx
   refine⟨⟨by omega,by omega⟩,x.price,x.qty,x.a.inst,x.a.side,x.b.inst,x.b.side,elA hx (by simp[zH]) rfl,⟨i.s,x.price,_⟩,rfl,rfl,rfl,trivial,fun _ _=>Cv.cnd.mk (fun e=>⟨j+1,by rw[w64 (by omega)];rfl,?_⟩) (fun e=>⟨j+1,by rw[w64 (by omega)];rfl,?_⟩)⟩
   ·rw[st e];exact kp
   ·rw[sf e];exact kp
  ·have hj:j≤i.l.length:=hj
   obtain rfl:j=i.l.length:=by omega
   rw[fin,two];exact kp
theorem z7b:bestQC.ok Tryz.prog 66:=yEa (gokc zUu gok0) yIo
theorem lK (tops:List Top) (a b:Leg) (less:Bool):(mkq tops a b less).length≤1:=by
 unfold mkq
 dsimp only
 split<;>split<;>simp
theorem zMg {α:Type} {f:Nat→List α} (h:∀k,(f k).length≤1):∀n,((List.range n).flatMap f).length≤n
 |0=>by simp
 |n+1=>by
  rw[List.range_succ,List.flatMap_append,List.length_append]
  have:=zMg h n
  have:=h n
  simp only[List.flatMap_cons,List.flatMap_nil,List.append_nil]
  omega
theorem tF (i:mA) (s:Int) (k:Nat):(x0 i s k).length≤k:=zMg (fun _=>lK _ _ _ _) k
theorem a9 (i:mA) (s:Int) (k:Nat):(xM i s k).length≤k:=zMg (fun _=>lK _ _ _ _) k
theorem m5 (i:mA) (s:Int):(xG i s).length≤100:=by
 unfold xG
 split
 ·simp
 ·rename_i h
  have hc:=qG i.p
  have m6:=(qY (nO (p:=i.p) (by omega))).m6
  split
  ·rw[List.length_map]
   have:=lK i.tops ⟨(i.p.legs i.inst).2.1,3-s⟩ ⟨(i.p.legs i.inst).1,s⟩ true
   have e:(zU i s).length≤1:=this
   omega
  ·rw[List.length_append]
   have h1:=tF i s (i.p.months.length-(i.inst.toNat+1))
   have h2:=a9 i s i.inst.toNat
   omega
theorem yBt (j:fM) (h:quotesC.cnd j):zYb j:=by
 obtain⟨hp,ht,hr⟩:j.i.p.small∧wY j.i.tops:=h
 obtain⟨h1,h2,h3⟩:=hp
 have hl:=m5 j.i (zA j.s)
 refine⟨j,?_⟩
 simp only[List.length_map]
 (repeat'(first|exact rfl|exact trivial|assumption|apply And.intro|refine fun(_:Unit) (_:True)=>?_|refine Exists.intro () ?_|omega|(dsimp only;omega)))
 refine⟨0,rfl,rfl,fun k=>k≤(xG j.i (zA j.s)).length,fun k=>(xG j.i (zA j.s)).length-k,by omega,fun k hk=>zK (fun hlt=> ?_) (fun hlt=> ?_)⟩
 ·have hk':k<(xG j.i (zA j.s)).length:=by omega
  obtain⟨q,hq⟩:=yA hk'
  have hf:(List.filter (fun q=>decide (j.i.p.price j.i.inst q.price=0)) (List.take k (xG j.i (zA j.s)))).length≤100:=by
   have:=List.length_filter_le (fun q:Quote=>decide (j.i.p.price j.i.inst q.price=0)) (List.take k (xG j.i (zA j.s)))
   rw[List.length_take]at this
   omega
  refine⟨⟨by omega,by omega⟩,q.price,q.qty,q.a.inst,q.a.side,q.b.inst,q.b.side,elA hq (by simp[zH]) rfl,⟨j.i.p,j.i.inst,q.price⟩,?_⟩
  (repeat'(first|exact rfl|exact trivial|assumption|apply And.intro|refine fun(_:Unit) (_:True)=>?_|refine Exists.intro () ?_|omega|(dsimp only;omega)))
  refine Cv.cnd.mk (fun c=>⟨by omega,k+1,by rw[w64 (by omega)];rfl,?_⟩) (fun c=>⟨k+1,by rw[w64 (by omega)];rfl,?_⟩)
  ·have c:j.i.p.price j.i.inst q.price=0:=by simpa using c
   rw[List.take_add_one,hq,Option.toList_some,List.filter_append,List.filter_cons_of_pos (by simpa using c),List.map_append]
   exact kp
  ·have c:¬j.i.p.price j.i.inst q.price=0:=by simpa using c
   rw[List.take_add_one,hq,Option.toList_some,List.filter_append,List.filter_cons_of_neg (by simpa using c),List.filter_nil,List.append_nil]
   exact kp
 ·have hk:k≤(xG j.i (zA j.s)).length:=hk
  obtain rfl:k=(xG j.i (zA j.s)).length:=by omega
  rw[List.take_of_length_le (Nat.le_refl _)]
  exact kp
open Go Cv Go.Proofs
theorem z2y:∀n≤6,∀a<n,∀b<n,a<b→0≤(z8 n a:Int)+b-a-1∧(z8 n a:Int)+b-a-1<((n+n*(n-1) / 2:Nat):Int):=by decide
theorem dB {p:Prd} (hc:p.check=0) {a b:Nat} (hab:a<b) (hb:b<p.months.length):0≤(p.spread a b).1∧(p.spread a b).1<p.count:=by
 have m6:=(qY hc).m6
 have:=z2y p.months.length m6 a (by omega) b hb hab
 rw[Prd.spread,if_neg (by omega),Prd.count,if_pos hc]
 simpa using this
theorem yDc:∀n≤6,∀k<n+n*(n-1) / 2,n≤k→(kA n k n 0).2.2=true∧0≤(kA n k n 0).1∧(kA n k n 0).1<n∧0≤(kA n k n 0).2.1∧(kA n k n 0).2.1<n:=by decide
theorem fH {p:Prd} (hc:p.check=0) {k:Nat} (hk:k<p.count):((p.legs k).2.2=true∧0≤(p.legs k).1∧(p.legs k).1<p.months.length∧0≤(p.legs k).2.1∧(p.legs k).2.1<p.months.length)∨((p.legs k).2.2=false∧k<p.months.length):=by
 have m6:=(qY hc).m6
 have hk':=hk
 rw[Prd.count,if_pos hc]at hk'
 by_cases h:k<p.months.length
 ·right
  rw[Prd.legs,if_neg (by omega),if_pos (by omega)]
  exact⟨rfl,h⟩
 ·left
  rw[Prd.legs,if_neg (by omega),if_neg (by omega)]
  exact yDc p.months.length m6 k hk' (by omega)
theorem m9 {p:Prd} (hc:p.check=0):p.months.length≤p.count:=by
 rw[Prd.count,if_pos hc];omega
theorem zPf {i:mA} {s:Int} {k:Nat} (hk:k<(zU i s).length):List.map zH (List.map (jO i s) (List.take (k+1) (zU i s))++List.drop (k+1) (zU i s))=
 yC (List.map zH (List.map (jO i s) (List.take k (zU i s))++List.drop k (zU i s))) k (0+2) [D.v (.int .i64 (i.p.legs i.inst).1),D.v (.int .i64 s),D.v (.int .i64 (i.p.legs i.inst).2.1),D.v (.int .i64 (3-s))]:=by
 obtain⟨q,hq⟩:=yA hk
 rw[zKs (a:=List.map zH (List.map (jO i s) (List.take k (zU i s)))) (b:=List.map zH (List.drop (k+1) (zU i s))) (x:=zH q) (y:=zH (jO i s q)) (by
  rw[List.map_append,List.drop_eq_getElem_cons hk,(List.getElem?_eq_some_iff.1 hq).2,List.map_cons]) (by simp;omega) rfl]
 rw[List.take_add_one,hq,Option.toList_some,List.map_append,List.map_append,List.map_append,List.map_cons,List.map_nil,List.map_cons,List.map_nil,List.append_assoc]
 rfl
theorem yNi (i:mA) (h:all1C.cnd i):yEz i:=by
 obtain⟨⟨h1,h2,h3⟩,ht,hr⟩:i.p.small∧wY i.tops:=h
 have hto:wY i.tops:=⟨ht,hr⟩
 refine⟨i.p,?_⟩
 simp only[List.length_map,xI]
 (repeat'(first|exact rfl|exact trivial|assumption|apply And.intro|refine fun(_:Unit) (_:True)=>?_|refine Exists.intro () ?_|omega|(dsimp only;omega)))
 have bad (hb:i.p.count=0∨(i.tops.length:Int)≠i.p.count∨i.inst<0∨(i.p.count:Int)≤i.inst):∃(o:Unit),List.map zH (xG i 1)=[]∧True:=⟨(),by rw[xG,if_pos hb];rfl,trivial⟩
 refine Cv.cnd.mk (fun c1=>bad (.inl (by have c1:(i.p.count:Int)=0:=(by simpa using c1);omega))) fun c1=>Cv.cnd.mk (fun c2=>bad (.inr (.inl (by simpa using c2)))) fun c2=>zK (fun c3=>bad (by omega)) fun c3=>zK (fun c4=>bad (by omega)) fun c4=>⟨⟨i.p,i.inst⟩,?_⟩
 have c1:i.p.count≠0:=by
  have c1:¬(i.p.count:Int)=0:=(by simpa using c1)
  omega
 have c2:(i.tops.length:Int)=i.p.count:=by simpa using c2
 have c4:i.inst<(i.p.count:Int):=by
  have c4:¬i.inst≥(i.p.count:Int):=c4
  omega
 have hc:=nO c1
 have hm:=m9 hc
 have e0:xG i 1=if(i.p.legs i.inst).2.2 then(zU i 1).map (jO i 1)else x0 i 1 (i.p.months.length-(i.inst.toNat+1))++xM i 1 i.inst.toNat:=by
  rw[xG,if_neg (by omega)]
 obtain⟨k,hk⟩:∃k:Nat,i.inst=k:=⟨i.inst.toNat,by omega⟩
 have hl:=fH hc (k:=k) (by omega)
 rw[← hk]at hl
 (repeat'(first|exact rfl|exact trivial|assumption|apply And.intro|refine fun(_:Unit) (_:True)=>?_|refine Exists.intro () ?_|omega|(dsimp only;omega)))
 refine Cv.cnd.mk (fun c5=> ?_) (fun c5=> ?_)
 ·have c5:(i.p.legs i.inst).2.2=true:=c5
  rw[e0,if_pos c5]
  rcases hl with⟨_,l1,l2,l3,l4⟩|⟨l1,_⟩
  ·have hsl:(zU i 1).length≤1:=lK _ _ _ _
   refine⟨1,rfl,by omega,fun _ _=>⟨⟨⟨i.tops,[],(i.p.legs i.inst).2.1,(i.p.legs i.inst).1,true⟩,true,false⟩,rfl,rfl,rfl,rfl,rfl,rfl,rfl,⟨l3,by dsimp only;omega,l1,by dsimp only;omega,hto,by simp⟩,fun _ _=>⟨0,rfl,rfl,rfl,fun j=>j≤(zU i 1).length,fun j=>(zU i 1).length-j,by omega,?_⟩⟩⟩
   intro j hj
   have hj:j≤(zU i 1).length:=hj
   have hL:(List.map (jO i 1) (List.take j (zU i 1))++List.drop j (zU i 1)).length=(zU i 1).length:=by simp;omega
   refine zK (fun hlt=> ?_) (fun hlt=> ?_)
   ·have hlt:(j:Int)<((zU i 1).length:Int):=hlt
    refine⟨⟨by omega,by rw[hL];omega⟩,by rw[hL];omega,j+1,by rw[w64 (by omega)];rfl,kp,?_,?_⟩
    ·exact zPf (i:=i) (s:=1) (by omega)
    ·exact kp
   ·have hlt:¬(j:Int)<((zU i 1).length:Int):=hlt
    obtain rfl:j=(zU i 1).length:=by omega
    rw[List.take_of_length_le (Nat.le_refl _),List.drop_length,List.append_nil]
    exact kp
  ·rw[c5]at l1;cases l1
 ·have c5:(i.p.legs i.inst).2.2=false:=c5
  rw[e0,if_neg (by rw[c5];simp)]
  rcases hl with⟨l1,_⟩|⟨_,l2⟩
  ·rw[c5]at l1;cases l1
  have m6:=(qY hc).m6
  have e1:i.inst.toNat=k:=by omega
  rw[e1]
  refine⟨0,by rw[w64 (by omega)];omega,kp,rfl,fun j=>j≤i.p.months.length-(k+1),fun j=>i.p.months.length-(k+1)-j,by omega,?_⟩
  intro j hj
  have hj:j≤i.p.months.length-(k+1):=hj
  have hq:=tF i 1 j
  refine zK (fun hlt=> ?_) (fun hlt=> ?_)
  ·obtain⟨b1,b2⟩:=dB hc (a:=k) (b:=k+1+j) (by omega) (by omega)
   have eb:((k+1+j:Nat):Int)=i.inst+1+j:=by omega
   rw[eb,← hk]at b1 b2
   refine⟨⟨i.p,i.inst,i.inst+1+j⟩,?_⟩
   (repeat'(first|exact rfl|exact trivial|assumption|apply And.intro|refine fun(_:Unit) (_:True)=>?_|refine Exists.intro () ?_|omega|(dsimp only;omega)))
   refine⟨⟨⟨i.tops,x0 i 1 j,(i.p.spread i.inst (i.inst+1+j)).1,i.inst+1+j,false⟩,false,false⟩,rfl,rfl,rfl,rfl,rfl,kp,rfl,⟨b1,by dsimp only;omega,by dsimp only;omega,by dsimp only;omega,hto,by dsimp only;omega⟩,fun _ _=>⟨j+1,by rw[w64 (by omega)];omega,kp,?_,?_⟩⟩
   ·rw[x0,List.range_succ,List.flatMap_append]
    simp only[List.flatMap_cons,List.flatMap_nil,List.append_nil]
    rfl
   ·exact kp
  ·obtain rfl:j=i.p.months.length-(k+1):=by omega
   refine⟨0,rfl,kp,by rw[xM];simp,fun j=>j≤k,fun j=>k-j,by omega,?_⟩
   intro j hj
   have hj:j≤k:=hj
   have hq2:=a9 i 1 j
   refine zK (fun hlt2=> ?_) (fun hlt2=> ?_)
   ·obtain⟨b1,b2⟩:=dB hc (a:=j) (b:=k) (by omega) (by omega)
    rw[← hk]at b1 b2
    refine⟨⟨i.p,j,i.inst⟩,?_⟩
    (repeat'(first|exact rfl|exact trivial|assumption|apply And.intro|refine fun(_:Unit) (_:True)=>?_|refine Exists.intro () ?_|omega|(dsimp only;omega)))
    refine⟨1,rfl,by omega,fun _ _=>⟨⟨⟨i.tops,x0 i 1 (i.p.months.length-(k+1))++xM i 1 j,(i.p.spread j i.inst).1,j,true⟩,true,false⟩,rfl,rfl,rfl,rfl,rfl,kp,rfl,⟨b1,by dsimp only;omega,by dsimp only;omega,by dsimp only;omega,hto,by dsimp only;rw[List.length_append];omega⟩,fun _ _=>⟨j+1,by rw[w64 (by omega)];omega,kp,?_,?_⟩⟩⟩
    ·rw[xM,List.range_succ,List.flatMap_append]
     simp only[List.flatMap_cons,List.flatMap_nil,List.append_nil,List.append_assoc]
     rfl
    ·exact kp
   ·obtain rfl:j=k:=by omega
    exact kp
theorem yBg:all1C.ok Tryz.prog 25:=yLp (gokc pcount_ok (gokc pR (gokc zKr (gokc zJc (gokc zSq gok0))))) yNi
theorem yMk (i:mA) (h:all2C.cnd i):yFa i:=by
 obtain⟨⟨h1,h2,h3⟩,ht,hr⟩:i.p.small∧wY i.tops:=h
 have hto:wY i.tops:=⟨ht,hr⟩
 refine⟨i.p,?_⟩
 simp only[List.length_map,xI]
 (repeat'(first|exact rfl|exact trivial|assumption|apply And.intro|refine fun(_:Unit) (_:True)=>?_|refine Exists.intro () ?_|omega|(dsimp only;omega)))
 have bad (hb:i.p.count=0∨(i.tops.length:Int)≠i.p.count∨i.inst<0∨(i.p.count:Int)≤i.inst):∃(o:Unit),List.map zH (xG i 2)=[]∧True:=⟨(),by rw[xG,if_pos hb];rfl,trivial⟩
 refine Cv.cnd.mk (fun c1=>bad (.inl (by have c1:(i.p.count:Int)=0:=(by simpa using c1);omega))) fun c1=>Cv.cnd.mk (fun c2=>bad (.inr (.inl (by simpa using c2)))) fun c2=>zK (fun c3=>bad (by omega)) fun c3=>zK (fun c4=>bad (by omega)) fun c4=>⟨⟨i.p,i.inst⟩,?_⟩
 have c1:i.p.count≠0:=by
  have c1:¬(i.p.count:Int)=0:=(by simpa using c1)
  omega
 have c2:(i.tops.length:Int)=i.p.count:=by simpa using c2
 have c4:i.inst<(i.p.count:Int):=by
  have c4:¬i.inst≥(i.p.count:Int):=c4
  omega
 have hc:=nO c1
 have hm:=m9 hc
 have e0:xG i 2=if(i.p.legs i.inst).2.2 then(zU i 2).map (jO i 2)else x0 i 2 (i.p.months.length-(i.inst.toNat+1))++xM i 2 i.inst.toNat:=by
  rw[xG,if_neg (by omega)]
 obtain⟨k,hk⟩:∃k:Nat,i.inst=k:=⟨i.inst.toNat,by omega⟩
 have hl:=fH hc (k:=k) (by omega)
 rw[← hk]at hl
 (repeat'(first|exact rfl|exact trivial|assumption|apply And.intro|refine fun(_:Unit) (_:True)=>?_|refine Exists.intro () ?_|omega|(dsimp only;omega)))
 refine Cv.cnd.mk (fun c5=> ?_) (fun c5=> ?_)
 ·have c5:(i.p.legs i.inst).2.2=true:=c5
  rw[e0,if_pos c5]
  rcases hl with⟨_,l1,l2,l3,l4⟩|⟨l1,_⟩
  ·have hsl:(zU i 2).length≤1:=lK _ _ _ _
   refine⟨2,rfl,by omega,fun _ _=>⟨⟨⟨i.tops,[],(i.p.legs i.inst).2.1,(i.p.legs i.inst).1,true⟩,false,true⟩,rfl,rfl,rfl,rfl,rfl,rfl,rfl,⟨l3,by dsimp only;omega,l1,by dsimp only;omega,hto,by simp⟩,fun _ _=>⟨0,rfl,rfl,rfl,fun j=>j≤(zU i 2).length,fun j=>(zU i 2).length-j,by omega,?_⟩⟩⟩
   intro j hj
   have hj:j≤(zU i 2).length:=hj
   have hL:(List.map (jO i 2) (List.take j (zU i 2))++List.drop j (zU i 2)).length=(zU i 2).length:=by simp;omega
   refine zK (fun hlt=> ?_) (fun hlt=> ?_)
   ·have hlt:(j:Int)<((zU i 2).length:Int):=hlt
    refine⟨⟨by omega,by rw[hL];omega⟩,by rw[hL];omega,j+1,by rw[w64 (by omega)];rfl,kp,?_,?_⟩
    ·exact zPf (i:=i) (s:=2) (by omega)
    ·exact kp
   ·have hlt:¬(j:Int)<((zU i 2).length:Int):=hlt
    obtain rfl:j=(zU i 2).length:=by omega
    rw[List.take_of_length_le (Nat.le_refl _),List.drop_length,List.append_nil]
    exact kp
  ·rw[c5]at l1;cases l1
 ·have c5:(i.p.legs i.inst).2.2=false:=c5
  rw[e0,if_neg (by rw[c5];simp)]
  rcases hl with⟨l1,_⟩|⟨_,l2⟩
  ·rw[c5]at l1;cases l1
  have m6:=(qY hc).m6
  have e1:i.inst.toNat=k:=by omega
  rw[e1]
  refine⟨0,by rw[w64 (by omega)];omega,kp,rfl,fun j=>j≤i.p.months.length-(k+1),fun j=>i.p.months.length-(k+1)-j,by omega,?_⟩
  intro j hj
  have hj:j≤i.p.months.length-(k+1):=hj
  have hq:=tF i 2 j
  refine zK (fun hlt=> ?_) (fun hlt=> ?_)
  ·obtain⟨b1,b2⟩:=dB hc (a:=k) (b:=k+1+j) (by omega) (by omega)
   have eb:((k+1+j:Nat):Int)=i.inst+1+j:=by omega
   rw[eb,← hk]at b1 b2
   refine⟨⟨i.p,i.inst,i.inst+1+j⟩,?_⟩
   (repeat'(first|exact rfl|exact trivial|assumption|apply And.intro|refine fun(_:Unit) (_:True)=>?_|refine Exists.intro () ?_|omega|(dsimp only;omega)))
   refine⟨⟨⟨i.tops,x0 i 2 j,(i.p.spread i.inst (i.inst+1+j)).1,i.inst+1+j,false⟩,true,true⟩,rfl,rfl,rfl,rfl,rfl,kp,rfl,⟨b1,by dsimp only;omega,by dsimp only;omega,by dsimp only;omega,hto,by dsimp only;omega⟩,fun _ _=>⟨j+1,by rw[w64 (by omega)];omega,kp,?_,?_⟩⟩
   ·rw[x0,List.range_succ,List.flatMap_append]
    simp only[List.flatMap_cons,List.flatMap_nil,List.append_nil]
    rfl
   ·exact kp
  ·obtain rfl:j=i.p.months.length-(k+1):=by omega
   refine⟨0,rfl,kp,by rw[xM];simp,fun j=>j≤k,fun j=>k-j,by omega,?_⟩
   intro j hj
   have hj:j≤k:=hj
   have hq2:=a9 i 2 j
   refine zK (fun hlt2=> ?_) (fun hlt2=> ?_)
   ·obtain⟨b1,b2⟩:=dB hc (a:=j) (b:=k) (by omega) (by omega)
    rw[← hk]at b1 b2
    refine⟨⟨i.p,j,i.inst⟩,?_⟩
    (repeat'(first|exact rfl|exact trivial|assumption|apply And.intro|refine fun(_:Unit) (_:True)=>?_|refine Exists.intro () ?_|omega|(dsimp only;omega)))
    refine⟨2,rfl,by omega,fun _ _=>⟨⟨⟨i.tops,x0 i 2 (i.p.months.length-(k+1))++xM i 2 j,(i.p.spread j i.inst).1,j,true⟩,false,true⟩,rfl,rfl,rfl,rfl,rfl,kp,rfl,⟨b1,by dsimp only;omega,by dsimp only;omega,by dsimp only;omega,hto,by dsimp only;rw[List.length_append];omega⟩,fun _ _=>⟨j+1,by rw[w64 (by omega)];omega,kp,?_,?_⟩⟩⟩
    ·rw[xM,List.range_succ,List.flatMap_append]
     simp only[List.flatMap_cons,List.flatMap_nil,List.append_nil,List.append_assoc]
     rfl
    ·exact kp
   ·obtain rfl:j=k:=by omega
    exact kp
theorem yAb:all2C.ok Tryz.prog 25:=yLc (gokc pcount_ok (gokc pR (gokc zKr (gokc zJc (gokc zSq gok0))))) yMk
theorem all_ok:allC.ok Tryz.prog 25:=fun j=>match j with
 |⟨i,false⟩=>yBg i
 |⟨i,true⟩=>yAb i
theorem z0l:quotesC.ok Tryz.prog 67:=z8z (gokc all_ok (gokc nP gok0)) yBt
open Go Cv Go.Proofs
structure BkI where
 p:Prd
 s:MSt
open Go Cv Go.Proofs
open Go Cv Go.Proofs
open Go Cv Go.Proofs
structure Mkt where
 p:Prd
 s:MSt
 used:List Int
def zY (l:List Int):List (Value×List D):=l.map fun x=>(.int .i64 x,[.v (.bool true)])
def yH (m:Mkt):Nat→AObj
 |0=> .cells [sV m.p.code,.own 3,zB m.p.tick,zB m.p.low,zB m.p.high,zB m.p.wide,zB m.p.rule,zB m.p.top,zB m.p.least,zB m.p.part,.own 4,.nm 1 0,.mp 2] 90
 |1=>zE m.s
 |2=> .map (zY m.used)
 |3=> .fro 1 (iE m.p.months)
 |4=> .fro 1 (iE m.p.settle)
 |_=> .gone
def zIn (m:Mkt):AObj:= .adt Mkt 5 yH m
def newMC:Con where
 ι:=Prd
 pat:=fun p=>[prdV p]
 pre:=fun _=>[]
 cnd:=fun p=>p.small
 alts:=fun p=>[{o:=Unit,res:=fun _=> .tup [.nm 0 0,zB 0],post:=fun _=>[zIn ⟨p,gJ p,[]⟩],rel:=fun _=>p.check=0},{o:=Unit,res:=fun _=> .tup [.d (.v (.pointer none)),zB p.check],post:=fun _=>[],rel:=fun _=>p.check≠0}]
def stateC:Con:=con1 Mkt (fun _=>[.nm 0 0]) (fun m=>[zIn m]) (fun m=>m.s.small) (fun _=> .nm 1 0) (fun m=>[zIn m,zE m.s])
open Go Cv Go.Proofs
def yFi (p:Prd):Prop:=
 ∃(i:Prd),sb i.code=sb p.code∧iE i.months=iE p.months∧i.tick=p.tick∧i.low=p.low∧i.high=p.high∧i.wide=p.wide∧i.rule=p.rule∧i.top=p.top∧i.least=p.least∧i.part=p.part∧iE i.settle=iE p.settle∧(i.code.length≤1099511627776∧i.months.length≤1099511627776∧i.settle.length≤1099511627776)∧(∀(o:Unit),i.check=0→(True∧True∧((0+(iE p.months).length)*(8:Nat)≤(70368744177664:Nat)∧True∧True∧(0+(iE p.settle).length)*(8:Nat)≤(70368744177664:Nat)∧((∃(o:Unit),(0:Int)=(0:Int)∧sb p.code=sb p.code∧p.tick=p.tick∧p.low=p.low∧p.high=p.high∧p.wide=p.wide∧p.rule=p.rule∧p.top=p.top∧p.least=p.least∧p.part=p.part∧zE (gJ p)=zE (gJ i)∧zY []=[]∧iE p.months=[]++iE p.months∧iE p.settle=[]++iE p.settle∧p.check=0)∨∃(o:Unit),False))∧True∧True∧(0+(iE p.months).length)*(8:Nat)≤(70368744177664:Nat)∧True∧(0+(iE p.settle).length)*(8:Nat)≤(70368744177664:Nat)∧((∃(o:Unit),(0:Int)=(0:Int)∧sb p.code=sb p.code∧p.tick=p.tick∧p.low=p.low∧p.high=p.high∧p.wide=p.wide∧p.rule=p.rule∧p.top=p.top∧p.least=p.least∧p.part=p.part∧zE (gJ p)=zE (gJ i)∧zY []=[]∧iE p.months=[]++iE p.months∧iE p.settle=[]++iE p.settle∧p.check=0)∨∃(o:Unit),False))∧True∧True∧True∧True∧(0+(iE p.months).length)*(8:Nat)≤(70368744177664:Nat)∧True∧(0+(iE p.settle).length)*(8:Nat)≤(70368744177664:Nat)∧((∃(o:Unit),(0:Int)=(0:Int)∧sb p.code=sb p.code∧p.tick=p.tick∧p.low=p.low∧p.high=p.high∧p.wide=p.wide∧p.rule=p.rule∧p.top=p.top∧p.least=p.least∧p.part=p.part∧zE (gJ p)=zE (gJ i)∧zY []=[]∧iE p.months=[]++iE p.months∧iE p.settle=[]++iE p.settle∧p.check=0)∨∃(o:Unit),False))∧∀(o:Unit),i.check≠0→cnd (i.check !=0) ((∃(o:Unit),False)∨∃(o:Unit),True∧p.check=i.check∧(p.check=0→False)) ((True∧True∧((0+(iE p.months).length)*(8:Nat)≤(70368744177664:Nat)∧True∧True∧(0+(iE p.settle).length)*(8:Nat)≤(70368744177664:Nat)∧((∃(o:Unit),(0:Int)=(0:Int)∧sb p.code=sb p.code∧p.tick=p.tick∧p.low=p.low∧p.high=p.high∧p.wide=p.wide∧p.rule=p.rule∧p.top=p.top∧p.least=p.least∧p.part=p.part∧False)∨∃(o:Unit),False))∧True∧True∧(0+(iE p.months).length)*(8:Nat)≤(70368744177664:Nat)∧True∧(0+(iE p.settle).length)*(8:Nat)≤(70368744177664:Nat)∧((∃(o:Unit),(0:Int)=(0:Int)∧sb p.code=sb p.code∧p.tick=p.tick∧p.low=p.low∧p.high=p.high∧p.wide=p.wide∧p.rule=p.rule∧p.top=p.top∧p.least=p.least∧p.part=p.part∧False)∨∃(o:Unit),False))∧True∧True∧True∧True∧(0+(iE p.months).length)*(8:Nat)≤(70368744177664:Nat)∧True∧(0+(iE p.settle).length)*(8:Nat)≤(70368744177664:Nat)∧((∃(o:Unit),(0:Int)=(0:Int)∧sb p.code=sb p.code∧p.tick=p.tick∧p.low=p.low∧p.high=p.high∧p.wide=p.wide∧p.rule=p.rule∧p.top=p.top∧p.least=p.least∧p.part=p.part∧False)∨∃(o:Unit),False))
theorem yLe (hG:GOk Tryz.prog ([(37,newSC)])) (h:∀(p:Prd),newMC.cnd p→yFi p):newMC.ok Tryz.prog 10:=okw mixed hG 0 (fun _=>[]) (fun _=>[]) [] Tryz.func10 h
def yGh (m:Mkt):Prop:=
 ∃(i:MSt),zE i=zE m.s∧(i.books.length≤1000000∧∀(b:Book),b∈i.books→(b.a.slots.length≤1000000∧b.a.queues.length≤1000000)∧b.buys.length≤1000000∧b.sells.length≤1000000∧b.spare.length≤1000000)∧∀(o:Unit),True→∃(o:Unit),sb m.p.code=sb m.p.code∧m.p.tick=m.p.tick∧m.p.low=m.p.low∧m.p.high=m.p.high∧m.p.wide=m.p.wide∧m.p.rule=m.p.rule∧m.p.top=m.p.top∧m.p.least=m.p.least∧m.p.part=m.p.part∧zE m.s=zE i∧zY m.used=zY m.used∧AObj.fro 1 (iE m.p.months)=AObj.fro 1 (iE m.p.months)∧AObj.fro 1 (iE m.p.settle)=AObj.fro 1 (iE m.p.settle)∧zE m.s=zE i∧True
theorem yBy (hG:GOk Tryz.prog ([(48,copySC)])) (h:∀(m:Mkt),stateC.cnd m→yGh m):stateC.ok Tryz.prog 22:=okw mixed hG 0 (fun _=>[]) (fun _=>[]) [0] Tryz.func22 h
open Go Cv Go.Proofs
theorem state_ok:stateC.ok Tryz.prog 22:=yBy (gokc lO gok0) fun m h=>by
 obtain⟨h1,h2⟩:m.s.small:=h
 refine⟨m.s,rfl,⟨h1,h2⟩,fun _ _=>⟨(),?_⟩⟩
 exact kp
theorem yMz (p:Prd) (h:newMC.cnd p):yFi p:=by
 obtain⟨h1,h2,h3⟩:p.small:=h
 refine⟨p,?_⟩
 simp only[xI]
 (repeat'(first|exact rfl|exact trivial|assumption|apply And.intro|refine fun(_:Unit) (_:True)=>?_|refine Exists.intro () ?_|omega|(dsimp only;omega)))
 ·intro _ c
  (repeat'(first|exact rfl|exact trivial|assumption|apply And.intro|refine fun(_:Unit) (_:True)=>?_|refine Exists.intro () ?_|omega|(dsimp only;omega)))
  all_goals(refine .inl ⟨(),?_⟩;(repeat'(first|exact rfl|exact trivial|assumption|apply And.intro|refine fun(_:Unit) (_:True)=>?_|refine Exists.intro () ?_|omega|(dsimp only;omega))))
 ·intro _ c
  refine Cv.cnd.mk (fun e=> .inr ⟨(),trivial,kp,c⟩) (fun e=>absurd (by simpa using e) c)
theorem newM_ok:newMC.ok Tryz.prog 10:=yLe (gokc yBp gok0) yMz
open Go Cv Go.Proofs
structure Ledger where
 p:Prd
 left:List (Int×Int)
 inst:List (Int×Int)
 traded:List Int
 net:List Int
structure WiI where
 n:Int
 lo:Int
 hi:Int
def zJ (n lo hi:Int):Int:=lo+n % (hi-lo+1)
def withinC:Con:=con1 WiI (fun i=>[zB i.n,zB i.lo,zB i.hi]) (fun _=>[]) (fun i=>yQ i.n∧-1000000≤i.lo∧i.lo≤i.hi∧i.hi≤1000000) (fun i=>zB (zJ i.n i.lo i.hi)) (fun _=>[])
def cA (rule:Int):Prd:=⟨[67,76],[320,321,323],5,0,1000,200,rule,4,2,40,[500,505,490]⟩
def threeC:Con:=con1 Int (fun n=>[zB n]) (fun _=>[]) (fun _=>True) (fun n=>prdV (cA n)) (fun _=>[])
open Go Cv Go.Proofs
def cT (a:WiI):=(IntKind.i64.wrap (IntKind.i64.wrap (a.hi-a.lo)+(1:Int)))
def zNg (i:WiI):Prop:=
 IntKind.i64=IntKind.i64∧IntKind.i64.wrap (IntKind.i64.wrap (i.hi-i.lo)+1)≠0∧cnd (decide (i.n.tmod (cT i)<0)) (∃(a:Unit),zJ i.n i.lo i.hi=IntKind.i64.wrap (i.lo+IntKind.i64.wrap (IntKind.i64.wrap (IntKind.i64.wrap (i.n.tmod (cT i)+i.hi)-i.lo)+1))∧True) (∃(a:Unit),zJ i.n i.lo i.hi=IntKind.i64.wrap (i.lo+i.n.tmod (cT i))∧True)
theorem z7s (hG:GOk Tryz.prog ([])) (h:∀(i:WiI),withinC.cnd i→zNg i):withinC.ok Tryz.prog 12:=okw mixed hG 0 (fun _=>[]) (fun _=>[]) [] Tryz.func12 h
def z7k (n:Int):Prop:=
 ∃(a:Unit),sb [(67:UInt8),(76:UInt8)]=ByteArray.mk #[(67:UInt8),(76:UInt8)]∧iE [(320:Int),(321:Int),(323:Int)]=[[D.v (.int .i64 320)],[D.v (.int .i64 321)],[D.v (.int .i64 323)]]∧(5:Int)=(5:Int)∧(0:Int)=(0:Int)∧(1000:Int)=(1000:Int)∧(200:Int)=(200:Int)∧n=n∧(4:Int)=(4:Int)∧(2:Int)=(2:Int)∧(40:Int)=(40:Int)∧iE [(500:Int),(505:Int),(490:Int)]=[[D.v (.int .i64 500)],[D.v (.int .i64 505)],[D.v (.int .i64 490)]]∧True
theorem yCq (hG:GOk Tryz.prog ([])) (h:∀(n:Int),threeC.cnd n→z7k n):threeC.ok Tryz.prog 11:=okw mixed hG 0 (fun _=>[]) (fun _=>[]) [] Tryz.func11 h
open Go Cv Go.Proofs
theorem z9p:threeC.ok Tryz.prog 11:=yCq gok0 fun n _=>by
 unfold z7k;exact kp
theorem yDw (i:WiI) (h:withinC.cnd i):zNg i:=by
 obtain⟨⟨a1,a2⟩,a3,a4,a5⟩:yQ i.n∧-1000000≤i.lo∧i.lo≤i.hi∧i.hi≤1000000:=h
 unfold zNg cT
 rw[w64 (x:=i.hi-i.lo) (by omega),w64 (x:=i.hi-i.lo+1) (by omega)]
 obtain⟨d,hd⟩:∃d:Int,i.hi-i.lo+1=d:=⟨_,rfl⟩
 rw[hd]
 have h1:i.n.tmod d=if 0≤i.n then i.n % d else-((-i.n) % d):=by
  split
  ·rename_i h;rw[Int.tmod_eq_emod_of_nonneg h]
  ·rename_i h
   have:i.n= -(-i.n):=by omega
   conv=>lhs;rw[this]
   rw[Int.neg_tmod,Int.tmod_eq_emod_of_nonneg (by omega)]
 have hb1:=Int.emod_nonneg i.n (show d≠0 by omega)
 have hb2:=Int.emod_lt_of_pos i.n (show 0<d by omega)
 have hb3:=Int.emod_nonneg (-i.n) (show d≠0 by omega)
 have hb4:=Int.emod_lt_of_pos (-i.n) (show 0<d by omega)
 have key:i.n.tmod d<0→i.n % d=i.n.tmod d+d:=fun hneg=>by
  have:=Int.emod_eq_of_lt (a:=i.n.tmod d+d) (b:=d) (by rw[h1]at hneg ⊢;split at hneg<;>split<;>omega) (by omega)
  rw[← this,Int.add_emod_right]
  have e:=Int.tmod_add_mul_tdiv i.n d
  conv=>lhs;rw[← e]
  rw[Int.add_mul_emod_self_left]
 have key2:¬i.n.tmod d<0→i.n % d=i.n.tmod d:=fun hneg=>by
  have hlt:i.n.tmod d<d:=by rw[h1];split<;>omega
  have:=Int.emod_eq_of_lt (a:=i.n.tmod d) (b:=d) (by omega) hlt
  rw[← this]
  have e:=Int.tmod_add_mul_tdiv i.n d
  conv=>lhs;rw[← e]
  rw[Int.add_mul_emod_self_left]
 refine⟨rfl,by omega,zK (fun c=>⟨(),?_,trivial⟩) (fun c=>⟨(),?_,trivial⟩)⟩
 ·have k:=key c
  rw[zJ,hd,k]
  rw[w64 (x:=i.n.tmod d+i.hi) (by omega),w64 (x:=i.n.tmod d+i.hi-i.lo) (by omega),w64 (x:=i.n.tmod d+i.hi-i.lo+1) (by omega),w64 (by omega)]
  omega
 ·have k:=key2 c
  rw[zJ,hd,k,w64 (by omega)]
theorem zJn:withinC.ok Tryz.prog 12:=z7s gok0 yDw
open Go Cv Go.Proofs
structure LgN where
 l:Ledger
 n:Int
def mI (l:List (Int×Int)) (k:Int):Option Int:=(l.find? fun x=>decide (x.1=k)).map (·.2)
def Ledger.isB (l:Ledger) (n:Int):Bool:=decide (0≤n) && decide (n<l.traded.length)
def Ledger.at (l:Ledger) (v:List Int) (n:Int):Int:=if l.isB n then v.getD n.toNat 0 else 0
@[reducible] def Ledger.ok (l:Ledger):Prop:=l.traded.length≤1000000∧l.net.length=l.traded.length
open Go Cv Go.Proofs
open Go Cv Go.Proofs
theorem z8x (l:List (Int×Int)) (k:Int):∀p∈yR l,like (Value.int IntKind.i64 k) p.1=true:=by
 intro p hp
 obtain⟨x,_,rfl⟩:=List.mem_map.1 hp
 rfl
theorem bF (k:Int):∀l:List (Int×Int),vK (Value.int IntKind.i64 k) (yR l)=(mI l k).map fun v=>[D.v (.int .i64 v)]
 |[]=>rfl
 |(a,v)::l=>by
  have ih:=bF k l
  show(bif (keq .i64 .i64 && decide (k=a))then _ else vK _ (yR l))=_
  by_cases h:k=a
  ·subst h;simp[mI,keq]
  ·have h':¬a=k:=fun e=>h e.symm
   rw[show(keq .i64 .i64 && decide (k=a))=false by simp[h],cond_false,ih]
   simp[mI,List.find?_cons,h']
open Go Cv Go.Proofs
structure Rep where
 kind:Int
 id:Int
 inst:Int
 side:Int
 price:Int
 qty:Int
 left:Int
 why:Int
 deriving DecidableEq
@[reducible] def Rep.cells (r:Rep):List Int:=[r.kind,r.id,r.inst,r.side,r.price,r.qty,r.left,r.why]
@[reducible] def yOw (r:Rep):V:= .agg [zB r.kind,zB r.id,zB r.inst,zB r.side,zB r.price,zB r.qty,zB r.left,zB r.why]
def x7 (r:Rep):List D:=[.v (.int .i64 r.kind),.v (.int .i64 r.id),.v (.int .i64 r.inst),.v (.int .i64 r.side),.v (.int .i64 r.price),.v (.int .i64 r.qty),.v (.int .i64 r.left),.v (.int .i64 r.why)]
def eY (k v:Int):List (Int×Int)→List (Int×Int)
 |[]=>[(k,v)]
 |(a,b)::l=>if k=a then(a,v)::l else(a,b)::eY k v l
def zQe (k:Int):List (Int×Int)→List (Int×Int)
 |[]=>[]
 |(a,b)::l=>if k=a then l else(a,b)::zQe k l
def Ledger.acc (l:Ledger) (r:Rep):Ledger×Int:=
 if(mI l.left r.id).isSome=true then(l,25)else if r.qty<1∨r.qty≠r.left then(l,24)else({l with left:=eY r.id r.left l.left,inst:=eY r.id r.inst l.inst},0)
def Ledger.own (l:Ledger) (id:Int):Int:=(mI l.inst id).getD 0
def Ledger.legB (l:Ledger) (id inst:Int):Bool:=(mI l.inst id).isSome && ((l.p.legs (l.own id)).2.2 && (decide (inst=(l.p.legs (l.own id)).1)||decide (inst=(l.p.legs (l.own id)).2.1)))
def yFl (l:List Int) (n:Nat) (x:Int):List Int:=l.set n (IntKind.i64.wrap (l.getD n 0+x))
def yOb (l:List Int) (n:Nat) (x:Int):List Int:=l.set n (IntKind.i64.wrap (l.getD n 0-x))
def Ledger.trade (l:Ledger) (r:Rep):Ledger:={l with traded:=yFl l.traded r.inst.toNat r.qty,net:=if r.side=1 then yFl l.net r.inst.toNat r.qty else if r.side=2 then yOb l.net r.inst.toNat r.qty else l.net}
def Ledger.close (l:Ledger) (id n:Int):Ledger:={l with left:=if n=0 then zQe id (eY id n l.left)else eY id n l.left}
def Rep.badK (r:Rep):Bool:=decide (r.kind<1)||decide (r.kind>5)
def Ledger.isLeg (l:Ledger) (r:Rep):Bool:=decide (r.kind=3) && l.legB r.id r.inst
def Ledger.e1 (l:Ledger) (r:Rep):Bool:=decide (r.kind=3) && decide (r.inst≠l.own r.id)
def Rep.e2 (r:Rep) (left:Int):Bool:=decide (r.kind=3) && (decide (r.qty<1)||(decide (r.qty>left)||decide (r.left≠IntKind.i64.wrap (left-r.qty))))
def Rep.e3 (r:Rep) (left:Int):Bool:=decide (r.kind=4) && decide (r.qty≠left)
def Rep.e4 (r:Rep) (left:Int):Bool:=decide (r.kind=5) && (decide (r.qty<0)||(decide (r.qty≥left)||decide (r.left≠IntKind.i64.wrap (left-r.qty))))
def Ledger.done (l:Ledger) (r:Rep):Ledger:=
 if r.kind=3 then(l.trade r).close r.id r.left else if r.kind=4 then l.close r.id 0 else l.close r.id r.left
def Ledger.add (l:Ledger) (r:Rep):Ledger×Int:=
 if r.badK=true then(l,31)else if r.kind=2 then(l,0)else if l.isB r.inst=false then(l,20)else if r.kind=1 then l.acc r
 else if l.isLeg r=true then(if r.qty<1 then(l,24)else(l.trade r,0))
 else match mI l.left r.id with
  |none=>(l,26)
  |some left=>if l.e1 r=true then(l,20)else if r.e2 left=true then(l,24)else if r.e3 left=true then(l,24)else if r.e4 left=true then(l,24)else(l.done r,0)
structure LgR where
 l:Ledger
 r:Rep
@[reducible] def Ledger.fit (l:Ledger):Prop:=l.ok∧l.p.small
structure RpI where
 p:Prd
 l:List Rep
structure LfI where
 qty:Int
 steps:List Int
 inst:Int
structure LfS where
 left:Int
 sum:Int
 i:Nat
def bj (t:Nat):SAnn:={ι:=Bool,slots:=fun b=>[(t,yO b)],rows:=fun _=>[]}
def ij (t:Nat):SAnn:={ι:=Int,slots:=fun n=>[(t,zB n)],rows:=fun _=>[]}
structure Li2 where
 a:Int
 b:Int
open Go Cv Go.Proofs
open Go Cv Go.Proofs
theorem gW (l:List (Int×Int)) (k:Int):∀(p:Value×List D),p∈yR l→like (Value.int IntKind.i64 k) p.1=true:=fun p hp=>z8x l k p hp
theorem zOw (k v:Int):∀l,h8 (Value.int IntKind.i64 k) [D.v (.int .i64 v)] (yR l)=yR (eY k v l)
 |[]=>rfl
 |(a,b)::l=>by
  have ih:=zOw k v l
  show(bif (keq .i64 .i64 && decide (k=a))then _ else _::h8 _ _ (yR l))=_
  rw[ih,eY]
  by_cases h:k=a
  ·subst h;simp[keq,yR]
  ·simp[h,yR]
theorem zRe (k:Int):∀l,rR (Value.int IntKind.i64 k) (yR l)=yR (zQe k l)
 |[]=>rfl
 |(a,b)::l=>by
  have ih:=zRe k l
  show(bif (keq .i64 .i64 && decide (k=a))then yR l else _::rR _ (yR l))=_
  rw[ih,zQe]
  by_cases h:k=a
  ·subst h;simp[keq]
  ·simp[h,yR]
theorem yLb (l:List (Int×Int)) (k:Int):vK (Value.int IntKind.i64 k) (yR l)=some [D.v (.int .i64 ((mI l k).getD 0))]∧(mI l k).isSome=true∨vK (Value.int IntKind.i64 k) (yR l)=none∧[D.v (.int .i64 ((mI l k).getD 0))]=[D.v (.int .i64 0)]∧(mI l k).isSome=false:=by
 rw[bF]
 cases mI l k with
 |none=>exact .inr ⟨rfl,rfl,rfl⟩
 |some v=>exact .inl ⟨rfl,rfl⟩
theorem zQt (a b:Int):(a==b)=decide (a=b):=by
 by_cases h:a=b
 ·subst h;simp
 ·simp[h]
open Go Cv Go.Proofs
theorem xO {n lo hi:Int} (h:lo≤hi):lo≤zJ n lo hi∧zJ n lo hi≤hi:=by
 rw[zJ]
 have h1:=Int.emod_nonneg n (show hi-lo+1≠0 by omega)
 have h2:=Int.emod_lt_of_pos n (show 0<hi-lo+1 by omega)
 omega
end Sx
