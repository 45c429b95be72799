/- Texts of ours, one behind the other: a walk that the kernel reckons, and contracts of functions. No condition. -/
import Derived.Test.YtikngjpbkcbogaaGreatM9
namespace Sx
set_option linter.unusedVariables false
set_option linter.unusedSimpArgs false
set_option maxRecDepth 100000
open Go Cv Go.Proofs
theorem z2a (i:SoI) (h:scountC.cnd i):zCp i:=by
 obtain⟨hR,hB⟩:i.s.Rep i.p i.B∧i.B.length≤1000:=h
 unfold zCp
 have e:(yE i.s.wh).length=x9 i.B:=by rw[yE,List.length_map,hR.wh.length_eq,zBz]
 exact⟨(),by rw[e],by(repeat'(first|exact trivial|exact rfl|apply And.intro))⟩
theorem scount_ok:scountC.ok Tryz.prog 16:=zTn gok0 z2a
def cS (S:List Int) (k:Nat):Int:=((S.filter fun x=>decide (x<(k:Int))).length:Int)
theorem zLk {k:Nat}:∀{S:List Int},S.Nodup→cS S (k+1)=cS S k+if(k:Int)∈S then 1 else 0
 |[],_=>rfl
 |x::S,h=>by
  rw[List.nodup_cons]at h
  have ih:=zLk (k:=k) h.2
  rw[cS,cS]at ih ⊢
  by_cases e:x=(k:Int)
  ·have hn:¬(k:Int)∈S:=e▸h.1
   rw[if_neg hn]at ih
   rw[List.filter_cons_of_pos (by simp;omega),List.filter_cons_of_neg (by simp;omega),if_pos (by rw[e];exact List.mem_cons_self),List.length_cons]
   omega
  ·have he:((k:Int)∈x::S)↔(k:Int)∈S:=by simp;omega
   by_cases hlt:x<(k:Int)
   ·rw[List.filter_cons_of_pos (by simp;omega),List.filter_cons_of_pos (by simp;omega),List.length_cons,List.length_cons]
    by_cases hm:(k:Int)∈S
    ·rw[if_pos hm]at ih;rw[if_pos (he.2 hm)];omega
    ·rw[if_neg hm]at ih;rw[if_neg (fun y=>hm (he.1 y))];omega
   ·rw[List.filter_cons_of_neg (by simp;omega),List.filter_cons_of_neg (by simp;omega)]
    by_cases hm:(k:Int)∈S
    ·rw[if_pos hm]at ih;rw[if_pos (he.2 hm)];omega
    ·rw[if_neg hm]at ih;rw[if_neg (fun y=>hm (he.1 y))];omega
theorem z4l {S:List Int} {n:Nat} (h:∀x∈S,x<(n:Int)):cS S n=S.length:=by
 rw[cS,List.filter_eq_self.2 fun x hx=>decide_eq_true (h x hx)]
theorem z0a {S:List Int} (h:∀x∈S,0≤x):cS S 0=0:=by
 rw[cS,List.filter_eq_nil_iff.2 fun x hx=>by have:=h x hx;simp;omega];rfl
theorem zKg (k:Int):∀{l:List kU},(∀f∈l,0≤f.qty)→0≤gvn l k
 |[],_=>Int.le_refl _
 |f::l,h=>by
  have:=zKg k fun g hg=>h g (List.mem_cons_of_mem _ hg)
  have:=h f List.mem_cons_self
  rw[gvn];split<;>omega
theorem zTq {l:List kU} (h:∀f∈l,0≤f.qty) (m:Nat) (k:Int):0≤gvn (l.take m) k∧gvn (l.take m) k≤gvn l k:=by
 refine⟨zKg k fun f hf=>h f (List.mem_of_mem_take hf),?_⟩
 have:=pH k (l.take m) (l.drop m)
 rw[List.take_append_drop]at this
 have:=zKg k (l:=l.drop m) fun f hf=>h f (List.mem_of_mem_drop hf)
 omega
theorem zSy {l:List kU} {m:Nat} {f:kU} (h:l[m]? =some f) (k:Int):gvn (l.take (m+1)) k=gvn (l.take m) k+if f.inst=k then f.qty else 0:=by
 rw[List.take_add_one,h]
 show gvn (l.take m++[f]) k=_
 rw[pH,gvn,gvn,Int.add_zero]
theorem cY:∀{l:List u7},(∀t∈l,1≤t.qty)→(l.length:Int)≤(l.map (·.qty)).sum
 |[],_=>Int.le_refl _
 |t::l,h=>by
  have:=cY fun u hu=>h u (List.mem_cons_of_mem _ hu)
  have:=h t List.mem_cons_self
  rw[List.map_cons,List.sum_cons,List.length_cons];omega
theorem fZ:∀{l:List u7} (j:Nat),(∀t∈l,1≤t.qty)→0≤((l.take j).map (·.qty)).sum∧((l.take j).map (·.qty)).sum≤(l.map (·.qty)).sum
 |[],j,_=>by simp
 |t::l,0,h=>by
  have:=cY h
  rw[List.take_zero,List.map_nil,List.sum_nil]
  exact⟨Int.le_refl _,by omega⟩
 |t::l,j+1,h=>by
  have:=fZ (l:=l) j fun u hu=>h u (List.mem_cons_of_mem _ hu)
  have:=h t List.mem_cons_self
  rw[List.take_succ_cons,List.map_cons,List.map_cons,List.sum_cons,List.sum_cons];omega
theorem zCh {f:Int→Int} {n k:Nat} (h:k<n):((List.range n).map fun(k:Nat)=>f k)[k]? =some (f k):=by
 rw[List.getElem?_map,List.getElem?_range h];rfl
theorem zZm {f g:Int→Int} {n k:Nat} {x:Int} (h:∀j<n,g j=if j=k then x else f j):((List.range n).map fun(k:Nat)=>f k).set k x=(List.range n).map fun(k:Nat)=>g k:=by
 apply List.ext_getElem?
 intro j
 rw[List.getElem?_set]
 by_cases hj:j<n
 ·rw[zCh hj,zCh hj,h j hj]
  by_cases e:k=j
  ·subst e
   rw[if_pos rfl,if_pos (by simpa using hj),if_pos rfl]
  ·rw[if_neg e,if_neg (fun y=>e y.symm)]
 ·have e1:((List.range n).map fun(k:Nat)=>f k)[j]? =none:=List.getElem?_eq_none (by simp;omega)
  have e2:((List.range n).map fun(k:Nat)=>g k)[j]? =none:=List.getElem?_eq_none (by simp;omega)
  rw[e1,e2]
  split
  ·split
   ·rename_i e1 e2;simp at e2;omega
   ·rfl
  ·rfl
theorem zWc {A:List Int} {k:Nat} {x:Int} (h:A[k]? =some x):(List.drop 0 (iD A))[k]? =some (D.v (.int .i64 x)):=by
 rw[List.drop_zero,iD,List.getElem?_map,h];rfl
theorem vmr (i:MmI) (h:mrC.cnd i):Vmr i:=by
 obtain⟨hx,hl,hll,r1,r2,r3,r4⟩:i.raw:=h
 have hc:i.p.check=0:=zHf i.x
 have hp:i.p.small:=zEq i.x
 have hcb:=aN hc
 unfold Vmr zUw
 refine⟨i.p,fun q=>q=i.p,⟨i.x,rfl,rfl,rfl,rfl,rfl,rfl,rfl,rfl,rfl,rfl,rfl,hx,fun _ _=>⟨i.p,rfl,rfl,rfl,rfl,rfl,rfl,rfl,rfl,rfl,rfl,rfl,rfl,by(repeat'(first|exact trivial|exact rfl|apply And.intro))⟩⟩,?_⟩
 rintro _ rfl
 refine⟨i.p,rfl,rfl,rfl,rfl,rfl,rfl,rfl,rfl,rfl,rfl,rfl,hp,fun _ _=> ?_,fun _ e=>absurd hc e⟩
 refine⟨(0,gX i.p),rfl,rfl,fun j=>j.2.Rep i.p (i.fst j.1)∧BOk i.p (i.fst j.1)∧j.1≤i.n,fun j=>i.n-j.1,⟨eN _,BOk.new hc hp,Nat.zero_le _⟩,?_⟩
 rintro⟨j,s⟩ ⟨g1,g2,g3⟩
 dsimp only at g1 g2 g3 ⊢
 have hn:i.n=min i.l.length 40:=rfl
 have e1:(i.l.map askE).length=i.l.length:=List.length_map ..
 refine⟨true,fun b=>b=decide (j<i.n),zT (fun c=>⟨_,rfl,decide_eq_decide.2 (by omega),by(repeat'(first|exact trivial|exact rfl|apply And.intro))⟩) (fun c=>⟨false,rfl,(decide_eq_false (by omega)).symm,by(repeat'(first|exact trivial|exact rfl|apply And.intro))⟩),fun b hb=> ?_⟩
 subst hb
 refine zT (fun c=> ?_) (fun c=> ?_)
 ·--an ask
  obtain⟨a,ha⟩:=z8 (l:=i.l) (i:=j) (by omega)
  have hask:i.ask j=wZ ⟨i.p,a,j⟩:=by rw[MmI.ask,zP ha]
  refine⟨z7k,fun y=>y=i.ask j,⟨⟨by omega,by omega⟩,a.kind,a.inst,a.side,a.id,a.price,a.qty,z9x ha,?_⟩,?_⟩
  ·refine(fun hT=>⟨hT,trivial,⟨rfl,trivial,rfl,rfl,rfl,rfl,rfl,rfl,rfl,rfl,trivial,trivial⟩,hT⟩) ?_
   exact⟨⟨i.p,a,j⟩,rfl,rfl,rfl,rfl,rfl,rfl,rfl,rfl,rfl,rfl,rfl,rfl,rfl,rfl,rfl,rfl,rfl,rfl,⟨hc,hp,hl a (List.mem_of_getElem? ha),by dsimp only;omega,by dsimp only;omega⟩,fun _ _=>⟨wZ ⟨i.p,a,j⟩,rfl,rfl,rfl,rfl,rfl,rfl,hask.symm,by(repeat'(first|exact trivial|exact rfl|apply And.intro))⟩⟩
  ·rintro y rfl
   have hys:(i.ask j).side=1∨(i.ask j).side=2:=by rw[hask];exact eA _
   exact⟨⟨s,(i.ask j).inst,(i.ask j).id,decide ((i.ask j).side=2),(i.ask j).price,(i.ask j).qty⟩,rfl,rfl,uR hys,rfl,rfl,rfl,g1.fit g2,fun _ _=>⟨(j+1,(MSt.addF ⟨s,(i.ask j).inst,(i.ask j).id,decide ((i.ask j).side=2),(i.ask j).price,(i.ask j).qty⟩).1),wjn (by omega),rfl,⟨g1.ask hys,g2.ask _,by dsimp only;omega⟩,by dsimp only;omega,by(repeat'(first|exact trivial|exact rfl|apply And.intro))⟩⟩
 have hj:j=i.n:=by omega
 subst hj
 have eB:i.fst i.n=i.fB:=rfl
 rw[eB]at g1 g2
 have hwf:=g1.wf g2
 have hBl:i.fB.length=i.p.count:=g2.bl
 have hfs:i.fl.side=1∨i.fl.side=2:=eA _
 have hfq:1≤i.fl.qty∧i.fl.qty≤12:=zOy _
 have hfi:0≤i.fl.inst∧i.fl.inst<i.p.count:=zKp hc _ _
 have hib:0≤i.fl.inst∧i.fl.inst<i.fB.length:=by omega
 refine⟨z7k,fun y=>y=i.fl,⟨⟨i.p,⟨0,i.inst,i.side,0,i.price,i.qty⟩,0⟩,rfl,rfl,rfl,rfl,rfl,rfl,rfl,rfl,rfl,rfl,rfl,rfl,rfl,rfl,rfl,rfl,rfl,rfl,⟨hc,hp,⟨by dsimp only;omega,r1,r2,by dsimp only;omega,r3,r4⟩,by dsimp only;omega,by dsimp only;omega⟩,fun _ _=>⟨i.fl,rfl,rfl,rfl,rfl,rfl,rfl,rfl,by(repeat'(first|exact trivial|exact rfl|apply And.intro))⟩⟩,?_⟩
 rintro _ rfl
 refine⟨i.fl,rfl,rfl,rfl,rfl,rfl,rfl,fun y=>y=i.gl,⟨i.gl,rfl,rfl,rfl,rfl,rfl,by have:IntKind.i64.wrap (i.fl.qty*4)=i.fl.qty*4:=w64 (by omega);exact this.symm,rfl,by(repeat'(first|exact trivial|exact rfl|apply And.intro))⟩,?_⟩
 rintro _ rfl
 obtain⟨sd,hsd⟩:∃sd,decide (i.fl.side=2)=sd:=⟨_,rfl⟩
 have hsN:zB sd=i.fl.side:=by rw[← hsd];exact uR hfs
 obtain⟨q,hq⟩:∃q,i.fl.qty*4=q:=⟨_,rfl⟩
 have gq:i.gl.qty=q:=hq
 have gi:i.gl.inst=i.fl.inst:=rfl
 have gs:i.gl.side=i.fl.side:=rfl
 have gp:i.gl.price=i.fl.price:=rfl
 rw[gq,gi,gs,gp]
 refine⟨⟨s,i.p,i.fB,0,false⟩,rfl,⟨g1,by dsimp only;omega⟩,fun _ _=>⟨⟨s,i.p,i.fB,i.fl.inst,sd,i.fl.price,q⟩,rfl,hsN,rfl,rfl,rfl,⟨g1,g2,hib,by dsimp only;omega,by dsimp only;omega⟩,fun _ _=>⟨⟨s,i.p,i.fB,0,false⟩,rfl,⟨g1,by dsimp only;omega⟩,fun _ _=>Cv.cnd.mk (fun e=>by simp at e) (fun _=> ?_)⟩⟩⟩
 refine⟨⟨s,i.p,i.fB,i.fl.inst,sd,i.fl.price,q⟩,rfl,hsN,rfl,rfl,rfl,⟨g1,g2,hib,by dsimp only;omega,by dsimp only;omega⟩,fun o ho=> ?_⟩
 have er:RunI.r ⟨s,i.p,i.fB,i.fl.inst,sd,i.fl.price,q⟩=qZ i.p i.fB i.fl.inst sd i.fl.price q:=rfl
 rw[er]at ho ⊢
 obtain⟨b1,b2,b3,b4,b5,b6⟩:=BWf.run (inst:=i.fl.inst) (sd:=sd) (price:=i.fl.price) _ q i.fB (Nat.le_refl _) hwf hib
 have b4:=b4 (by omega)
 obtain⟨c1,_,c3,c4⟩:=zNh (inst:=i.fl.inst) (sd:=sd) (price:=i.fl.price) _ q i.fB (Nat.le_refl _) hwf hib
 have lR:=zNr (inst:=i.fl.inst) (sd:=sd) (price:=i.fl.price) _ q i.fB (Nat.le_refl _) hwf hib
 have hcou:gZ i.p i.fB i.fl.inst sd i.fl.price q=q-(qZ i.p i.fB i.fl.inst sd i.fl.price q).left:=rfl
 dsimp only
 rw[hcou]
 clear b5 b6 hcou
 generalize qZ i.p i.fB i.fl.inst sd i.fl.price q=R at*
 obtain⟨ts,lf,RB⟩:=R
 dsimp only at*
 have hlen:=cY fun t ht=>(lR t ht).2.1
 have e4:(ts.map zY).length=ts.length:=List.length_map ..
 refine⟨(0,0),rfl,rfl,fun j=>j.2=((ts.take j.1).map (·.qty)).sum∧j.1≤ts.length,fun j=>ts.length-j.1,⟨rfl,Nat.zero_le _⟩,?_⟩
 rintro⟨j,sm⟩ ⟨k1,k2⟩
 dsimp only at k1 k2 ⊢
 have hsm:=fZ (l:=ts) j fun t ht=>(lR t ht).2.1
 rw[← k1]at hsm
 refine zT (fun c=> ?_) (fun c=> ?_)
 ·--a step
  obtain⟨t,ht⟩:=z8 (l:=ts) (i:=j) (by omega)
  obtain⟨⟨pr,fl,ln,S,S1,S2,S3,S4⟩,t1,t2⟩:=lR t (List.mem_of_getElem? ht)
  have hgd:(i.fl.side=1∧t.price≤i.fl.price)∨(i.fl.side=2∧i.fl.price≤t.price):=by
   cases sd with
   |false=>exact .inl ⟨hsN.symm,by simpa[vX]using pr⟩
   |true=>exact .inr ⟨hsN.symm,by simpa[vX]using pr⟩
  refine⟨⟨by omega,by omega⟩,t.price,t.qty,t.implied,t.fills.map xY,elA ht (by simp[zY]) rfl,true,fun b=>b=false,zT (fun e=>by omega) fun _=>Cv.cnd.mk (fun e=> ?_) (fun e=> ?_),?_⟩
  ·have e:i.fl.side=1:=by simpa using e
   refine zT (fun e2=>by omega) fun _=>Cv.cnd.mk (fun y=> ?_) (fun _=>⟨false,rfl,rfl,by(repeat'(first|exact trivial|exact rfl|apply And.intro))⟩)
   rw[e]at y;cases y
  ·have e:¬i.fl.side=1:=by simpa using e
   exact Cv.cnd.mk (fun _=>⟨_,rfl,decide_eq_false (by omega),by(repeat'(first|exact trivial|exact rfl|apply And.intro))⟩) (fun y=>⟨false,rfl,rfl,by(repeat'(first|exact trivial|exact rfl|apply And.intro))⟩)
  rintro _ rfl
  refine Cv.cnd.mk (fun x=>by cases x) (fun _=> ?_)
  have hfp:∀f∈t.fills,0≤f.qty:=fun f hf=>by have:=(fl f hf).2.1;omega
  have e5:(t.fills.map xY).length=t.fills.length:=List.length_map ..
  have hgb:∀m (k:Int),0≤gvn (t.fills.take m) k∧gvn (t.fills.take m) k≤t.qty:=by
   intro m k
   have:=zTq hfp m k
   rw[S4]at this
   split at this<;>omega
  refine⟨(0,List.replicate 32 0),rfl,rfl,fun a=>a.2=((List.range 32).map fun(k:Nat)=>gvn (t.fills.take a.1) k)∧a.1≤t.fills.length,fun a=>t.fills.length-a.1,⟨rfl,Nat.zero_le _⟩,?_⟩
  rintro⟨m,A⟩ ⟨a1,a2⟩
  dsimp only at a1 a2 ⊢
  have hA:∀k:Nat,k<32→A[k]? =some (gvn (t.fills.take m) k):=fun k hk=>by rw[a1];exact zCh (f:=fun k=>gvn (t.fills.take m) k) hk
  refine zT (fun c3=> ?_) (fun c3=> ?_)
  ·--a fill
   obtain⟨f,hf⟩:=z8 (l:=t.fills) (i:=m) (by omega)
   obtain⟨f1,f2,f3,f4,f5⟩:=fl f (List.mem_of_getElem? hf)
   refine⟨⟨by omega,by omega⟩,f.id,f.inst,f.side,f.price,f.qty,f.left,z9j hf,true,fun b=>b=false,zT (fun e=>by omega) fun _=>zT (fun e=>by omega) fun _=>zT (fun e=>by omega) fun _=>zT (fun e=>by omega) fun _=>Cv.cnd.mk (fun e=> ?_) (fun _=>⟨false,rfl,rfl,by(repeat'(first|exact trivial|exact rfl|apply And.intro))⟩),?_⟩
   ·have e:t.implied=false:=by simpa using e
    obtain⟨x1,x2,x3⟩:=f5 e
    refine Cv.cnd.mk (fun y=>by rw[x1]at y;simp at y) fun _=>Cv.cnd.mk (fun y=>by rw[x2]at y;simp at y) fun _=>⟨_,rfl,?_,by(repeat'(first|exact trivial|exact rfl|apply And.intro))⟩
    rw[x3,← hsN]
    cases sd<;>rfl
   rintro _ rfl
   refine Cv.cnd.mk (fun x=>by cases x) (fun _=> ?_)
   obtain⟨k,hk⟩:∃k:Nat,f.inst=k:=⟨f.inst.toNat,by omega⟩
   have hk32:k<32:=by omega
   have ek:f.inst.toNat=k:=by omega
   have hb1:=hgb m k
   have hb2:=hgb (m+1) k
   have hsc:=zSy hf
   have hsk:=hsc k
   rw[if_pos hk]at hsk
   rw[ek]
   refine⟨⟨by omega,by omega⟩,gvn (t.fills.take m) k,zWc (hA k hk32),⟨by omega,by omega⟩,?_,(m+1,A.set k (gvn (t.fills.take (m+1)) k)),wjn (by omega),?_,⟨?_,by dsimp only;omega⟩,by dsimp only;omega,by(repeat'(first|exact trivial|exact rfl|apply And.intro))⟩
   ·rw[List.drop_zero,iD,List.length_map,a1];simpa using hk32
   ·dsimp only
    rw[w64 (by omega),← hsk,List.drop_zero,List.nil_append,iD,iD,List.map_set]
   ·dsimp only
    rw[a1]
    refine zZm (f:=fun k=>gvn (t.fills.take m) k) (g:=fun k=>gvn (t.fills.take (m+1)) k) fun j hj=> ?_
    by_cases e:j=k
    ·rw[if_pos e,e]
    ·rw[if_neg e,hsc j,if_neg (by omega),Int.add_zero]
  have hm:m=t.fills.length:=by omega
  subst hm
  rw[List.take_of_length_le (Nat.le_refl _)]at hA
  refine⟨0,fun w=>w=if t.implied=true then 2 else 1,Cv.cnd.mk (fun e=>⟨2,rfl,by rw[if_pos e],by(repeat'(first|exact trivial|exact rfl|apply And.intro))⟩) (fun e=>⟨1,rfl,by rw[if_neg (by rw[e];decide)],by(repeat'(first|exact trivial|exact rfl|apply And.intro))⟩),?_⟩
  rintro _ rfl
  rw[← S3]
  have hSl:=z4l (S:=S) (n:=32) fun x hx=>(S2 x hx).2
  have hS0:=z0a (S:=S) fun x hx=>(S2 x hx).1
  have hSb:(S.length:Int)≤2:=by rw[S3];split<;>omega
  refine⟨(0,S.length),rfl,rfl,fun a=>a.2=S.length-cS S a.1∧a.1≤32,fun a=>32-a.1,⟨by dsimp only;omega,Nat.zero_le _⟩,?_⟩
  rintro⟨k,wn⟩ ⟨w1,w2⟩
  dsimp only at w1 w2 ⊢
  have hcsb:0≤cS S k∧cS S k≤S.length:=⟨Int.natCast_nonneg _,by have:=List.length_filter_le (fun x=>decide (x<(k:Int))) S;rw[cS];omega⟩
  refine zT (fun c4=> ?_) (fun c4=> ?_)
  ·have hg:=zWc (hA k (by omega))
   rw[S4]at hg
   have hcs:=zLk (k:=k) S1
   refine⟨0,fun w=>w=wn-if(k:Int)∈S then 1 else 0,⟨⟨by omega,by omega⟩,_,hg,Cv.cnd.mk (fun e=>⟨⟨by omega,by omega⟩,_,hg,?_⟩) (fun e=>⟨_,rfl,?_,by(repeat'(first|exact trivial|exact rfl|apply And.intro))⟩)⟩,?_⟩
   ·by_cases hS:(k:Int)∈S
    ·rw[if_pos hS]
     exact Cv.cnd.mk (fun y=>by simp at y) (fun _=>⟨_,rfl,by rw[if_pos hS];exact w64 (by omega),by(repeat'(first|exact trivial|exact rfl|apply And.intro))⟩)
    ·rw[if_neg hS]at e;simp at e
   ·by_cases hS:(k:Int)∈S
    ·rw[if_pos hS]at e
     have:t.qty=0:=by simpa using e
     omega
    ·rw[if_neg hS];omega
   ·rintro _ rfl
    exact⟨(k+1,_),rfl,wjn (by omega),⟨by dsimp only;rw[hcs,w1];omega,by dsimp only;omega⟩,by dsimp only;omega,by(repeat'(first|exact trivial|exact rfl|apply And.intro))⟩
  ·have hk:k=32:=by omega
   subst hk
   refine Cv.cnd.mk (fun e=> ?_) (fun _=> ?_)
   ·have:wn=0:=by omega
    rw[this]at e;cases e
   ·have hst:((ts.take (j+1)).map (·.qty)).sum=sm+t.qty:=by
     rw[List.take_add_one,ht,k1]
     show((ts.take j++[t]).map (·.qty)).sum=_
     rw[List.map_append,List.sum_append]
     simp
    have hsm2:=fZ (l:=ts) (j+1) fun t ht=>(lR t ht).2.1
    exact⟨(j+1,sm+t.qty),(w64 (by omega)).symm,wjn (by omega),⟨hst.symm,by dsimp only;omega⟩,by dsimp only;omega,by(repeat'(first|exact trivial|exact rfl|apply And.intro))⟩
 have hj:j=ts.length:=by omega
 subst hj
 rw[List.take_of_length_le (Nat.le_refl _)]at k1
 have w1:IntKind.i64.wrap (q-sm)=lf:=by rw[w64 (by omega)];omega
 have w2:IntKind.i64.wrap (IntKind.i64.wrap ((x9 i.fB:Int)-(x9 RB:Int))+1)=(x9 i.fB:Int)-(x9 RB:Int)+1:=by
  have:=zBz i.fB 0
  have hcc:x9 i.fB≤1000000:=by
   have:=z4d hwf.od
   omega
  rw[w64 (x:=(x9 i.fB:Int)-(x9 RB:Int)) (by omega),w64 (by omega)]
 refine⟨true,fun b=>b=false,Cv.cnd.mk (fun e=> ?_) fun _=>Cv.cnd.mk (fun e=> ?_) fun _=>⟨⟨o,i.p,RB,0,false⟩,rfl,⟨ho,by dsimp only;omega⟩,fun _ _=>⟨_,rfl,decide_eq_false ?_,rfl,by(repeat'(first|exact trivial|exact rfl|apply And.intro))⟩⟩,?_⟩
 ·have:sm=q-lf:=by omega
  rw[this]at e;simp at e
 ·rw[w1]at e;simp at e
 ·dsimp only
  rw[w2];omega
 rintro _ rfl
 refine Cv.cnd.mk (fun x=>by cases x) (fun _=> ?_)
 refine⟨⟨o,i.p,RB,i.fl.inst,sd,i.fl.price,1⟩,rfl,hsN,rfl,rfl,rfl,⟨ho,b1.ok,by dsimp only;rw[b2];exact hib,by dsimp only;omega,by dsimp only;omega⟩,fun o2 _=> ?_⟩
 have er:RunI.r ⟨o,i.p,RB,i.fl.inst,sd,i.fl.price,1⟩=qZ i.p RB i.fl.inst sd i.fl.price 1:=rfl
 rw[er]
 refine Cv.cnd.mk (fun _=>⟨(),trivial,fun _ _=>⟨(),rfl,trivial⟩⟩) (fun e=> ?_)
 have e:¬lf=0:=by simpa using e
 rw[rL (b3 (by omega)).2]
 exact Cv.cnd.mk (fun _=>Cv.cnd.mk (fun _=>⟨(),trivial,fun _ _=>⟨(),rfl,trivial⟩⟩) (fun e=>by cases e)) (fun e=>by cases e)
end Sx
