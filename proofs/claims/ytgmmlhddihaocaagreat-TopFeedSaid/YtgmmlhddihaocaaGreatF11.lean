/- Texts of ours. No condition. -/
import Derived.Test.YtgmmlhddihaocaaGreatF10
set_option linter.all false
open List renaming map->ab,take->ac,drop->ae,drop_length->af,filter_map->ag,length->aj
open Sx.fj renaming cells->ak,kg->am,ra->ao,own->ap
open Bool renaming false->aq,true->ar
open Int renaming toNat->au
open Go.IntKind renaming i64->av
open Option renaming some->aw
namespace Sx
open Go Cv Go.Proofs
open Classical
def Lv.fit (x:Lv):Prop:=gr x.dm/\gr x.dr/\gr x.count
def Sd.fit (s:Sd):Prop:=(∀x∈s.levels,x.fit)/\s.imp.fit
def PY (v:Vw):Prop:=∀b∈v,b.1.fit/\b.2.fit
def z8l {α:Type}:∀(l:List α) {k:Nat} (h:k<l.length),l.take k++[l[k]]=l.take (k+1)
 |[],_,h=>absurd h (by simp)
 |a::l,0,_=>rfl
 |a::l,k+1,h=>by
  have:=z8l l (k:=k) (by simpa using h);rw[ux,ux,<- this];rfl
def yLi {x:Lv} (h:x.fit) (l:List UInt8):RB.lv ⟨qF x++l,aq⟩=(x,⟨l,aq⟩):=by
 obtain⟨h1,h2,h3⟩:=h;rw[RB.lv,qF,iY,iY,uN h1];dsimp only;rw[uN h2];dsimp only;rw[uN h3]
def yEe {L:List Lv} (h:∀x∈L,x.fit) (l:List UInt8):∀k,k<=L.length->RB.zx ⟨L.flatMap qF++l,aq⟩ k=(L.take k,⟨(L.drop k).flatMap qF++l,aq⟩)
 |0,_=>by simp[RB.zx]
 |k+1,hk=>by
  have pj:k<L.length:=hk;rw[RB.zx,yEe h l k (by omega),CD pj,vi,iY];dsimp only;rw[yLi (h _ (List.getElem_mem pj))];dsimp only;rw[z8l L pj]
def z4c {s:Sd} (h:s.fit) (hl:s.levels.length<=255) (h0:s.has=aq->s.imp=⟨0,0,0⟩) (l:List UInt8):RB.side ⟨rN s++l,aq⟩=((s,ar),⟨l,aq⟩):=by
 have hp:RB.part ⟨rN s++l,aq⟩=(s.levels,⟨(if s.has then[iR 1]++qF s.imp else[iR 0])++l,aq⟩):=by
  have e:rN s++l=iR s.levels.length::(s.levels.flatMap qF++((if s.has then[iR 1]++qF s.imp else[iR 0])++l)):=by simp[rN,iY]
  rw[e,RB.part,jI];dsimp only;rw[EL (by omega),om,yEe h.1 _ _ (lh _),zr,af];rfl
 rw[RB.side,hp];dsimp only;cases hh:s.has with
 |true=>
  rw[fc rfl,iY];have e:[iR 1]++(qF s.imp++l)=iR 1::(qF s.imp++l):=rfl;rw[e,jI];dsimp only;rw[EL (by omega),fc rfl,yLi h.2];cases s;cases hh;rfl
 |false=>
  have e:(if aq=ar then[iR 1]++qF s.imp else[iR 0])++l=iR 0::l:=rfl;rw[e,jI];dsimp only;rw[EL (by omega),eg (by decide)];have:=h0 hh;cases s;cases hh;cases this;rfl
def zXt {v:Vw} (h:PY v) (hr:wF v) (l:List UInt8):∀k,k<=v.length->RB.views ⟨v.flatMap kC++l,aq⟩ k=((v.take k,ar),⟨(v.drop k).flatMap kC++l,aq⟩)
 |0,_=>by simp[RB.views]
 |k+1,hk=>by
  have pj:k<v.length:=hk;have hm:=List.getElem_mem pj;obtain⟨f1,f2⟩:=h _ hm;obtain⟨⟨_,a1,_,a2⟩,⟨_,b1,_,b2⟩⟩:=hr.1 _ hm;rw[RB.views,zXt h hr l k (by omega),CD pj,vi,kC,iY,iY];dsimp only;rw[z4c f1 a1 a2];dsimp only;rw[z4c f2 b1 b2];dsimp only;rw[<- z8l v pj];rfl
def yYp {v:Vw} (h:PY v) (hr:wF v) {seq:Int} (hs:gr seq):RB.all ⟨kR v seq,aq⟩=((v,ar),⟨[],aq⟩)/\(RB.mk (kR v seq) aq).fq.1=seq:=by
 have hl:=hr.2;have e:kR v seq=le seq 8++(iR v.length::v.flatMap kC):=by simp[kR,iY]
 have e2:RB.fq ⟨kR v seq,aq⟩=(seq,⟨iR v.length::v.flatMap kC,aq⟩):=by rw[e,uN hs]
 have e3:RB.head ⟨kR v seq,aq⟩=((v.length:Int),⟨v.flatMap kC,aq⟩):=by
  rw[RB.head,e2];dsimp only;rw[jI,EL (by omega)]
 refine⟨?_,by rw[e2]⟩;have:=zXt h hr [] v.length (lh _);rw[oJ,oJ,zr,af]at this;rw[RB.all,e3];dsimp only;rw[om,this];rfl
def yNw {v:Vw} (hr:wF v) (seq:Int):yJ (xW v seq)=⟨kR v seq,aq⟩/\rA (xW v seq):=by
 have hl:(xW v seq).length-4=(kR v seq).length:=by rw[xW,fc hr,iv,y7];omega
 have h4:4<=(xW v seq).length:=by rw[xW,fc hr,iv,y7];omega
 have ht:(xW v seq).take ((xW v seq).length-4)=kR v seq:=by rw[hl,xW,fc hr,Lz]
 have hd:(xW v seq).drop ((xW v seq).length-4)=le (dH (kR v seq)) 4:=by rw[hl,xW,fc hr,List.drop_left]
 exact⟨by rw[yJ,ht],h4,by rw[ht,hd]⟩
def yKt {v:Vw} (h:PY v) (hr:wF v) {seq:Int} (hs:gr seq):bG (xW v seq)=v/\pI (xW v seq)=seq/\lU (xW v seq)=0:=by
 obtain⟨b1,b2⟩:=yNw hr seq;obtain⟨a1,a2⟩:=yYp h hr hs;have hf:aD (xW v seq):=by rw[aD,b1,a1];exact⟨rfl,rfl,hr⟩
 refine⟨?_,?_,?_⟩
 ·rw[bG,fc ⟨b2,hf⟩,b1,a1]
 ·rw[pI,fc ⟨b2,hf⟩,b1,a2]
 ·rw[lU,fc b2,fc hf]
structure VM where
 inst:Nat
 side:Int
 l:Lv
 imp:Bool
def Ce:Lv:=⟨0,0,0⟩
def vC (s:Int) (x:Sd) (m:VM):Sd:=if m.imp=ar then(if 0<m.l.dr then⟨x.levels,m.l,ar⟩else⟨x.levels,Ce,aq⟩)else⟨mD s x.levels m.l,x.imp,x.has⟩
def Ib (a b:Sd):Bool:=decide (a.imp≠b.imp)||decide (a.has≠b.has)
def Cr (b:Sd):Lv:=if b.has=ar then b.imp else Ce
def xU (n:Nat) (s:Int) (a b:Sd):List VM:=(x7 s (a.levels.length+b.levels.length) a.levels b.levels).map (λl=>⟨n,s,l,aq⟩)++if Ib a b=ar then[⟨n,s,Cr b,ar⟩]else[]
def WS (s:Int) (x:Sd):Prop:=cN s x.levels/\P2 x.levels/\(x.has=ar->1<=x.imp.dr)/\(x.has=aq->x.imp=Ce)
def yHr {s:Int}:∀(M:List VM) (x:Sd),(M.foldl (vC s) x).levels=((M.filter λm=> !m.imp).map (·.l)).foldl (mD s) x.levels
 |[],_=>rfl
 |m::M,x=>by
  rw[A7,yHr M,Ht];cases h:m.imp with
  |true=>
   rw[eg (by simp),vC,fc h];split<;>rfl
  |false=>
   rw[fc (show(!false)=ar from rfl),vC,eg (by simp[h])];rfl
def yCl {s:Int} {l:Lv} {n:Nat}:∀(M:List VM) (x:Sd),(M.filter (·.imp))=[⟨n,s,l,ar⟩]->(M.foldl (vC s) x).imp=(if 0<l.dr then l else Ce)/\(M.foldl (vC s) x).has=decide (0<l.dr)
 |[],_,h=>by cases h
 |m::M,x,h=>by
  rw[A7];rw[Ht]at h;cases hm:m.imp with
  |true=>
   rw[fc hm]at h;have h1:=(List.cons.inj h).1;have h2:=(List.cons.inj h).2;have oy:∀(M:List VM) (x:Sd),M.filter (·.imp)=[]->(M.foldl (vC s) x).imp=x.imp/\(M.foldl (vC s) x).has=x.has:=by
    intro M
    induction M with
    |nil=>intro x _;exact⟨rfl,rfl⟩
    |cons y M ih=>
     intro x hy;rw[Ht]at hy;cases hi:y.imp with
     |true=>rw[fc hi]at hy;cases hy
     |false=>
      rw[eg (by simp[hi])]at hy;rw[A7,(ih _ hy).1,(ih _ hy).2,vC,eg (by simp[hi])];exact⟨rfl,rfl⟩
   rw[(oy M _ h2).1,(oy M _ h2).2,h1,vC,fc rfl];by_cases c:0<l.dr
   ·rw[fc c,fc c,jk c];exact⟨rfl,rfl⟩
   ·rw[eg c,eg c,jt c];exact⟨rfl,rfl⟩
  |false=>
   rw[eg (by simp[hm])]at h;exact yCl M _ h
def Zg {s:Int}:∀(M:List VM) (x:Sd),M.filter (·.imp)=[]->(M.foldl (vC s) x).imp=x.imp/\(M.foldl (vC s) x).has=x.has
 |[],_,_=>⟨rfl,rfl⟩
 |y::M,x,hy=>by
  rw[Ht]at hy;cases hi:y.imp with
  |true=>rw[fc hi]at hy;cases hy
  |false=>
   rw[eg (by simp[hi])]at hy;rw[A7,(Zg M _ hy).1,(Zg M _ hy).2,vC,eg (by simp[hi])];exact⟨rfl,rfl⟩
def z5y {n:Nat} {s:Int} {a b:Sd} (ha:WS s a) (hb:WS s b) {M:List VM} (hM:M.Perm (xU n s a b)):M.foldl (vC s) a=b:=by
 have hl:(M.foldl (vC s) a).levels=b.levels:=by
  rw[yHr];refine z8m ha.1 hb.1 hb.2.1 (lh _) ?_;have:=(hM.filter λm=> !m.imp).map (·.l)
  refine this.trans (List.Perm.of_eq ?_);rw[xU,Df,ag];have e:(if Ib a b=ar then[(⟨n,s,Cr b,ar⟩:VM)]else[]).filter (λm=> !m.imp)=[]:=by split<;>rfl
  rw[e,oJ,vy];have e2:(x7 s (a.levels.length+b.levels.length) a.levels b.levels).filter ((λm:VM=> !m.imp)∘λl=>⟨n,s,l,aq⟩)=x7 s (a.levels.length+b.levels.length) a.levels b.levels:=Ii.2 λ_ _=>rfl
  rw[e2];exact List.map_id _
 have hi:(M.foldl (vC s) a).imp=b.imp/\(M.foldl (vC s) a).has=b.has:=by
  have hf:=hM.filter (·.imp)
  have e0:(xU n s a b).filter (·.imp)=if Ib a b=ar then[⟨n,s,Cr b,ar⟩]else[]:=by
   rw[xU,Df,ag];have e2:(x7 s (a.levels.length+b.levels.length) a.levels b.levels).filter ((λm:VM=>m.imp)∘λl=>⟨n,s,l,aq⟩)=[]:=JR.2 λ_ _=>by simp
   rw[e2,B9,xi];split<;>rfl
  rw[e0]at hf;by_cases c:Ib a b=ar
  ·rw[fc c]at hf;have hf:=List.perm_singleton.1 hf;obtain⟨x1,x2⟩:=yCl M a hf;rw[x1,x2,Cr];cases hh:b.has with
   |true=>
    have:=hb.2.2.1 hh;rw[fc rfl,fc (by omega),jk (by omega)];exact⟨rfl,rfl⟩
   |false=>
    rw[hb.2.2.2 hh];exact⟨rfl,rfl⟩
  ·rw[eg c]at hf;obtain⟨x1,x2⟩:=Zg M a (List.perm_nil.1 hf);rw[Ib,NZ,tq,tq,not_or]at c;rw[x1,x2];exact⟨Decidable.not_not.1 c.1,Decidable.not_not.1 c.2⟩
 generalize M.foldl (vC s) a=x at hl hi;cases x;cases b;simp only at hl hi;rw[hl,hi.1,hi.2]
def yGr (n:Nat) (s:Int) (a:Sd):xU n s a a=[]:=by
 rw[xU,zWj];simp[Ib]
def b9 (p:Sd×Sd) (m:VM):Sd×Sd:=if m.side=1 then(vC 1 p.1 m,p.2)else(p.1,vC 2 p.2 m)
def bQ (v:Vw) (m:VM):Vw:=v.modify m.inst λp=>b9 p m
def xQ (n:Nat):Vw->Vw->List VM
 |a::A,b::B=>xU n 1 a.1 b.1++xU n 2 a.2 b.2++xQ (n+1) A B
 |_,_=>[]
def WR (v:Vw):Prop:=∀p∈v,WS 1 p.1/\WS 2 p.2
def yZy (v:Vw) (m:VM):(bQ v m).length=v.length:=List.length_modify _ _ _
def z5k:∀(M:List VM) (v:Vw) (i:Nat),(M.foldl bQ v)[i]? =v[i]?.map λp=>(M.filter λm=>decide (m.inst=i)).foldl b9 p
 |[],v,i=>by simp
 |m::M,v,i=>by
  rw[A7,z5k M,bQ,FA,Ht];by_cases h:m.inst=i
  ·cases v[i]? <;>simp[h]
  ·cases v[i]? <;>simp[h]
def zYj:∀(M:List VM) (p:Sd×Sd),M.foldl b9 p=((M.filter λm=>decide (m.side=1)).foldl (vC 1) p.1,(M.filter λm=> !decide (m.side=1)).foldl (vC 2) p.2)
 |[],_=>rfl
 |m::M,p=>by
  rw[A7,zYj M,b9,Ht,Ht];by_cases h:m.side=1
  ·rw[fc h,fc (by simp[h]),eg (by simp[h])];rfl
  ·rw[eg h,eg (by simp[h]),fc (by simp[h])];rfl
def rE {n:Nat} {s:Int} {a b:Sd}:∀m∈xU n s a b,m.inst=n/\m.side=s:=by
 intro m hm;rw[xU,oK]at hm;rcases hm with hm|hm
 ·obtain⟨l,_,rfl⟩:=oe.1 hm;exact⟨rfl,rfl⟩
 ·split at hm
  ·rw[uc]at hm;subst hm;exact⟨rfl,rfl⟩
  ·cases hm
def y2l:∀{n:Nat} {A B:Vw},∀m∈xQ n A B,n<=m.inst
 |n,[],_,m,h=>by rw[xQ]at h<;>first|cases h|simp
 |n,a::A,[],m,h=>by rw[xQ]at h<;>first|cases h|simp
 |n,a::A,b::B,m,h=>by
  rw[xQ,oK,oK]at h;rcases h with(h|h)|h
  ·exact Nat.le_of_eq (rE m h).1.symm
  ·exact Nat.le_of_eq (rE m h).1.symm
  ·have:=y2l m h;omega
def yQv:∀{n:Nat} {A B:Vw} {i:Nat} {a b:Sd×Sd},A[i]? =aw a->B[i]? =aw b->(xQ n A B).filter (λm=>decide (m.inst=n+i))=xU (n+i) 1 a.1 b.1++xU (n+i) 2 a.2 b.2
 |n,[],_,i,a,b,h,_=>by cases h
 |n,x::A,[],i,a,b,_,h=>by cases h
 |n,x::A,y::B,0,a,b,h,h2=>by
  cases h;cases h2;rw[xQ,Df];have e1:(xQ (n+1) A B).filter (λm=>decide (m.inst=n+0))=[]:=JR.2 λm hm=>by
   have:=y2l m hm;simp;omega
  rw[e1,oJ];refine Ii.2 λm hm=> ?_
  rcases oK.1 hm with hm|hm
  ·exact jk (rE m hm).1
  ·exact jk (rE m hm).1
 |n,x::A,y::B,i+1,a,b,h,h2=>by
  have ih:=yQv (n:=n+1) (A:=A) (B:=B) (i:=i) (a:=a) (b:=b) h h2;rw[xQ,Df];have e1:(xU n 1 x.1 y.1++xU n 2 x.2 y.2).filter (λm=>decide (m.inst=n+(i+1)))=[]:=JR.2 λm hm=>by
   rcases oK.1 hm with hm|hm
   ·have:=(rE m hm).1;simp;omega
   ·have:=(rE m hm).1;simp;omega
  rw[e1,xi,show n+(i+1)=n+1+i by omega];exact ih
def z9b {A B:Vw} (hl:A.length=B.length) (hA:WR A) (hB:WR B) {M:List VM} (hM:M.Perm (xQ 0 A B)):M.foldl bQ A=B:=by
 refine Dd λi=> ?_
 rw[z5k];cases hi:A[i]? with
 |none=>
  have:=Xo.1 hi;rw[ud (by omega)];rfl
 |some a=>
  have gn:=(jf.1 hi).1;obtain⟨b,hb⟩:∃b,B[i]? =aw b:=⟨_,u' oM⟩
  obtain⟨a1,a2⟩:=hA a (ku hi);obtain⟨b1,b2⟩:=hB b (ku hb);have hf:=hM.filter λm=>decide (m.inst=i)
  have hv:=yQv (n:=0) hi hb;rw[nh]at hv;rw[hv]at hf;have h1:((M.filter λm=>decide (m.inst=i)).filter λm=>decide (m.side=1)).Perm (xU i 1 a.1 b.1):=by
   refine(hf.filter _).trans (List.Perm.of_eq ?_);rw[Df,Ii.2 λm hm=>jk (rE m hm).2,JR.2 λm hm=>by rw[(rE m hm).2];decide,oJ]
  have h2:((M.filter λm=>decide (m.inst=i)).filter λm=> !decide (m.side=1)).Perm (xU i 2 a.2 b.2):=by
   refine(hf.filter _).trans (List.Perm.of_eq ?_);rw[Df,JR.2 λm hm=>by rw[(rE m hm).2];decide,Ii.2 λm hm=>by rw[(rE m hm).2];decide,xi]
  rw[hb,we,zYj,z5y a1 b1 h1,z5y a2 b2 h2]
def yHp:∀(n:Nat) (A:Vw),xQ n A A=[]
 |_,[]=>rfl
 |n,a::A=>by rw[xQ,yGr,yGr,yHp];rfl
set_option maxRecDepth 100000
def yx (f:Int->Int) (k v:Int):Int->Int:=λx=>if x=k then v else f x
def one (r:fv) (m:Int):Int:=if r.kind=3/\r.inst=m then(if r.side=1 then r.dr else-r.dr)else 0
def vq (p:ff) (k s q m:Int):Int:=
 if(p.gj k).2.2=ar then(if(p.gj k).1=m then(if s=1 then q else-q)else 0)-(if(p.gj k).2.1=m then(if s=1 then q else-q)else 0)
 else if k=m then(if s=1 then q else-q)else 0
def yFe {s:Int}:∀{F:List zK},Jv s F->cN s (xx F)
 |[],_=>List.Pairwise.nil
 |o::F,h=>by
  rw[Jv,yt]at h;have ih:=yFe h.2;rw[xx];cases hg:xx F with
  |nil=>exact List.pairwise_singleton _ _
  |cons v vs=>
   rw[hg]at ih;dsimp only;have hv:=ih;rw[cN,yt]at hv;by_cases e:v.dm=o.dm
   ·rw[fc e];exact yt.2 ⟨λw hw=>hv.1 w hw,hv.2⟩
   ·rw[eg e];obtain⟨o',r,e2,e3⟩:=Y5 hg;have hb:je s o.dm v.dm=ar:=by
     rw[<- e3];refine UK (h.1 o' (by rw[e2];exact iS)) (by rw[e3];exact e)
    refine yt.2 ⟨λw hw=> ?_,ih⟩;rcases jq.1 hw with rfl|hw
    ·exact hb
    ·exact tG hb (hv.1 w hw)
def yXx {p:ff} {B:List (List zK)} (h:uh p B) {k:Nat} {L:List zK} (hL:B[k]? =aw L) {s:Int} (hs:s=1\/s=2):cN s (gY L s)/\P2 (gY L s):=
 ⟨yFe (h.xk k L hL s hs),λl hl=>(Xa (λo ho=>(h.od k L hL).1 o (wb.1 ho).1) hl).1⟩
def cO (l:List Quote) (b:Quote):Int×Int:=l.foldl (λa q=>if q.dm=b.dm then(if q.dr>a.1 then q.dr else a.1,a.2+1)else a) (b.dr,0)
def qZ (l:List Quote) (s:Int):Lv×Bool:=if(zZ l s).2 then(⟨(zZ l s).1.dm,(cO l (zZ l s).1).1,(cO l (zZ l s).1).2⟩,ar)else(⟨0,0,0⟩,aq)
def Kl:fy:=fi zz (λi=>[ot 6 (i.l.map zL),zB i.s]) (λ_=>[]) (λi=>(i.s=1\/i.s=2)/\i.l.length<=1000000) (λi=> .iZ [zB (qZ i.l i.s).1.dm,zB (qZ i.l i.s).1.dr,zB (qZ i.l i.s).1.count,yL (qZ i.l i.s).2]) (λ_=>[])
def y9w (i:zz):List gm:=[{ι:=Nat,du:=λk=>[(8,.nm 0 0),(10,zB (cO (i.l.take k) (zZ i.l i.s).1).1),(11,zB (cO (i.l.take k) (zZ i.l i.s).1).2),(26,zB k)],rows:=λ_=>[.cells (Wy (zZ i.l i.s).1).cl 128]}]
def tD (p:ff) (B:List (List zK)) (n:Nat) (s:Int):Sd:=⟨gY (B.getD n []) s,(qZ (xN ⟨p,B.map qA,n⟩ s) s).1,(qZ (xN ⟨p,B.map qA,n⟩ s) s).2⟩
def yD (p:ff) (B:List (List zK)):Vw:=(List.range p.count).map λn=>(tD p B n 1,tD p B n 2)
structure Fe where
 s:gv
 p:ff
 B:List (List zK)
def F6:fy:=fi Fe (λi=>[nk i.p,.nm 0 0]) (λi=>[zF i.s]) (λi=>i.s.fv i.p i.B/\jb i.p i.B) (λi=>zw (yD i.p i.B)) (λi=>[zF i.s])
def y0q (i:Fe):List gm:=[
 {ι:=Nat,du:=λj=>[(5,.nm 0 0),(6,.own 2),(27,zB j)],rows:=λj=>[.cells [.own 1] 89,.own 180 10 (((yD i.p i.B).take j).map zA),.kg 6 ((i.B.map qA).map yB)]},
 {ι:=Unit,du:=λ_=>[],rows:=λ_=>[],un:=3}]
noncomputable def P1 (a b:List Lv):Bool:=decide (a=b)
noncomputable def NU (a b:Sd):Bool:=decide (a=b)
noncomputable def Fk (a b:Vw):Bool:=decide (a=b)
structure WT where
 x:List Lv
 y:List Lv
noncomputable def KQ:fy:=fi WT (λi=>[ot 3 (i.x.map ic),ot 3 (i.y.map ic)]) (λ_=>[]) (λi=>i.x.length<=1099511627776/\i.y.length<=1099511627776) (λi=>yL (P1 i.x i.y)) (λ_=>[])
def xAo:List gm:=[{ι:=Nat,du:=λk=>[(13,zB k)],rows:=λ_=>[]}]
def xCp:List (Nat×gm):=[(24,bj 24)]
structure P7 where
 a:Sd
 b:Sd
noncomputable def Th:fy:=fi P7 (λi=>[Of i.a,Of i.b]) (λ_=>[]) (λi=>i.a.levels.length<=1099511627776/\i.b.levels.length<=1099511627776) (λi=>yL (NU i.a i.b)) (λ_=>[])
structure Hh where
 v:Vw
 w:Vw
noncomputable def Tm:fy:=fi Hh (λi=>[ot 10 (i.v.map zA),ot 10 (i.w.map zA),.fn 97 [] []]) (λ_=>[]) (λi=>xX i.v/\xX i.w) (λi=>yL (Fk i.v i.w)) (λ_=>[])
def xId:List gm:=[{ι:=Nat,du:=λk=>[(17,zB k)],rows:=λ_=>[]}]
def xHl:List (Nat×gm):=[(28,bj 30)]
noncomputable def C2:fy:=fi Hh (λi=>[zw i.v,zw i.w]) (λ_=>[]) (λi=>xX i.v/\xX i.w) (λi=>yL (Fk i.v i.w)) (λ_=>[])
def zO (m:gh):List D:=[.v (.int .i64 m.seq),.v (.int .i64 m.inst),.v (.int .i64 m.side),.v (.int .i64 m.dm),.v (.int .i64 m.dr),.v (.int .i64 m.count),.v (.bool m.fx)]
def Ic (m:gh):V:= .agg [zB m.seq,zB m.inst,zB m.side,zB m.dm,zB m.dr,zB m.count,yL m.fx]
@[reducible] def wY:Nat:=78
@[reducible] def rP (l:List gh):fj:= .own wY 7 (l.map zO)
def jY (seq:Int):List VM->List gh
 |[]=>[]
 |m::M=>⟨seq+1,m.inst,m.side,m.l.dm,m.l.dr,m.l.count,m.imp⟩::jY (seq+1) M
structure tn where
 seq:Int
 out:List gh
@[reducible] def OT (d:tn):List fj:=[.cells [zB d.seq,.own 1] 266,rP d.out]
@[reducible] def DfP (d:tn):List fj:=[.cells [zB d.seq,.own 2] 266,.gone,rP d.out]
def tn.add (d:tn) (M:List VM):tn:=⟨d.seq+M.length,d.out++jY d.seq M⟩
@[reducible] def tn.ok (d:tn) (n:Nat):Prop:= -4611686018427387904<=d.seq/\d.seq+n<=4611686018427387904/\d.out.length+n<=1000000000
structure IG where
 d:tn
 m:VM
def GL:fy:=fi IG (λi=>[.nm 0 0,zB i.m.inst,zB i.m.side,RC i.m.l,yL i.m.imp]) (λi=>OT i.d) (λi=>i.d.ok 1) (λ_=>pL) (λi=>DfP (i.d.add [i.m]))
structure AD where
 d:tn
 n:Nat
 s:Int
 a:Sd
 b:Sd
def GM:fy:=fi AD (λi=>[.nm 0 0,zB i.n,zB i.s,Of i.a,Of i.b]) (λi=>OT i.d) (λi=>i.d.ok (i.a.levels.length+i.b.levels.length+1)) (λ_=>pL) (λi=>DfP (i.d.add (xU i.n i.s i.a i.b)))
structure wx where
 x:List Lv
 y:List Lv
 M:List VM
def y6a (i:AD):List gm:=[{ι:=wx,du:=λj=>[(0,.nm 0 0),(10,ot 3 (j.x.map ic)),(11,ot 3 (j.y.map ic))],rows:=λj=>OT (i.d.add j.M)}]
def xIc:gm:={ι:=tn,du:=λ_=>[(0,.nm 0 0)],rows:=λd=>OT d,oZ:=λ_=>[(0,.nm 0 0)],lu:=λd=>OT d}
def lvT (t:Nat):gm:={ι:=Lv,du:=λ_=>[(t,.nm 0 0)],rows:=λl=>[.cells [zB l.dm,zB l.dr,zB l.count] 177],oZ:=λ_=>[(t,.nm 0 0)],lu:=λl=>[.cells [zB l.dm,zB l.dr,zB l.count] 177]}
def y5d:List (Nat×gm):=[(24,bj 41),(36,bj 73),(12,bj 29),(14,xIc),(48,bj 109),(58,lvT 12)]
structure Kb where
 v:Vw
 w:Vw
 seq:Int
def Vw.pw (v:Vw):Nat:=(v.map λb=>b.1.levels.length+b.2.levels.length).sum
def KR:fy:=fi Kb (λi=>[zw i.v,zw i.w,zB i.seq]) (λ_=>[]) (λi=>i.v.length=i.w.length/\(-4000000000000000000<=i.seq/\i.seq<=4000000000000000000)/\Vw.pw i.v<=100000000/\Vw.pw i.w<=100000000/\i.v.length<=1000000) (λ_=> .own 0) (λi=>[rP (jY i.seq (xQ 0 i.v i.w))])
def xFq (i:Kb):List gm:=[
 {ι:=Nat,du:=λj=>[(7,.nm 0 0),(24,zB j)],rows:=λj=>OT (tn.add ⟨i.seq,[]⟩ (xQ 0 (i.v.take j) (i.w.take j)))},
 {ι:=Unit,du:=λ_=>[],rows:=λ_=>[],un:=3}]
def F5:fy:=fi gh (λm=>[Ic m]) (λ_=>[]) (λ_=>True) (λm=> .iZ [ot 1 (bE m.enc),zB m.form]) (λ_=>[])
def xDc:List (Nat×gm):=[(4,bj 23),(46,ij 5)]
def xEx:List (Nat×gm):=[(20,bj 43)]
def ZW (a:Nat) (b:Nat) (c:zz) (d:Nat->Prop) (e:Nat->Nat):Prop:=(↑a:Int)=av.wrap ((↑b:Int)+1)/\dl ((zZ c.l c.s).fst.dm)/\dl ((zZ c.l c.s).fst.dr)/\dl ((zZ c.l c.s).fst.a.inst)/\dl ((zZ c.l c.s).fst.a.side)/\dl ((zZ c.l c.s).fst.b.inst)/\dl ((zZ c.l c.s).fst.b.side)/\d a/\e a<e b/\True
def kM (a:Nat) (b:zz):=(cO (ac a b.l) (zZ b.l b.s).fst)
def y1u (i:zz):Prop:=
 ∃(a:zz),ab zL a.l=ab zL i.l/\a.s=i.s/\(dO a)/\fa (dp (!(zZ a.l a.s).snd) (dx ((qZ i.l i.s).fst.dm=0/\(qZ i.l i.s).fst.dr=0/\(qZ i.l i.s).fst.count=0/\(qZ i.l i.s).snd=aq/\True)) (∃(c:Nat),(kM c i).fst=(zZ a.l a.s).fst.dr/\(kM c i).snd=0/\(↑c:Int)=0/\(zZ i.l i.s).fst.dm=(zZ a.l a.s).fst.dm/\(zZ i.l i.s).fst.dr=(zZ a.l a.s).fst.dr/\(zZ i.l i.s).fst.a.inst=(zZ a.l a.s).fst.a.inst/\(zZ i.l i.s).fst.a.side=(zZ a.l a.s).fst.a.side/\(zZ i.l i.s).fst.b.inst=(zZ a.l a.s).fst.b.inst/\(zZ i.l i.s).fst.b.side=(zZ a.l a.s).fst.b.side/\∃(d:Nat->Prop),∃(e:Nat->Nat),d c/\∀(f:Nat),d f->dp (decide ((↑f:Int)<(uU i))) ((0<=(↑f:Int)/\(↑f:Int)<(uU i))/\∃(g:Int),∃(h:Int),∃(j:Int),∃(k:Int),∃(l:Int),∃(m:Int),zD (ab zL i.l) (↑f:Int).toNat 0 6=aw [dI g,dI h,dI j,dI k,dI l,dI m]/\dp (g==(zZ i.l i.s).fst.dm) (∃(n:Nat),((kM n i).fst=if h>(kM f i).fst then h else(kM f i).fst)/\(kM n i).snd=av.wrap ((kM f i).snd+1)/\ZW n f i d e) (∃(n:Nat),(kM n i).fst=(kM f i).fst/\(kM n i).snd=(kM f i).snd/\ZW n f i d e)) (dx ((qZ i.l i.s).fst.dm=(zZ i.l i.s).fst.dm/\(qZ i.l i.s).fst.dr=(kM f i).fst/\(qZ i.l i.s).fst.count=(kM f i).snd/\(qZ i.l i.s).snd=ar/\True))))
def gH (a:Nat) (b:Fe):=(ac a (yD b.p b.B))
def Vh (a:Nat) (b:gv) (c:Fe) (d:Nat->Prop) (e:Nat->Nat):Prop:=((0:Int)<=(0:Int)/\0<(↑(2:Nat):Int))/\∃(f:Int),zD [[dI 1],[dI 2]] (au 0) 0 1=aw [dI f]/\∃(g:Cl),g.inst=(↑a:Int)/\zE g.sd=f/\zF g.s=zF b/\(g.s.fv g.p g.B/\g.B.length<=1000)/\fa (∃(j:Br),Qb j.i.p c.p (ab yB j.i.fh=ab yB (ab qA c.B)/\j.i.inst=(↑a:Int)/\zE j.s=f/\(kJ j)/\fa (∃(l:zz),ab zL l.l=ab zL (xN j.i (zE j.s))/\l.s=f/\(dO l)/\fa ((hU)/\∃(n:Int),zD [[dI 1],[dI 2]] (av.wrap ((0:Int)+(1:Int))).toNat 0 1=aw [dI n]/\∃(p:Cl),p.inst=(↑a:Int)/\zE p.sd=n/\zF p.s=zF g.s/\(p.s.fv p.p p.B/\p.B.length<=1000)/\fa (∃(r:Br),Qb r.i.p c.p (ab yB r.i.fh=ab yB (ab qA c.B)/\r.i.inst=(↑a:Int)/\zE r.s=n/\(kJ r)/\fa (∃(t:zz),ab zL t.l=ab zL (xN r.i (zE r.s))/\t.s=n/\(dO t)/\fa (((ab zA (gH a c)).length+1)*(112:Nat)<=(140737488355328:Nat)/\∃(v:Nat),(↑v:Int)=av.wrap ((↑a:Int)+1)/\ab zA (gH v c)=ab zA (gH a c)++[[D.ro 3 (ab ic (cS g)),dI ((qZ l.l l.s).fst.dm),dI ((qZ l.l l.s).fst.dr),dI ((qZ l.l l.s).fst.count),D.v (.bool (qZ l.l l.s).snd),D.ro 3 (ab ic (cS p)),dI ((qZ t.l t.s).fst.dm),dI ((qZ t.l t.s).fst.dr),dI ((qZ t.l t.s).fst.count),D.v (.bool (qZ t.l t.s).snd)]]/\dl (am 6 (ab yB (ab qA c.B)))/\d v/\e v<e a/\zF p.s=zF b/\dl (ak ob.cl 89)/\dl (ak [V.d (D.v (Value.string (sb c.p.code))),V.own 1,V.d (dI c.p.tick),V.d (dI c.p.low),V.d (dI c.p.high),V.d (dI c.p.wide),V.d (dI c.p.gi),V.d (dI c.p.top),V.d (dI c.p.least),V.d (dI c.p.part),V.own 2] 25)/\dl (am 1 (iE c.p.settle))/\dl (am 1 (iE c.p.dt))))))))))
def y3g (i:Fe):Prop:=
 ∃(a:ff),Qb a i.p ((zW a)/\fa (dp (a.check !=0) (dx (ab zA (yD i.p i.B)=[]/\dl (zF i.s)/\True)) (∃(c:gv),zF c=zF i.s/\(gN c)/\fa (∃(e:ff),Qb e i.p ((zW e)/\fa (∃(g:Nat),(↑g:Int)=0/\ab zA (gH g i)=[]/\ab yB (ab qA i.B)=ab yB c.fh/\∃(h:Nat->Prop),∃(j:Nat->Nat),h g/\∀(k:Nat),h k->dp (decide ((↑k:Int)<(↑e.count:Int))) (Vh k c i h j) (dx (ab zA (yD i.p i.B)=ab zA (gH k i)/\zF i.s=zF c/\True))))))))
def y1q (i:WT):Prop:=
 dp ((↑(ab ic i.x).length:Int) !=(↑(ab ic i.y).length:Int)) (dx (P1 i.x i.y=aq/\True)) (∃(a:Nat),(↑a:Int)=0/\∃(b:Nat->Prop),∃(c:Nat->Nat),b a/\∀(d:Nat),b d->dp (decide ((↑d:Int)<(↑(ab ic i.x).length:Int))) (∃(e:Bool),∃(f:Bool->Prop),((0<=(↑d:Int)/\(↑d:Int)<(↑(ab ic i.x).length:Int))/\∃(g:Int),∃(h:Int),∃(j:Int),zD (ab ic i.x) (↑d:Int).toNat 0 3=aw [dI g,dI h,dI j]/\(0<=(↑d:Int)/\(↑d:Int)<(↑(ab ic i.y).length:Int))/\∃(k:Int),∃(l:Int),∃(m:Int),zD (ab ic i.y) (↑d:Int).toNat 0 3=aw [dI k,dI l,dI m]/\∃(n:Bool),n=!(g==k && (h==l && (j==m && ar)))/\f n/\True)/\∀(g:Bool),f g->dp g (dx (P1 i.x i.y=aq/\True)) (wC d b c)) (dx (P1 i.x i.y=ar/\True)))
def xCq (i:P7):Prop:=
 ∃(a:WT),ab ic a.x=ab ic i.a.levels/\ab ic a.y=ab ic i.b.levels/\(a.x.length<=1099511627776/\a.y.length<=1099511627776)/\fa (dp (P1 a.x a.y) (dp (i.a.imp.dm==i.b.imp.dm && (i.a.imp.dr==i.b.imp.dr && (i.a.imp.count==i.b.imp.count && ar))) (dx (NU i.a i.b=(i.a.has==i.b.has)/\True)) (dx (NU i.a i.b=aq/\True))) (dx (NU i.a i.b=aq/\True)))
def Yz (a:Bool->Prop) (b:Bool) (c:List (List D)) (d:List (List D)) (e:Int) (f:Int) (g:Int) (h:Bool) (j:Int) (k:Int) (l:Int) (m:Bool) (n:List (List D)) (p:List (List D)) (q:Int) (r:Int) (s:Int) (t:Bool) (u:Int) (v:Int) (w:Int) (x:Bool):Prop:=a b/\dl (am 3 c)/\dl (am 3 d)/\dl (ak [V.own 4,V.d (dI e),V.d (dI f),V.d (dI g),V.d (D.v (.bool h)),V.own 5,V.d (dI j),V.d (dI k),V.d (dI l),V.d (D.v (.bool m))] 180)/\dl (am 3 n)/\dl (am 3 p)/\dl (ak [V.own 1,V.d (dI q),V.d (dI r),V.d (dI s),V.d (D.v (.bool t)),V.own 2,V.d (dI u),V.d (dI v),V.d (dI w),V.d (D.v (.bool x))] 180)
def xEc (i:Hh):Prop:=
 dp ((↑(ab zA i.v).length:Int) !=(↑(ab zA i.w).length:Int)) (dx (Fk i.v i.w=aq/\True)) (∃(a:Nat),(↑a:Int)=0/\∃(b:Nat->Prop),∃(c:Nat->Nat),b a/\∀(d:Nat),b d->dp (decide ((↑d:Int)<(↑(ab zA i.v).length:Int))) ((0<=(↑d:Int)/\(↑d:Int)<(↑(ab zA i.v).length:Int))/\∃(e:List (List D)),∃(f:Int),∃(g:Int),∃(h:Int),∃(j:Bool),∃(k:List (List D)),∃(l:Int),∃(m:Int),∃(n:Int),∃(p:Bool),zD (ab zA i.v) (↑d:Int).toNat 0 10=aw [D.ro 3 e,dI f,dI g,dI h,D.v (.bool j),D.ro 3 k,dI l,dI m,dI n,D.v (.bool p)]/\(0<=(↑d:Int)/\(↑d:Int)<(↑(ab zA i.w).length:Int))/\∃(q:List (List D)),∃(r:Int),∃(s:Int),∃(t:Int),∃(u:Bool),∃(v:List (List D)),∃(w:Int),∃(x:Int),∃(y:Int),∃(z:Bool),zD (ab zA i.w) (↑d:Int).toNat 0 10=aw [D.ro 3 q,dI r,dI s,dI t,D.v (.bool u),D.ro 3 v,dI w,dI x,dI y,D.v (.bool z)]/\∃(ow:Bool),∃(og:Bool->Prop),(∃(iW:P7),QO iW.a e f g h j (QO iW.b q r s t u ((iW.a.levels.length<=1099511627776/\iW.b.levels.length<=1099511627776)/\fa (dp (NU iW.a iW.b) (∃(jg:P7),QO jg.a k l m n p (QO jg.b v w x y z ((jg.a.levels.length<=1099511627776/\jg.b.levels.length<=1099511627776)/\fa (∃(oW:Bool),oW=!NU jg.a jg.b/\Yz og oW v q r s t u w x y z k e f g h j l m n p)))) (∃(jg:Bool),jg=!false/\Yz og jg v q r s t u w x y z k e f g h j l m n p)))))/\∀(iW:Bool),og iW->dp iW (dx (Fk i.v i.w=aq/\True)) (wC d b c)) (dx (Fk i.v i.w=ar/\True)))
def pA (a:Hh):Prop:=(aj a.v<=1099511627776/\∀(b:Sd×Sd),b∈a.v->qK b)/\aj a.w<=1099511627776/\∀(b:Sd×Sd),b∈a.w->qK b
def ySe (i:Hh):Prop:=
 ∃(a:Hh),ab zA a.v=ab zA i.v/\ab zA a.w=ab zA i.w/\(pA a)/\fa (dx (Fk i.v i.w=Fk a.v a.w/\True))
def yNv (i:IG):Prop:=
 True/\((ab zO i.d.out).length+1)*(56:Nat)<=(140737488355328:Nat)/\dx (i.d.seq+(↑(1:Nat):Int)=av.wrap (i.d.seq+1)/\ab zO (i.d.out++jY i.d.seq [i.m])=ab zO i.d.out++[[dI (av.wrap (i.d.seq+1)),dI (↑i.m.inst:Int),dI i.m.side,dI i.m.l.dm,dI i.m.l.dr,dI i.m.l.count,D.v (.bool i.m.imp)]]/\True)
def jT (a:AD) (b:wx):=(a.d.out++jY a.d.seq b.M)
def sA (a:AD):Prop:=ak [V.own 4,V.d (dI a.b.imp.dm),V.d (dI a.b.imp.dr),V.d (dI a.b.imp.count),V.d (D.v (.bool a.b.has))] 179=ak [V.own 4,V.d (dI a.b.imp.dm),V.d (dI a.b.imp.dr),V.d (dI a.b.imp.count),V.d (D.v (.bool a.b.has))] 179/\dl (am 3 (ab ic a.b.levels))/\dl (ak [V.own 2,V.d (dI a.a.imp.dm),V.d (dI a.a.imp.dr),V.d (dI a.a.imp.count),V.d (D.v (.bool a.a.has))] 179)/\dl (am 3 (ab ic a.a.levels))
def ZM (a:AD) (b:wx):Prop:=ak [V.d (dI (a.d.seq+(↑b.M.length:Int))),V.own 7] (266:TypeId)=ak [V.d (dI (a.d.seq+(↑b.M.length:Int))),V.own 7] (266:TypeId)/\dl (ap wY 7 (ab zO (jT a b)))/\sA a
def rO (a:Bool->Prop) (b:Bool) (c:AD) (d:wx):Prop:=a b/\ZM c d
def zMb (a:AD) (b:Int) (c:Int) (d:Bool->Prop) (e:wx):Prop:=∃(f:I3),f.side=a.s/\f.x=b/\f.y=c/\True/\fa (∃(h:Bool),h=xH f.side f.x f.y/\rO d h a e)
def VI (a:Bool->Prop) (b:AD) (c:wx):Prop:=∃(d:Bool),d=ar/\rO a d b c
def ZY (a:Lv->Prop) (b:Lv) (c:AD) (d:wx):Prop:=a b/\ZM c d
def zKx (a:wx->Prop) (b:wx) (c:wx->Nat) (d:wx) (e:AD):Prop:=a b/\c b<c d/\sA e
def ZQ (a:AD) (b:wx) (c:IG) (d:wx->Prop) (e:wx->Nat) (f:wx):Prop:=a.d.seq+(↑b.M.length:Int)=c.d.seq+(↑(1:Nat):Int)/\ab zO (jT a b)=ab zO (c.d.out++jY c.d.seq [c.m])/\zKx d b e f a
def zLa (a:tn->Prop) (b:tn) (c:AD):Prop:=a b/\sA c
def nY (a:IG):Prop:=(-4611686018427387904)<=a.d.seq/\a.d.seq+(↑(1:Nat):Int)<=4611686018427387904/\a.d.out.length+(1:Nat)<=(1000000000:Nat)
def bD (a:wx):=(↑(ab ic a.y).length:Int)
def cY (a:wx):Prop:=(0:Int)<=(0:Int)/\0<(bD a)
def fT (a:wx):=(↑(ab ic a.x).length:Int)
def nI (a:wx):Prop:=(0:Int)<=(0:Int)/\0<(fT a)
def bP (a:AD):=(a.d.out++jY a.d.seq (xU a.n a.s a.a a.b))
def bL (a:AD):=(↑(xU a.n a.s a.a a.b).length:Int)
def yMs (i:AD):Prop:=
 ∃(a:wx),ab ic a.x=ab ic i.a.levels/\ab ic a.y=ab ic i.b.levels/\i.d.seq+(↑a.M.length:Int)=i.d.seq/\ab zO (jT i a)=ab zO i.d.out/\∃(b:wx->Prop),∃(c:wx->Nat),b a/\∀(d:wx),b d->dp (decide (av.wrap ((fT d)+(bD d))>0)) (∃(e:Bool),∃(f:Bool->Prop),dp ((bD d)==0) (VI f i d) (dp (decide ((fT d)>0)) ((nI d)/\∃(g:Int),zD (ab ic d.x) (au 0) 0 1=aw [dI g]/\(cY d)/\∃(h:Int),zD (ab ic d.y) (au 0) 0 1=aw [dI h]/\zMb i g h f d) (∃(g:Bool),g=aq/\rO f g i d))/\∀(g:Bool),f g->dp g ((nI d)/\∃(h:Int),zD (ab ic d.x) (au 0) 0 1=aw [dI h]/\∃(j:IG),(↑j.m.inst:Int)=(↑i.n:Int)/\j.m.side=i.s/\j.m.l.dm=h/\j.m.l.dr=0/\j.m.l.count=0/\j.m.imp=aq/\j.d.seq=i.d.seq+(↑d.M.length:Int)/\ab zO j.d.out=ab zO (jT i d)/\(nY j)/\fa (((0:Int)<=(1:Int)/\1<=(fT d))/\∃(l:wx),ab ic l.x=ae (au 1) (ab ic d.x)/\ab ic l.y=ab ic d.y/\ZQ i l j b c d)) (∃(h:Bool),∃(j:Bool->Prop),dp ((fT d)==0) (VI j i d) ((cY d)/\∃(k:Int),zD (ab ic d.y) (au 0) 0 1=aw [dI k]/\(nI d)/\∃(l:Int),zD (ab ic d.x) (au 0) 0 1=aw [dI l]/\zMb i k l j d)/\∀(k:Bool),j k->dp k ((cY d)/\∃(l:Int),∃(m:Int),∃(n:Int),zD (ab ic d.y) (au 0) 0 3=aw [dI l,dI m,dI n]/\∃(p:IG),(↑p.m.inst:Int)=(↑i.n:Int)/\p.m.side=i.s/\p.m.l.dm=l/\p.m.l.dr=m/\p.m.l.count=n/\p.m.imp=aq/\p.d.seq=i.d.seq+(↑d.M.length:Int)/\ab zO p.d.out=ab zO (jT i d)/\(nY p)/\fa (((0:Int)<=(1:Int)/\1<=(bD d))/\∃(r:wx),ab ic r.x=ab ic d.x/\ab ic r.y=ae (au 1) (ab ic d.y)/\ZQ i r p b c d)) (∃(l:tn),l.seq=i.d.seq+(↑d.M.length:Int)/\ab zO l.out=ab zO (jT i d)/\∃(m:tn->Prop),(∃(n:Bool),∃(p:Bool->Prop),((nI d)/\∃(q:Int),∃(r:Int),∃(s:Int),zD (ab ic d.x) (au 0) 0 3=aw [dI q,dI r,dI s]/\(cY d)/\∃(t:Int),∃(u:Int),∃(v:Int),zD (ab ic d.y) (au 0) 0 3=aw [dI t,dI u,dI v]/\∃(w:Bool),w=!(q==t && (r==u && (s==v && ar)))/\p w/\dl (ak [V.d (dI l.seq),V.own 9] (266:TypeId))/\dl (ap wY 7 (ab zO l.out))/\sA i)/\∀(q:Bool),p q->dp q ((cY d)/\∃(r:Int),∃(s:Int),∃(t:Int),zD (ab ic d.y) (au 0) 0 3=aw [dI r,dI s,dI t]/\∃(u:IG),(↑u.m.inst:Int)=(↑i.n:Int)/\u.m.side=i.s/\u.m.l.dm=r/\u.m.l.dr=s/\u.m.l.count=t/\u.m.imp=aq/\u.d.seq=l.seq/\ab zO u.d.out=ab zO l.out/\(nY u)/\fa (∃(w:tn),w.seq=u.d.seq+(↑(1:Nat):Int)/\ab zO w.out=ab zO (u.d.out++jY u.d.seq [u.m])/\zLa m w i)) (∃(r:tn),r.seq=l.seq/\ab zO r.out=ab zO l.out/\zLa m r i))/\∀(n:tn),m n->((0:Int)<=(1:Int)/\1<=(fT d))/\((0:Int)<=(1:Int)/\1<=(bD d))/\∃(p:wx),ab ic p.x=ae (au 1) (ab ic d.x)/\ab ic p.y=ae (au 1) (ab ic d.y)/\i.d.seq+(↑p.M.length:Int)=n.seq/\ab zO (jT i p)=ab zO n.out/\zKx b p c d i))) (∃(e:Bool),∃(f:Bool->Prop),dp (!(i.a.imp.dm==i.b.imp.dm && (i.a.imp.dr==i.b.imp.dr && (i.a.imp.count==i.b.imp.count && ar)))) (VI f i d) (∃(g:Bool),g=!i.a.has==i.b.has/\rO f g i d)/\∀(g:Bool),f g->dp g (∃(h:Lv),h.dm=i.b.imp.dm/\h.dr=i.b.imp.dr/\h.count=i.b.imp.count/\∃(j:Lv->Prop),dp (!i.b.has) (∃(k:Lv),k.dm=0/\k.dr=0/\k.count=0/\ZY j k i d) (∃(k:Lv),k.dm=h.dm/\k.dr=h.dr/\k.count=h.count/\ZY j k i d)/\∀(k:Lv),j k->∃(l:IG),(↑l.m.inst:Int)=(↑i.n:Int)/\l.m.side=i.s/\l.m.l.dm=k.dm/\l.m.l.dr=k.dr/\l.m.l.count=k.count/\l.m.imp=ar/\l.d.seq=i.d.seq+(↑d.M.length:Int)/\ab zO l.d.out=ab zO (jT i d)/\(nY l)/\fa (dx (i.d.seq+(bL i)=l.d.seq+(↑(1:Nat):Int)/\ab zO (bP i)=ab zO (l.d.out++jY l.d.seq [l.m])/\True))) (dx (i.d.seq+(bL i)=i.d.seq+(↑d.M.length:Int)/\ab zO (bP i)=ab zO (jT i d)/\True)))
def zKs (a:AD):Prop:=(-4611686018427387904)<=a.d.seq/\a.d.seq+(↑(a.a.levels.length+a.b.levels.length+1):Int)<=4611686018427387904/\a.d.out.length+(a.a.levels.length+a.b.levels.length+1)<=1000000000
def sI (a:Kb) (b:Nat):=([]++jY a.seq (xQ 0 (ac b a.v) (ac b a.w)))
def VP (a:Nat) (b:Kb):=(↑(xQ 0 (ac a b.v) (ac a b.w)).length:Int)
def rM (a:Kb):=(↑(ab zA a.v).length:Int)
def y1m (i:Kb):Prop:=
 dp ((rM i) !=(↑(ab zA i.w).length:Int)) (dx (ab zO (jY i.seq (xQ 0 i.v i.w))=[]/\True)) (∃(a:Nat),(↑a:Int)=0/\i.seq+(VP a i)=i.seq/\ab zO (sI i a)=[]/\∃(b:Nat->Prop),∃(c:Nat->Nat),b a/\∀(d:Nat),b d->dp (decide ((↑d:Int)<(rM i))) (((0:Int)<=(0:Int)/\0<(↑(2:Nat):Int))/\∃(e:Int),zD [[dI 1],[dI 2]] (au 0) 0 1=aw [dI e]/\(0<=(↑d:Int)/\(↑d:Int)<(rM i))/\∃(f:List (List D)),∃(g:Int),∃(h:Int),∃(j:Int),∃(k:Bool),zD (ab zA i.v) (↑d:Int).toNat 0 5=aw [D.ro 3 f,dI g,dI h,dI j,D.v (.bool k)]/\(0<=(↑d:Int)/\(↑d:Int)<(↑(ab zA i.w).length:Int))/\∃(l:List (List D)),∃(m:Int),∃(n:Int),∃(p:Int),∃(q:Bool),zD (ab zA i.w) (↑d:Int).toNat 0 5=aw [D.ro 3 l,dI m,dI n,dI p,D.v (.bool q)]/\∃(r:AD),(↑r.n:Int)=(↑d:Int)/\r.s=e/\QO r.a f g h j k (QO r.b l m n p q (r.d.seq=i.seq+(VP d i)/\ab zO r.d.out=ab zO (sI i d)/\(zKs r)/\fa ((hU)/\∃(t:Int),zD [[dI 1],[dI 2]] (av.wrap ((0:Int)+(1:Int))).toNat 0 1=aw [dI t]/\(0<=(↑d:Int)/\(↑d:Int)<(rM i))/\∃(u:List (List D)),∃(v:Int),∃(w:Int),∃(x:Int),∃(y:Bool),zD (ab zA i.v) (↑d:Int).toNat 5 5=aw [D.ro 3 u,dI v,dI w,dI x,D.v (.bool y)]/\(0<=(↑d:Int)/\(↑d:Int)<(↑(ab zA i.w).length:Int))/\∃(z:List (List D)),∃(ow:Int),∃(og:Int),∃(iW:Int),∃(qh:Bool),zD (ab zA i.w) (↑d:Int).toNat 5 5=aw [D.ro 3 z,dI ow,dI og,dI iW,D.v (.bool qh)]/\∃(jg:AD),(↑jg.n:Int)=(↑d:Int)/\jg.s=t/\QO jg.a u v w x y (QO jg.b z ow og iW qh (jg.d.seq=r.d.seq+(bL r)/\ab zO jg.d.out=ab zO (bP r)/\(zKs jg)/\fa (∃(oW:Nat),(↑oW:Int)=av.wrap ((↑d:Int)+1)/\i.seq+(VP oW i)=jg.d.seq+(bL jg)/\ab zO (sI i oW)=ab zO (bP jg)/\b oW/\c oW<c d/\dl (ak [V.own 2] 89)/\dl (am 10 (ab zA i.w))/\dl (ak [V.own 0] 89)/\dl (am 10 (ab zA i.v))))))))) (dx (ab zO (jY i.seq (xQ 0 i.v i.w))=ab zO (sI i d)/\True)))
def zLl (a:gh):Prop:=ak [V.d (dI a.seq),V.d (dI a.inst),V.d (dI a.side),V.d (dI a.dm),V.d (dI a.dr),V.d (dI a.count),V.d (D.v (.bool a.fx))] 78=ak [V.d (dI a.seq),V.d (dI a.inst),V.d (dI a.side),V.d (dI a.dm),V.d (dI a.dr),V.d (dI a.count),V.d (D.v (.bool a.fx))] 78
def ZZ (a:Int->Prop) (b:Int) (c:WN) (d:gh):Prop:=a b/\dl (ao (List UInt8) 2 ki (c.l++le c.n 8))/\zLl d
def V4 (a:Bool->Prop) (b:Bool) (c:gh):Prop:=a b/\zLl c
def ZG (a:Bool->Prop) (b:gh):Prop:=∃(c:Bool),c=ar/\V4 a c b
@[reducible] def J' (a b:WN)(R:Prop):Prop:=ao (List UInt8) 2 ki a.l=ao (List UInt8) 2 ki (b.l++[iR b.n])/\a.ok/\R
def y0o (m:gh):Prop:=
 ∃(a:Bool),∃(b:Bool->Prop),dp (decide (m.inst<0)) (ZG b m) (dp (decide (m.inst>255)) (ZG b m) (dp (m.side !=1) (∃(c:Bool),c=(m.side !=2)/\V4 b c m) (∃(c:Bool),c=aq/\V4 b c m)))/\∀(c:Bool),b c->dp c (dx (bE m.enc=[]/\m.form=12/\True)) (dx (True/\fa (∃(f:WN),f.n=m.seq/\OI f (fa (∃(h:WN),h.n=m.inst/\DA h f (fa (∃(k:WN),k.n=m.side/\J' k h (fa (∃(n:WN),n.n=m.dm/\J' n k (fa (∃(q:WN),q.n=m.dr/\DA q n (fa (∃(s:WN),s.n=m.count/\DA s q (fa (∃(u:Int),∃(v:Int->Prop),dp m.fx (∃(w:Int),w=1/\ZZ v w s m) (∃(w:Int),w=0/\ZZ v w s m)/\∀(w:Int),v w->∃(x:WN),x.n=w/\DA x s (fa (∃(z:List UInt8),ao (List UInt8) 2 ki z=ao (List UInt8) 2 ki (x.l++[iR x.n])/\z.length<=1099511627776/\fa (dx (bE m.enc=bE z/\m.form=0/\True)))))))))))))))))))
def zTh {l:List Quote} {k:Nat} {q:Quote} (b:Quote) (h:l[k]? =aw q):cO (l.take (k+1)) b=if q.dm=b.dm then(if q.dr>(cO (l.take k) b).1 then q.dr else(cO (l.take k) b).1,(cO (l.take k) b).2+1)else cO (l.take k) b:=by
 rw[cO,qx,h,Cb,JK,A7,List.foldl_nil];rfl
def z6n (b:Quote) (l:List Quote):∀k,k<=l.length->0<=(cO (l.take k) b).2/\(cO (l.take k) b).2<=k
 |0,_=>⟨by rw[EN];exact xq 0,by rw[EN];exact xq 0⟩
 |k+1,h=>by
  obtain⟨q,hq⟩:=z6 (l:=l) (i:=k) oM;have:=z6n b l k oM;rw[zTh b hq];split
  ·dsimp only;constructor<;>omega
  ·constructor<;>omega
def xDe (i:zz) (h:Kl.dp i):y1u i:=by
 obtain⟨hs,hl⟩:(i.s=1\/i.s=2)/\i.l.length<=1000000:=h;have uk:(i.l.map zL).length=i.l.length:=gy _;unfold y1u fa dx kM ZW dO uU dI;rw[uk];refine⟨i,rfl,rfl,⟨hs,hl⟩,λ_ _=>Cv.dp.mk (λc=> ?_) (λc=> ?_)⟩
 ·have e:qZ i.l i.s=(⟨0,0,0⟩,aq):=by rw[qZ,eg (by simpa using c)]
  rw[e];exact⟨(),gg⟩
 have e:qZ i.l i.s=(⟨(zZ i.l i.s).1.dm,(cO i.l (zZ i.l i.s).1).1,(cO i.l (zZ i.l i.s).1).2⟩,ar):=by rw[qZ,fc (by simpa using c)]
 rw[e];generalize (zZ i.l i.s).1=b;refine⟨0,iw ⟨rfl,λk=>k<=i.l.length,λk=>i.l.length-k,mi _,λk hk=>zH (λgn=> ?_) (λgn=> ?_)⟩⟩
 ·obtain⟨q,hq⟩:=z6 (l:=i.l) (i:=k) oM;have st:=zTh b hq;have bd:=z6n b i.l k hk;have hk:k<=i.l.length:=hk;refine⟨⟨oM,oM⟩,q.dm,q.dr,q.a.inst,q.a.side,q.b.inst,q.b.side,ju hq (by simp[zL]) rfl,Cv.dp.mk (λe=>⟨k+1,?_⟩) (λe=>⟨k+1,?_⟩)⟩
  ·rw[st,fc (by simpa using e)];exact⟨rfl,by dsimp only;rw[iq (by omega)],qy oM,tg ⟨rfl,Z9,Z9,trivial⟩⟩
  ·rw[st,eg (by simpa using e)];exact⟨rfl,rfl,qy oM,tg ⟨rfl,Z9,Z9,trivial⟩⟩
 ·have hk:k<=i.l.length:=hk;obtain rfl:k=i.l.length:=by omega
  rw[zr];exact⟨(),gg⟩
def yCr:Kl.ok Tryz.prog 95:=gu mixed (dw z6c fg) 0 (λ_=>[]) (λi=>y9w i) [] Tryz.func95 xDe
def V0 (p:ff) (B:List (List zK)):(yD p B).length=p.count:=by rw[yD,gy,List.length_range]
def zYs (p:ff) (B:List (List zK)) {j:Nat} (h:j<p.count):(yD p B)[j]? =aw (tD p B j 1,tD p B j 2):=by
 rw[yD,rf,LH h];rfl
def xDj (i:Fe) (h:F6.dp i):y3g i:=by
 obtain⟨hR,hB⟩:i.s.fv i.p i.B/\jb i.p i.B:=h;have wm:=xF i.p;have Ax:=hB.bl;have BN:i.s.nt:=hR.E9 oM;have si:vU (i.B.map qA):=hB.fh;have OA:=V0 i.p i.B;unfold y3g Qb fa dx gN Vh Qb fa hU cS kJ o7 gO dO gH ob qN zW o7 dI;refine⟨i.p,oF (iJ ⟨rfl,hB.ps,λ_ _=>Cv.dp.mk (λc=>absurd hB.pc (by simpa using c)) (λ_=>⟨i.s,rfl,BN,λ_ _=>⟨i.p,oF (iJ ⟨rfl,hB.ps,λ_ _=>⟨0,rfl,rfl,by rw[hR.fh],λj=>j<=i.p.count,λj=>i.p.count-j,mi _,λj hj=>zH (λgn=> ?_) (λgn=> ?_)⟩⟩)⟩⟩)⟩)⟩
 ·have gn:j<i.p.count:=by omega
  have ta:FY i.B (j:Int)=i.B.getD j []:=by rw[FY,eg (by omega),om]
  have hq:∀s,(xN ⟨i.p,i.B.map qA,j⟩ s).length<=1000000:=λs=>vz (zAr _ _) Z8
  refine⟨⟨Z8,Z8⟩,1,rfl,⟨i.s,i.p,i.B,j,aq⟩,rfl,rfl,rfl,⟨hR,Z9⟩,λ_ _=>⟨⟨⟨i.p,i.B.map qA,j⟩,aq⟩,iw (tg ⟨rfl,⟨hB.ps,si⟩,λ_ _=>⟨⟨xN ⟨i.p,i.B.map qA,j⟩ 1,1⟩,rfl,rfl,⟨.inl rfl,hq 1⟩,λ_ _=>⟨⟨Z8,Z8⟩,2,rfl,⟨i.s,i.p,i.B,j,ar⟩,rfl,rfl,rfl,⟨hR,Z9⟩,λ_ _=>⟨⟨⟨i.p,i.B.map qA,j⟩,ar⟩,iw (tg ⟨rfl,⟨hB.ps,si⟩,λ_ _=>⟨⟨xN ⟨i.p,i.B.map qA,j⟩ 2,2⟩,rfl,rfl,⟨.inr rfl,hq 2⟩,λ_ _=>⟨?_,j+1,qy oM,?_,rfl,Z9,Z9,rfl,gg⟩⟩⟩)⟩⟩⟩⟩)⟩⟩
  ·rw[gy,ng];omega
  ·rw[qx,zYs i.p i.B gn,Cb,jl,jj,B9];dsimp only;rw[ta];rfl
 ·have hj:j<=i.p.count:=hj;rw[mo (by omega)];exact⟨(),gg⟩
def I9:F6.ok Tryz.prog 37:=gu mixed (dw mV (dw yHd (dw fW (dw yDb (dw ZF (dw yCr fg)))))) 1 (λ_=>[]) (λi=>y0q i) [] Tryz.func37 xDj
def zYn {α:Type} {x y:List α} {k:Nat} {a b:α} (ha:x[k]? =aw a) (hb:y[k]? =aw b) (h:x.take k=y.take k) (e:a=b):x.take (k+1)=y.take (k+1):=by rw[qx,qx,h,ha,hb,e]
def PS (a b:Lv):(a.dm==b.dm && (a.dr==b.dr && (a.count==b.count && ar)))=decide (a=b):=by
 rw[Dc,decide_eq_true_iff];obtain⟨p,q,c⟩:=a;obtain⟨p2,q2,c2⟩:=b;simp
def xCs (i:WT) (h:KQ.dp i):y1q i:=by
 obtain⟨hx,hy⟩:i.x.length<=1099511627776/\i.y.length<=1099511627776:=h;have RU:(i.x.map ic).length=i.x.length:=gy _;have RT:(i.y.map ic).length=i.y.length:=gy _;unfold y1q dx wC kI QP dI;rw[RU,RT];refine Cv.dp.mk (λc=>⟨(),jt (λe=>by rw[e]at c;simp at c),trivial⟩) (λc=> ?_);have XF:i.x.length=i.y.length:=by have:(i.x.length:Int)=i.y.length:=(by simpa using c);omega
 refine⟨0,rfl,λk=>k<=i.x.length/\i.x.take k=i.y.take k,λk=>i.x.length-k,⟨mi _,rfl⟩,λk hk=>zH (λe=> ?_) (λe=> ?_)⟩
 ·obtain⟨Au,oU⟩:=hk;obtain⟨a,ha⟩:=z6 (l:=i.x) (i:=k) oM;obtain⟨b,hb⟩:=z6 (l:=i.y) (i:=k) oM;refine⟨aq,λt=>t= !decide (a=b),⟨⟨oM,oM⟩,a.dm,a.dr,a.count,ju ha (by simp[ic]) rfl,⟨oM,oM⟩,b.dm,b.dr,b.count,ju hb (by simp[ic]) rfl,_,rfl,?_,trivial⟩,?_⟩
  ·rw[PS a b]
  ·rintro _ rfl;refine Cv.dp.mk (λc=>⟨(),jt (λe2=> ?_),trivial⟩) (λc=>⟨k+1,by rw[iq (by omega)];rfl,⟨oM,zYn ha hb oU (by simpa using c)⟩,Z9,trivial⟩);have c:a≠b:=by simpa using c
   rw[e2]at ha;rw[ha]at hb;exact c (Option.some.inj hb)
 ·obtain⟨Au,oU⟩:=hk;rw[mo (by omega),mo (by omega)]at oU;exact⟨(),jk oU,trivial⟩
def yVh:KQ.ok Tryz.prog 149:=gu mixed fg 0 (λ_=>xCp) (λ_=>xAo) [] Tryz.func149 xCs
def xHs (i:P7) (h:Th.dp i):xCq i:=by
 obtain⟨⟨al,ai,ah⟩,⟨bl,bi,bh⟩⟩:=i;obtain⟨ha,hb⟩:al.length<=1099511627776/\bl.length<=1099511627776:=h;unfold xCq fa dx;refine⟨⟨al,bl⟩,rfl,rfl,⟨ha,hb⟩,λ_ _=>zH (λe=> ?_) (λe=>⟨(),jt (λx=>e (congrArg Sd.levels x)),trivial⟩)⟩;dsimp only;rw[PS];refine zH (λe2=>⟨(),?_,trivial⟩) (λe2=>⟨(),jt (λx=>e2 (congrArg Sd.imp x)),trivial⟩);have e:al=bl:=e;have e2:ai=bi:=e2;subst e e2;show decide ((⟨al,ai,ah⟩:Sd)=⟨al,ai,bh⟩)=(ah==bh);rw[Dc,decide_eq_true_iff,Hr];exact⟨λx=>congrArg Sd.has x,λx=>by have x:ah=bh:=x;rw[x]⟩
def y8q:Th.ok Tryz.prog 98:=gu mixed (dw yVh fg) 0 (λ_=>[]) (λ_=>[]) [] Tryz.func98 xHs
def NT {v:Vw} {k:Nat} {b:Sd×Sd} (h:v[k]? =aw b):zD (v.map zA) k 0 10=aw [D.ro 3 (b.1.levels.map ic),.v (.int .i64 b.1.imp.dm),.v (.int .i64 b.1.imp.dr),.v (.int .i64 b.1.imp.count),.v (.bool b.1.has),.ro 3 (b.2.levels.map ic),.v (.int .i64 b.2.imp.dm),.v (.int .i64 b.2.imp.dr),.v (.int .i64 b.2.imp.count),.v (.bool b.2.has)]/\
 zD (v.map zA) k 0 5=aw [D.ro 3 (b.1.levels.map ic),.v (.int .i64 b.1.imp.dm),.v (.int .i64 b.1.imp.dr),.v (.int .i64 b.1.imp.count),.v (.bool b.1.has)]/\
 zD (v.map zA) k 5 5=aw [D.ro 3 (b.2.levels.map ic),.v (.int .i64 b.2.imp.dm),.v (.int .i64 b.2.imp.dr),.v (.int .i64 b.2.imp.count),.v (.bool b.2.has)]:=
 ⟨ju h (by simp[zA]) rfl,ju h (by simp[zA]) rfl,ju h (by simp[zA]) rfl⟩
def xFv (i:Hh) (h:Tm.dp i):xEc i:=by
 obtain⟨⟨hv,hvs⟩,⟨hw,hws⟩⟩:xX i.v/\xX i.w:=h;have RU:(i.v.map zA).length=i.v.length:=gy _;have RT:(i.w.map zA).length=i.w.length:=gy _;unfold xEc QO fa dx wC kI QP Yz dI;rw[RU,RT];refine Cv.dp.mk (λc=>⟨(),jt (λe=>by rw[e]at c;simp at c),trivial⟩) (λc=> ?_);have XF:i.v.length=i.w.length:=by have:(i.v.length:Int)=i.w.length:=(by simpa using c);omega
 refine⟨0,rfl,λk=>k<=i.v.length/\i.v.take k=i.w.take k,λk=>i.v.length-k,⟨mi _,rfl⟩,λk hk=>zH (λe=> ?_) (λe=> ?_)⟩
 ·obtain⟨Au,oU⟩:=hk;obtain⟨a,ha⟩:=z6 (l:=i.v) (i:=k) oM;obtain⟨b,hb⟩:=z6 (l:=i.w) (i:=k) oM;have sa:=hvs a (ku ha);have sb:=hws b (ku hb);refine⟨⟨oM,oM⟩,_,_,_,_,_,_,_,_,_,_,(NT ha).1,⟨oM,oM⟩,_,_,_,_,_,_,_,_,_,_,(NT hb).1,aq,λt=>t= !decide (a=b),⟨⟨a.1,b.1⟩,ni (iJ ⟨rfl,⟨sa.1,sb.1⟩,λ_ _=>zH (λe1=>⟨⟨a.2,b.2⟩,ni (iJ ⟨rfl,⟨sa.2,sb.2⟩,λ_ _=>⟨_,rfl,?_,gg⟩⟩)⟩) (λe1=>⟨_,rfl,?_,gg⟩)⟩)⟩,?_⟩
  ·show(!decide (a.2=b.2))= !decide (a=b);rw[Dc,De,De,decide_eq_false_iff_not,decide_eq_false_iff_not];exact⟨λx y=>x (by rw[y]),λx y=>x (Prod.ext e1 y)⟩
  ·have e1:¬a.1=b.1:=e1;rw[jt λx=>e1 (congrArg Prod.fst x)]
  ·rintro _ rfl;refine Cv.dp.mk (λc=>⟨(),jt (λe2=> ?_),trivial⟩) (λc=>⟨k+1,by rw[iq (by omega)];rfl,⟨oM,zYn ha hb oU (by simpa using c)⟩,Z9,trivial⟩);have c:a≠b:=by simpa using c
   rw[e2]at ha;rw[ha]at hb;exact c (Option.some.inj hb)
 ·obtain⟨Au,oU⟩:=hk;rw[mo (by omega),mo (by omega)]at oU;exact⟨(),jk oU,trivial⟩
def y9o:Tm.ok Tryz.prog 96:=gu mixed (dw y8q fg) 1 (λ_=>xHl) (λ_=>xId) [] Tryz.func96 xFv
def y6u (i:Hh) (h:C2.dp i):ySe i:=by
 unfold ySe fa dx pA qK;exact⟨i,rfl,rfl,h,λ_ _=>⟨(),rfl,trivial⟩⟩
def Ha:C2.ok Tryz.prog 40:=gu mixed (dw y9o fg) 0 (λ_=>[]) (λ_=>[]) [] Tryz.func40 y6u
def Ze (q:Int):∀(A B:List VM),jY q (A++B)=jY q A++jY (q+A.length) B
 |[],B=>by simp[jY]
 |a::A,B=>by
  rw[ui,jY,jY,Ze,iC,ui];congr 3;omega
def UP (d:tn) (A B:List VM):(d.add A).add B=d.add (A++B):=by
 rw[tn.add,tn.add,tn.add,Ze,iv,iY];congr 1;dsimp only;omega
def y3t (i:IG) (h:GL.dp i):yNv i:=by
 obtain⟨h1,h2,h3⟩:i.d.ok 1:=h;unfold yNv dx dI;have e:av.wrap (i.d.seq+1)=i.d.seq+1:=iq oM;rw[e];exact⟨trivial,by rw[gy];omega,(),rfl,by rw[jl];rfl,trivial⟩
def yMl:GL.ok Tryz.prog 200:=gu mixed fg 0 (λ_=>[]) (λ_=>[]) [] Tryz.func200 y3t
def sD {s:Int}:∀(k:Nat) (X Y:List Lv),(x7 s k X Y).length<=k
 |0,X,Y=>by rw[x7];exact lh 0
 |k+1,[],[]=>by rw[x7];exact mi _
 |k+1,x::X,[]=>by rw[x7,iC];have:=sD (s:=s) k X [];omega
 |k+1,[],y::Y=>by rw[x7,iC];have:=sD (s:=s) k [] Y;omega
 |k+1,x::X,y::Y=>by
  have h1:=sD (s:=s) k X (y::Y);have h2:=sD (s:=s) k (x::X) Y;have h3:=sD (s:=s) k X Y;rw[x7];split
  ·rw[iC];omega
  split
  ·rw[iC];omega
  rw[iv];split
  ·simp only[rn];omega
  ·simp only[Ba];omega
def z9m (n:Nat) (s:Int) (a b:Sd):(xU n s a b).length<=a.levels.length+b.levels.length+1:=by
 have:=sD (s:=s) (a.levels.length+b.levels.length) a.levels b.levels;rw[xU,iv,gy];split
 ·rw[Ba];omega
 ·simp only[rn];omega
def z2a:∀(n j:Nat) {v w:Vw} {a b:Sd×Sd},v[j]? =aw a->w[j]? =aw b->xQ n (v.take (j+1)) (w.take (j+1))=xQ n (v.take j) (w.take j)++(xU (n+j) 1 a.1 b.1++xU (n+j) 2 a.2 b.2)
 |n,0,x::v,y::w,a,b,h1,h2=>by
  obtain rfl:x=a:=by simpa using h1
  obtain rfl:y=b:=by simpa using h2
  simp[xQ]
 |n,j+1,x::v,y::w,a,b,h1,h2=>by
  have:=z2a (n+1) j (v:=v) (w:=w) (a:=a) (b:=b) (by simpa using h1) (by simpa using h2);rw[ux,ux,ux,ux,xQ,xQ,this,iY,iY,iY,D' n 1 j,Ih 1 j]
 |_,0,[],_,_,_,h1,_=>by simp at h1
 |_,j+1,[],_,_,_,h1,_=>by simp at h1
 |_,0,_::_,[],_,_,_,h2=>by simp at h2
 |_,j+1,_::_,[],_,_,_,h2=>by simp at h2
def V8 {v:Vw} {j:Nat} {a:Sd×Sd} (h:v[j]? =aw a):Vw.pw (v.take (j+1))=Vw.pw (v.take j)+(a.1.levels.length+a.2.levels.length):=by
 rw[Vw.pw,Vw.pw,qx,h,Cb,jl,NX];simp
def yFw (v:Vw) (j:Nat):Vw.pw (v.take j)<=Vw.pw v:=by
 conv=>rhs;rw[<- Bb j v]
 rw[Vw.pw,Vw.pw,jl,NX];omega
def W9 (v w:Vw):∀j,j<=v.length->j<=w.length->(xQ 0 (v.take j) (w.take j)).length<=Vw.pw (v.take j)+Vw.pw (w.take j)+2*j
 |0,_,_=>by rw[EN,xQ];exact mi _;simp
 |j+1,h1,h2=>by
  obtain⟨a,ha⟩:=z6 (l:=v) (i:=j) oM;obtain⟨b,hb⟩:=z6 (l:=w) (i:=j) oM;have:=W9 v w j oM oM;have s1:=z9m (0+j) 1 a.1 b.1;have s2:=z9m (0+j) 2 a.2 b.2;rw[z2a 0 j ha hb,V8 ha,V8 hb,iv,iv];omega
def sJ (q:Int):∀M:List VM,(jY q M).length=M.length
 |[]=>rfl
 |m::M=>by rw[jY,iC,sJ,iC]
def Od (q:Int) (M:List VM) (m:VM):q+((M++[m]).length:Nat)=q+(M.length:Nat)+((1:Nat):Int):=by
 rw[iv,Ba];omega
def Oc (o:List gh) (q:Int) (M:List VM) (m:VM):(o++jY q (M++[m])).map zO=((o++jY q M)++jY (q+(M.length:Nat)) [m]).map zO:=by rw[Ze,iY]
def Ed (x:Lv) (X:List Lv):zD ((x::X).map ic) 0 0 1=aw [D.v (.int .i64 x.dm)]/\zD ((x::X).map ic) 0 0 3=aw [D.v (.int .i64 x.dm),.v (.int .i64 x.dr),.v (.int .i64 x.count)]:=⟨rfl,rfl⟩
def yMv (s:Int) (k:Nat):x7 s k [] []=[]:=by cases k<;>rw[x7]
def y4t (i:AD) (h:GM.dp i):yMs i:=by
 obtain⟨d,n,s,⟨al,ai,ah⟩,⟨bl,bi,bh⟩⟩:=i;obtain⟨h1,h2,h3⟩:tn.ok d (al.length+bl.length+1):=h;unfold yMs fa dx zLa ZQ zKx ZY VI zMb fa rO ZM sA jT bL bP nI fT cY bD nY dI;refine⟨⟨al,bl,[]⟩,rfl,rfl,by simp,by simp[jY],λj=>∃k,j.x.length+j.y.length<=k/\(x7 s (al.length+bl.length) al bl).map (λl=>(⟨n,s,l,aq⟩:VM))=j.M++(x7 s k j.x j.y).map (λl=>(⟨n,s,l,aq⟩:VM))/\k+j.M.length<=al.length+bl.length,λj=>j.x.length+j.y.length,⟨al.length+bl.length,lh _,rfl,lh _⟩,?_⟩;rintro⟨x,y,M⟩ ⟨k,hk,hM,hl⟩;dsimp only at hk hM hl ⊢;have hx:(x.map ic).length=x.length:=gy _;have hy:(y.map ic).length=y.length:=gy _;have Oj:tn.ok ⟨d.seq+(M.length:Nat),d.out++jY d.seq M⟩ 1:=⟨Z9,Z9,by dsimp only;rw[iv,sJ];omega⟩
 rw[hx,hy,iq (by omega)];refine zH (λc=> ?_) (λc=> ?_)
 ·obtain⟨k',rfl⟩:∃k',k=k'+1:=⟨k-1,oM⟩
  rcases x with _|⟨a,X⟩
  ·rcases y with _|⟨b,Y⟩
   ·exact absurd c (by simp)
   refine⟨aq,λt=>t=aq,Cv.dp.mk (λe=> ?_) (λ_=>Cv.dp.mk (λe=>absurd e (by simp)) (λ_=>⟨aq,rfl,rfl,gg⟩)),?_⟩
   ·exfalso;simp at e;omega
   rintro _ rfl;refine Cv.dp.mk (λc=>absurd c Z8) (λ_=>⟨aq,λt=>t=ar,Cv.dp.mk (λ_=>⟨ar,rfl,rfl,gg⟩) (λe=>absurd e (by simp)),?_⟩);rintro _ rfl;refine Cv.dp.mk (λ_=> ?_) (λc=>absurd c Z8);rw[iC]at hk;refine⟨⟨Z8,by rw[iC];omega⟩,b.dm,b.dr,b.count,(Ed b Y).2,⟨_,⟨n,s,b,aq⟩⟩,rfl,rfl,rfl,rfl,rfl,rfl,rfl,rfl,Oj,λ_ _=>⟨⟨Z8,by rw[iC];omega⟩,⟨[],Y,M++[⟨n,s,b,aq⟩]⟩,rfl,rfl,Od _ _ _,Oc _ _ _ _,⟨k',Z9,?_,by dsimp only;rw[iv,Ba];omega⟩,by dsimp only;rw[iC];omega,gg⟩⟩;rw[hM,x7,jj,iY];rfl
  rcases y with _|⟨b,Y⟩
  ·refine⟨aq,λt=>t=ar,Cv.dp.mk (λ_=>⟨ar,rfl,rfl,gg⟩) (λe=>absurd e (by simp)),?_⟩;rintro _ rfl;refine Cv.dp.mk (λ_=> ?_) (λc=>absurd c Z8);rw[iC]at hk;refine⟨⟨Z8,by rw[iC];omega⟩,a.dm,(Ed a X).1,⟨_,⟨n,s,⟨a.dm,0,0⟩,aq⟩⟩,rfl,rfl,rfl,rfl,rfl,rfl,rfl,rfl,Oj,λ_ _=>⟨⟨Z8,by rw[iC];omega⟩,⟨X,[],M++[⟨n,s,⟨a.dm,0,0⟩,aq⟩]⟩,rfl,rfl,Od _ _ _,Oc _ _ _ _,⟨k',by dsimp only;simp only[rn]at hk ⊢;omega,?_,by dsimp only;rw[iv,Ba];omega⟩,by dsimp only;rw[iC];omega,gg⟩⟩;rw[hM,x7,jj,iY];rfl
  rw[iC,iC]at hk;have la:(0:Int)<=0/\(0:Int)<((a::X).length:Nat):=⟨Z8,by rw[iC];omega⟩
  have lb:(0:Int)<=0/\(0:Int)<((b::Y).length:Nat):=⟨Z8,by rw[iC];omega⟩
  have la1:(0:Int)<=1/\(1:Int)<=((a::X).length:Nat):=⟨Z8,by rw[iC];omega⟩
  have lb1:(0:Int)<=1/\(1:Int)<=((b::Y).length:Nat):=⟨Z8,by rw[iC];omega⟩
  refine⟨aq,λt=>t=je s a.dm b.dm,Cv.dp.mk (λe=> ?_) (λ_=>Cv.dp.mk (λ_=>⟨la,a.dm,(Ed a X).1,lb,b.dm,(Ed b Y).1,⟨s,a.dm,b.dm⟩,rfl,rfl,rfl,trivial,λ_ _=>⟨_,rfl,rfl,gg⟩⟩) (λe=> ?_)),?_⟩
  ·exfalso;simp at e;omega
  ·exfalso;simp at e
  rintro _ rfl;refine Cv.dp.mk (λc1=> ?_) (λc1=> ?_)
  ·refine⟨la,a.dm,(Ed a X).1,⟨_,⟨n,s,⟨a.dm,0,0⟩,aq⟩⟩,rfl,rfl,rfl,rfl,rfl,rfl,rfl,rfl,Oj,λ_ _=>⟨la1,⟨X,b::Y,M++[⟨n,s,⟨a.dm,0,0⟩,aq⟩]⟩,rfl,rfl,Od _ _ _,Oc _ _ _ _,⟨k',by dsimp only;rw[iC];omega,?_,by dsimp only;rw[iv,Ba];omega⟩,by dsimp only;rw[iC,iC];omega,gg⟩⟩;rw[hM,x7,fc c1,jj,iY];rfl
  have c1:¬je s a.dm b.dm=ar:=by simp[c1]
  refine⟨aq,λt=>t=je s b.dm a.dm,Cv.dp.mk (λe=> ?_) (λ_=>⟨lb,b.dm,(Ed b Y).1,la,a.dm,(Ed a X).1,⟨s,b.dm,a.dm⟩,rfl,rfl,rfl,trivial,λ_ _=>⟨_,rfl,rfl,gg⟩⟩),?_⟩
  ·exfalso;simp at e;omega
  rintro _ rfl;refine Cv.dp.mk (λc2=> ?_) (λc2=> ?_)
  ·refine⟨lb,b.dm,b.dr,b.count,(Ed b Y).2,⟨_,⟨n,s,b,aq⟩⟩,rfl,rfl,rfl,rfl,rfl,rfl,rfl,rfl,Oj,λ_ _=>⟨lb1,⟨a::X,Y,M++[⟨n,s,b,aq⟩]⟩,rfl,rfl,Od _ _ _,Oc _ _ _ _,⟨k',by dsimp only;rw[iC];omega,?_,by dsimp only;rw[iv,Ba];omega⟩,by dsimp only;rw[iC,iC];omega,gg⟩⟩;rw[hM,x7,eg c1,fc c2,jj,iY];rfl
  have c2:¬je s b.dm a.dm=ar:=by simp[c2]
  by_cases Ds:a=b
  ·refine⟨⟨_,_⟩,rfl,rfl,λD=>D=⟨d.seq+(M.length:Nat),d.out++jY d.seq M⟩,⟨aq,λt=>t=aq,⟨la,a.dm,a.dr,a.count,(Ed a X).2,lb,b.dm,b.dr,b.count,(Ed b Y).2,_,rfl,by rw[PS,jk Ds];rfl,gg⟩,?_⟩,?_⟩
   ·rintro _ rfl;exact Cv.dp.mk (λc=>absurd c Z8) (λ_=>⟨_,rfl,rfl,rfl,gg⟩)
   rintro _ rfl;refine⟨la1,lb1,⟨X,Y,M⟩,iJ ⟨rfl,⟨k',Z9,?_,Z9⟩,by dsimp only;rw[iC,iC];omega,gg⟩⟩;rw[hM,x7,eg c1,eg c2,fc Ds];rfl
  ·refine⟨⟨_,_⟩,rfl,rfl,λD=>D=tn.add ⟨d.seq+(M.length:Nat),d.out++jY d.seq M⟩ [⟨n,s,b,aq⟩],⟨aq,λt=>t=ar,⟨la,a.dm,a.dr,a.count,(Ed a X).2,lb,b.dm,b.dr,b.count,(Ed b Y).2,_,rfl,by rw[PS,jt Ds];rfl,gg⟩,?_⟩,?_⟩
   ·rintro _ rfl;exact Cv.dp.mk (λ_=>⟨lb,b.dm,b.dr,b.count,(Ed b Y).2,⟨_,⟨n,s,b,aq⟩⟩,rfl,rfl,rfl,rfl,rfl,rfl,rfl,rfl,Oj,λ_ _=>⟨_,rfl,rfl,rfl,gg⟩⟩) (λc=>absurd c Z8)
   rintro _ rfl;refine⟨la1,lb1,⟨X,Y,M++[⟨n,s,b,aq⟩]⟩,rfl,rfl,Od _ _ _,Oc _ _ _ _,⟨k',Z9,?_,by dsimp only;rw[iv,Ba];omega⟩,by dsimp only;rw[iC,iC];omega,gg⟩;rw[hM,x7,eg c1,eg c2,eg Ds,jl,iY];rfl
 obtain rfl:x=[]:=xu oM;obtain rfl:y=[]:=xu oM;rw[yMv,B9,oJ]at hM;rw[PS];refine⟨aq,λt=>t=Ib ⟨al,ai,ah⟩ ⟨bl,bi,bh⟩,Cv.dp.mk (λe=>⟨ar,rfl,?_,gg⟩) (λe=>⟨_,rfl,?_,gg⟩),?_⟩
 ·have e:ai≠bi:=by simpa using e
  rw[Ib];simp[e]
 ·have e:ai=bi:=by simpa using e
  rw[Ib,e];cases ah<;>cases bh<;>simp
 rintro _ rfl;refine Cv.dp.mk (λe=>⟨bi,rfl,rfl,rfl,λl=>l=Cr ⟨bl,bi,bh⟩,Cv.dp.mk (λe2=>⟨Ce,rfl,rfl,rfl,?_,gg⟩) (λe2=>⟨bi,rfl,rfl,rfl,?_,gg⟩),?_⟩) (λe=> ?_)
 ·rw[Cr,eg (by simpa using e2)]
 ·rw[Cr,fc (by simpa using e2)]
 ·rintro _ rfl;have EU:xU n s ⟨al,ai,ah⟩ ⟨bl,bi,bh⟩=M++[⟨n,s,Cr ⟨bl,bi,bh⟩,ar⟩]:=by rw[xU,fc e,hM]
  rw[EU];exact⟨⟨_,⟨n,s,Cr ⟨bl,bi,bh⟩,ar⟩⟩,rfl,rfl,rfl,rfl,rfl,rfl,rfl,rfl,Oj,λ_ _=>⟨(),Od _ _ _,Oc _ _ _ _,trivial⟩⟩
 ·have EU:xU n s ⟨al,ai,ah⟩ ⟨bl,bi,bh⟩=M:=by rw[xU,eg (by simp[e]),hM,oJ]
  rw[EU];exact⟨(),rfl,rfl,trivial⟩
def yOh:GM.ok Tryz.prog 164:=gu mixed (dw yMl (dw ZR fg)) 0 (λ_=>y5d) (λi=>y6a i) [] Tryz.func164 y4t
def xEh (i:Kb) (h:KR.dp i):y1m i:=by
 obtain⟨hvw,⟨s1,s2⟩,l1,l2,hn⟩:i.v.length=i.w.length/\(-4000000000000000000<=i.seq/\i.seq<=4000000000000000000)/\Vw.pw i.v<=100000000/\Vw.pw i.w<=100000000/\i.v.length<=1000000:=h;have RU:(i.v.map zA).length=i.v.length:=gy _;have RT:(i.w.map zA).length=i.w.length:=gy _;unfold y1m QO fa dx hU bL bP rM VP sI zKs dI;rw[RU,RT];refine Cv.dp.mk (λc=> ?_) (λ_=> ?_)
 ·have c:(i.v.length:Int)≠i.w.length:=by simpa using c
  omega
 refine⟨0,rfl,by simp[xQ],by simp[xQ,jY],λj=>j<=i.v.length,λj=>i.v.length-j,mi _,λj hj=>zH (λe=> ?_) (λe=> ?_)⟩
 ·have hj:j<=i.v.length:=hj;obtain⟨a,ha⟩:=z6 (l:=i.v) (i:=j) oM;obtain⟨b,hb⟩:=z6 (l:=i.w) (i:=j) oM;have hd:=W9 i.v i.w j hj oM;have t1:=V8 ha;have t2:=V8 hb;have u1:=yFw i.v (j+1);have u2:=yFw i.w (j+1);have q1:=z9m j 1 a.1 b.1;have hvt:=z2a 0 j ha hb;rw[nh]at hvt;have bdv:(0:Int)<=j/\(j:Int)<(i.v.length:Nat):=⟨oM,e⟩
  have bdw:(0:Int)<=j/\(j:Int)<(i.w.length:Nat):=⟨oM,oM⟩
  obtain⟨D,hD⟩:∃D:tn,D=tn.add ⟨i.seq,[]⟩ (xQ 0 (i.v.take j) (i.w.take j)):=⟨_,rfl⟩
  have hDs:D.seq=i.seq+((xQ 0 (i.v.take j) (i.w.take j)).length:Nat):=by rw[hD];rfl
  have hDo:D.out=[]++jY i.seq (xQ 0 (i.v.take j) (i.w.take j)):=by rw[hD];rfl
  have hDl:D.out.length=(xQ 0 (i.v.take j) (i.w.take j)).length:=by rw[hDo,xi,sJ]
  refine⟨⟨Z8,Z8⟩,1,rfl,bdv,_,_,_,_,_,(NT ha).2.1,bdw,_,_,_,_,_,(NT hb).2.1,⟨D,j,1,a.1,b.1⟩,rfl,rfl,rfl,rfl,rfl,rfl,rfl,rfl,rfl,rfl,rfl,rfl,hDs,by rw[hDo],⟨Z9,Z9,Z9⟩,λ_ _=>⟨⟨Z8,Z8⟩,2,rfl,bdv,_,_,_,_,_,(NT ha).2.2,bdw,_,_,_,_,_,(NT hb).2.2,⟨D.add (xU j 1 a.1 b.1),j,2,a.2,b.2⟩,rfl,rfl,rfl,rfl,rfl,rfl,rfl,rfl,rfl,rfl,rfl,rfl,rfl,rfl,⟨by simp only[tn.add];omega,by simp only[tn.add];omega,by simp only[tn.add];rw[iv,sJ];omega⟩,λ_ _=>⟨j+1,qy oM,?_,?_,Z9,Z9,gg⟩⟩⟩
  ·show(tn.add ⟨i.seq,[]⟩ (xQ 0 (i.v.take (j+1)) (i.w.take (j+1)))).seq=((D.add (xU j 1 a.1 b.1)).add (xU j 2 a.2 b.2)).seq;rw[hvt,hD,UP,UP]
  ·show(tn.add ⟨i.seq,[]⟩ (xQ 0 (i.v.take (j+1)) (i.w.take (j+1)))).out.map zO=((D.add (xU j 1 a.1 b.1)).add (xU j 2 a.2 b.2)).out.map zO;rw[hvt,hD,UP,UP]
 ·have hj:j<=i.v.length:=hj;rw[mo (by omega),mo (by omega)];exact⟨(),rfl,trivial⟩
def yOx:KR.ok Tryz.prog 114:=gu mixed (dw yOh fg) 1 (λ_=>[]) (λi=>xFq i) [] Tryz.func114 xEh
def xEm (m:gh) (h:F5.dp m):y0o m:=by
 unfold y0o DA J' OI fa dx ZG V4 ZZ zLl dI;refine⟨aq,λb=>b=decide (m.inst<0\/255<m.inst\/(m.side≠1/\m.side≠2)),zH (λe=>⟨ar,rfl,(jk (.inl e)).symm,gg⟩) (λe=>zH (λe2=>⟨ar,rfl,(jk (.inr (.inl e2))).symm,gg⟩) (λe2=>Cv.dp.mk (λe3=>⟨_,rfl,?_,gg⟩) (λe3=>⟨_,rfl,?_,gg⟩))),?_⟩
 ·have e3:m.side≠1:=by simpa using e3
  show(m.side !=2)=decide _;rw[Dc,decide_eq_true_iff,bne_iff_ne];exact⟨λx=> .inr (.inr ⟨e3,x⟩),λx=>((x.resolve_left e).resolve_left e2).2⟩
 ·have e3:m.side=1:=by simpa using e3
  exact(jt λx=>((x.resolve_left e).resolve_left e2).1 e3).symm
 rintro _ rfl;refine zH (λe=> ?_) (λe=> ?_)
 ·have hf:m.form=12:=by rw[gh.form,fc e]
  exact⟨(),by rw[gh.enc,fc (by rw[hf];decide)];rfl,hf,trivial⟩
 have hf:m.form=0:=by rw[gh.form,eg e]
 have he:m.enc=m.body:=by rw[gh.enc,eg (by simp[hf])]
 refine⟨(),trivial,λ_ _=>⟨⟨[],m.seq⟩,rfl,rfl,by simp[WN.ok],λ_ _=>⟨⟨_,m.inst⟩,rfl,rfl,by simp[WN.ok,y7],λ_ _=>⟨⟨_,m.side⟩,rfl,rfl,by simp[WN.ok,y7],λ_ _=>⟨⟨_,m.dm⟩,rfl,rfl,by simp[WN.ok,y7],λ_ _=>⟨⟨_,m.dr⟩,rfl,rfl,by simp[WN.ok,y7],λ_ _=>⟨⟨_,m.count⟩,rfl,rfl,by simp[WN.ok,y7],λ_ _=>⟨0,λx=>x=if m.fx=ar then 1 else 0,Cv.dp.mk (λe=>⟨1,rfl,by rw[fc e],gg⟩) (λe=>⟨0,rfl,by rw[eg (by simp[e])],gg⟩),?_⟩⟩⟩⟩⟩⟩⟩⟩;rintro _ rfl;refine⟨⟨_,if m.fx=ar then 1 else 0⟩,rfl,rfl,by simp[WN.ok,y7],λ_ _=>⟨_,rfl,by simp[y7],λ_ _=>⟨(),?_,hf,trivial⟩⟩⟩;rw[he,gh.body];simp
def I8:F5.ok Tryz.prog 34:=gu mixed (dw Pd (dw UD (dw Pq (dw Ph fg)))) 0 (λ_=>xDc) (λ_=>[]) [] Tryz.func34 xEm
@[reducible] def vO:Nat:=180
@[reducible] def EO:Nat:=177
def Ae:fy:=fi (List (List D)) (λl=>[ot 10 l]) (λ_=>[]) (λl=>l.length*112<=140737488355328) (λ_=> .own 0) (λl=>[.own vO 10 l])
def Ai:fy:=fi (List (List D)) (λl=>[ot 3 l]) (λ_=>[]) (λl=>l.length*24<=140737488355328) (λ_=> .own 0) (λl=>[.own EO 3 l])
structure oX where
 v:Vw
 n:Nat
 s:Bool
def xHw (s:Bool) (p:Sd×Sd):Sd:=bif s then p.2 else p.1
def Lr (v:Vw) (n:Nat) (s:Bool):Sd:=match v[n]? with
 |some p=>xHw s p
 |none=>⟨[],Ce,aq⟩
def oX.f (i:oX):Nat:=bif i.s then 5 else 0
def oX.lv (i:oX):List (List D):=(Lr i.v i.n i.s).levels.map ic
def GI:fy:=fi oX (λi=>[zw i.v]) (λ_=>[]) (λi=>i.n<i.v.length/\i.v.length<=1000000/\xX i.v) (λ_=> .agg [.own 0])
 (λi=>[.ug ar vO 10 (i.v.map zA) i.n i.f ar (aw 1),.own EO 3 i.lv])
def y5a (i:oX):List gm:=[
 {ι:=Nat,du:=λj=>[(1,.nm 0 0),(12,zB j)],rows:=λj=>[.cells [.own 1] 89,.ug aq vO 10 (i.v.map zA) i.n i.f (decide (i.n<j)) (aw 2),.own EO 3 (bif decide (i.n<j)then i.lv else[])]},
 {ι:=Unit,du:=λ_=>[],rows:=λ_=>[],un:=3}]
def gh.iL (k:Int) (m:gh):Int:=if m.inst<0\/k<=m.inst then 20 else if m.side≠1/\m.side≠2 then 21 else if(m.dr<0\/m.count<0)\/¬(m.dr=0↔m.count=0)then 24 else 0
structure Me where
 k:Int
 m:gh
def M3:fy:=fi Me (λi=>[zB i.k,Ic i.m]) (λ_=>[]) (λ_=>True) (λi=>zB (i.m.iL i.k)) (λ_=>[])
structure vp where
 L:List Lv
 m:gh
def oI:Option Nat->Int
 |some k=>k
 |none=> -1
def P' (m:gh):fj:= .cells [zB m.seq,zB m.inst,zB m.side,zB m.dm,zB m.dr,zB m.count,yL m.fx] wY
def ixA:List gm:=[{ι:=Nat,du:=λk=>[(8,zB k)],rows:=λ_=>[]}]
def S2:fy:=fi vp (λi=>[.own 0,.fn 184 [] [.nm 1 0]]) (λi=>[.own EO 3 (i.L.map ic),P' i.m]) (λi=>i.L.length<=1099511627776) (λi=>zB (oI (i.L.findIdx? λy=>decide (y.dm=i.m.dm)))) (λi=>[.own EO 3 (i.L.map ic),P' i.m])
def S3:fy:=fi vp (λi=>[.own 0,.fn 186 [] [.nm 1 0]]) (λi=>[.own EO 3 (i.L.map ic),P' i.m]) (λi=>i.L.length<=1099511627776) (λi=>zB (oI (i.L.findIdx? λy=>xH i.m.side i.m.dm y.dm))) (λi=>[.own EO 3 (i.L.map ic),P' i.m])
def Ui:fy:=WV EO 3
def TP:fy:=NS EO 3 24
structure El where
 v:Vw
 m:gh
def gh.lv (m:gh):Lv:=⟨m.dm,m.dr,m.count⟩
def A1 (s:Int) (x:Sd) (m:gh):Sd:=if m.fx=ar then(if 0<m.dr then⟨x.levels,m.lv,ar⟩else⟨x.levels,Ce,aq⟩)else⟨jQ s x.levels m.lv,x.imp,x.has⟩
def sm (v:Vw) (m:gh):Vw:=v.modify m.inst.toNat λp=>if m.side=1 then(A1 1 p.1 m,p.2)else(p.1,A1 2 p.2 m)
def xBc (s:Int):fy:=fi El (λi=>[zw i.v,.agg [zB i.m.seq,zB i.m.inst,zB s,zB i.m.dm,zB i.m.dr,zB i.m.count,yL i.m.fx]]) (λ_=>[])
 (λi=>i.m.side=s/\i.m.iL i.v.length=0/\i.v.length<=1000000/\xX i.v) (λi=> .iZ [zw (sm i.v i.m),zB 0]) (λ_=>[])
def My:fy:=xBc 1
def Mx:fy:=xBc 2
def C3:fy:=fi El (λi=>[zw i.v,Ic i.m]) (λ_=>[]) (λi=>i.m.iL i.v.length=0/\i.v.length<=1000000/\xX i.v) (λi=> .iZ [zw (sm i.v i.m),zB 0]) (λ_=>[])
end Sx
