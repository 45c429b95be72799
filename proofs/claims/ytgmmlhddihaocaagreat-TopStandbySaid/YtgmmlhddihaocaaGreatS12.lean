/- Texts of ours. No condition. -/
import Derived.Maps.RangeRun
import Derived.Test.YtgmmlhddihaocaaGreatS11
set_option linter.all false
open Sx.fi renaming cells->aa,map->ab,own->ac,qw->ae,jc->af,jz->ag
open Go.IntKind renaming i64->aj
open Go.Value renaming int->ak
open Go renaming MapEntry->am,TypeId->ao,Value->ap,World->aq
open List renaming map->ar,map_singleton->au,length->av
open Bool renaming true->aw,false->ax
open Option renaming some->ay,none->az
open List.Perm renaming swap->ba,cons->bc
namespace Sx
set_option maxRecDepth 100000
open Go Cv Go.Proofs
def yt (f:Int->Int) (k v:Int):Int->Int:=λx=>if x=k then v else f x
def one (r:fq) (m:Int):Int:=if r.kind=3/\r.inst=m then(if r.side=1 then r.dr else-r.dr)else 0
def vq (p:ff) (k s q m:Int):Int:=
 if(p.gj k).2.2=aw then(if(p.gj k).1=m then(if s=1 then q else-q)else 0)-(if(p.gj k).2.1=m then(if s=1 then q else-q)else 0)
 else if k=m then(if s=1 then q else-q)else 0
def zTk {p:ff} (hc:p.check=0):1<=p.count/\p.count<=21:=by
 have h1:=Ti hc;have h2:=(qS hc).m2;have h3:=xS p;omega
def yRl (c:ir):1<=uC c/\uC c<=4:=by
 have:=yW (n:=c.kind) (lo:=0) (hi:=8) oM;rw[uC];split<;>omega
def yDg (t:xo):(y5 t).kind=uC t.c:=by
 rw[y5];split<;>rfl
def yLo (t:xo):1<=(y5 t).dr/\(y5 t).dr<=12:=by
 have:=yW (n:=t.c.dr) (lo:=0) (hi:=11) oM;have e:(y5 t).dr=1+zG t.c.dr 0 11:=by rw[y5];split<;>rfl
 omega
def sM (t:xo):(y5 t).label=[]:=by
 rw[y5];split<;>rfl
def z3r (x:ff) (c:ir) (i:Int) (hk:uC c=1):let y:=y5 ⟨ie x,c,i⟩
 (0<=y.inst/\y.inst<(ie x).count)/\(y.side=1\/y.side=2)/\(1<=y.time/\y.time<=3)/\(0<=y.least/\y.least<=y.dr)/\(-2000000<=y.dk/\y.dk<=2000000)/\(ie x).dk y.inst y.dk=0:=by
 have hc:=nP x;have hcb:=zTk hc;have ht:=To x;have wi:=yW (n:=c.inst) (lo:=0) (hi:=((ie x).count:Int)-1) oM;have ws:=yW (n:=c.side) (lo:=0) (hi:=1) oM;have wq:=yW (n:=c.dr) (lo:=0) (hi:=11) oM;have wp:=yW (n:=c.dk) (lo:=0) (hi:=9) oM;have ww:=yW (n:=x.wide) (lo:=0) (hi:=60) oM;have wl:=yW (n:=c.least) (lo:=0) (hi:=1+zG c.dr 0 11) oM;have hm:=IM (a:=zS x) (b:=zG c.dk 0 9) (m:=zS x) (n:=9) oM wp;have hw:=IM (a:=zS x) (b:=zG x.wide 0 60) (m:=zS x) (n:=60) oM ww;have hh:(y6 ⟨ie x,c,i⟩).kind=1:=hk;have e:y5 ⟨ie x,c,i⟩={y6 ⟨ie x,c,i⟩with id:=i+1,time:=dH c,least:=cZ c (1+zG c.dr 0 11),dk:=if((ie x).gj (zG c.inst 0 ((ie x).count-1))).2.2=aw then zS x*zG c.dk 0 9-4*zS x else zS x*zG c.dk 0 9+8*zS x}:=by
  rw[y5,fh hh];rfl
 intro y;have ey:y=_:=e;rw[ey];have htm:1<=dH c/\dH c<=3:=by rw[dH];split;omega;split<;>omega
 have hle:0<=cZ c (1+zG c.dr 0 11)/\cZ c (1+zG c.dr 0 11)<=1+zG c.dr 0 11:=by rw[cZ];split<;>omega
 refine⟨⟨wi.1,by show zG c.inst 0 ((ie x).count-1)<_;omega⟩,by show 1+zG c.side 0 1=1\/1+zG c.side 0 1=2;omega,htm,hle,?_,?_⟩
 ·dsimp only;split<;>omega
 ·dsimp only;show(ie x).dk (zG c.inst 0 ((ie x).count-1)) _=0;obtain⟨k,rn⟩:∃k:Nat,zG c.inst 0 (((ie x).count:Int)-1)=k:=⟨(zG c.inst 0 (((ie x).count:Int)-1)).toNat,oM⟩
  rw[rn]at wi ⊢;have hkc:k<(ie x).count:=by omega
  have et:(ie x).tick=zS x:=rfl;have el:(ie x).low= -20*zS x:=rfl;have eh:(ie x).high=100*zS x:=rfl;have ew:(ie x).wide=zS x*(5+zG x.wide 0 60):=rfl;rw[Int.mul_add]at ew;rw[ff.dk,fb (by omega),fb (by omega),et,el,eh,ew];rcases fC hc hkc with⟨h1,_⟩|⟨h1,h2⟩
  ·have K4:((ie x).dm.length:Int)<=k:=by
    rcases ur k (ie x).dm.length with y|y
    ·rw[ff.gj,fb (by omega),fh (by omega)]at h1;cases h1
    ·omega
   rw[fh h1,fh K4,fh K4,fb,fb (by omega)];have:zS x*zG c.dk 0 9-4*zS x=zS x*(zG c.dk 0 9-4):=by rw[Int.mul_sub,EH 4]
   rw[this,MI];decide
  ·have gv:¬((ie x).dm.length:Int)<=k:=by omega
   rw[fb (show ¬((ie x).gj k).2.2=aw by rw[h1];decide),fb gv,fb gv,fb,fb (by omega)];have:zS x*zG c.dk 0 9+8*zS x=zS x*(zG c.dk 0 9+8):=by rw[Int.mul_add,EH 8]
   rw[this,MI];decide
def zOf (x:ff) (c:ir) (i:Int): -2000000<=(y5 ⟨ie x,c,i⟩).dk/\(y5 ⟨ie x,c,i⟩).dk<=2000000:=by
 have ht:=To x;have wp:=yW (n:=c.dk) (lo:=0) (hi:=9) oM;have hm:=IM (a:=zS x) (b:=zG c.dk 0 9) (m:=zS x) (n:=9) oM wp;have et:(ie x).tick=zS x:=rfl;by_cases h1:uC c=1
 ·obtain⟨_,_,_,_,h,_⟩:=z3r x c i h1;exact h
 ·have hh:¬(y6 ⟨ie x,c,i⟩).kind=1:=h1;have e:(y5 ⟨ie x,c,i⟩).dk=if(y6 ⟨ie x,c,i⟩).kind=4 then zS x*zG c.dk 0 9+5*zS x else zS x*zG c.dk 0 9:=by rw[y5,fb hh];rfl
  rw[e];split<;>omega
def z5p (x:ff) (c:ir) (i id:Int) (AR:1<=id/\id<=1099511627776):ir.right {y5 ⟨ie x,c,i⟩with id:=id}=0:=by
 have hk:=yRl c;have hq:=yLo ⟨ie x,c,i⟩;have hp:=zOf x c i;have hcb:=zTk (nP x);rw[ir.right];dsimp only;rw[yDg];dsimp only;rw[fb (by omega),fb (by omega)];have q1:kL (y5 ⟨ie x,c,i⟩).dr=aw:=by rw[kL,lg (by omega),lg (by omega)];rfl
 have q2:vU (y5 ⟨ie x,c,i⟩).dk=aw:=by rw[vU,lg (by omega),lg (by omega)];rfl
 by_cases h1:uC c=1
 ·obtain⟨a1,a2,a3,a4,a5,a6⟩:=z3r x c i h1;rw[fh h1,ir.gg];dsimp only;rw[fb (by omega),fb (by omega),fb (by rw[q1];decide),fb (by omega),fb (by rw[sM];simp),fb (by rw[q2];decide),fb (by omega)]
 ·rw[fb h1,fb (by rw[q1];simp),fb (by rw[q2];simp)]
def dL (W:List (Int×Int)) (id:Int):Int×Bool:=match W.find? λx=>decide (x.1=id)with
 |some x=>(x.2,aw)
 |none=>(0,ax)
def IF:List (Int×Int)->Int->Int->List (Int×Int)
 |[],id,s=>[(id,s)]
 |x::W,id,s=>if id=x.1 then(x.1,s)::W else x::IF W id s
def yMw (x:Int×Int) (W:List (Int×Int)) (id:Int):dL (x::W) id=if id=x.1 then(x.2,aw)else dL W id:=by
 rw[dL,MX];by_cases c:id=x.1
 ·rw[fh c,lg c.symm]
 ·rw[fb c,ku (λe=>c e.symm)];rfl
structure P2 where
 B:List (List zI)
 U:List Int
 W:List (Int×Int)
 O:List (Int×fq)
def MN (B:List (List zI)) (U:List Int) (W:List (Int×Int)) (s id oY:Int):P2:=⟨B,U,W,[(s,⟨2,id,0,0,0,0,0,oY⟩)]⟩
def rF (s:Int):List (Int×Int)->List fq->List (Int×Int)×List (Int×fq)
 |W,[]=>(W,[])
 |W,r::R=>
  let W1:=if r.kind=1 then IF W r.id s else W
  ((rF s W1 R).1,(if r.kind=2 then s else(dL W1 r.id).1,r)::(rF s W1 R).2)
def II (B:List (List zI)) (W:List (Int×Int)) (s:Int):Nat:=(sc 0 B).countP λx=>decide ((dL W x.1).1=s)
def Md (p:ff) (B:List (List zI)) (U:List Int) (W:List (Int×Int)) (s:Int) (c:ir):P2:=
 if c.kind=1/\64<=II B W s then MN B U W s c.id 30
 else if c.kind≠1/\((dL W c.id).2=ax\/(dL W c.id).1≠s)then MN B U W s c.id 26
 else⟨(AS p B U c).B,(AS p B U c).U,(rF s W (AS p B U c).R).1,(rF s W (AS p B U c).R).2⟩
def bW (p:ff) (B:List (List zI)) (U:List Int) (W:List (Int×Int)) (s:Int) (b:List UInt8):P2:=
 if s<0\/8<=s then MN B U W s 0 1 else if(xL b).2≠0 then MN B U W s 0 (xL b).2 else Md p B U W s (xL b).1
def yAk (p:ff) (x:wC) {r:fq} (hr:r.kind=3):∀y∈nW p x r,y.kind=3:=by
 intro y hy;rw[nW,mn]at hy;rcases hy with rfl|hy
 ·exact hr
 ·split at hy
  ·rw[N8]at hy;simp only[mn,M0,or_false]at hy;rcases hy with rfl|rfl<;>exact hr
  ·cases hy
def z0g (p:ff) (c:ir):∀(l:List wC) (q:Int),∀y∈m7 p c l q,y.kind=3
 |[],_,y,hy=>by cases hy
 |x::l,q,y,hy=>by
  rw[m7,pz]at hy;rcases hy with hy|hy
  ·rw[nN,pz]at hy;rcases hy with hy|hy
   ·obtain⟨f,_,hy⟩:=AL.1 hy;exact yAk p x rfl y hy
   ·exact yAk p x rfl y hy
  ·exact z0g p c l _ y hy
def z2m (p:ff) (B:List (List zI)) (U:List Int) (c:ir):(∀r∈(bS p B U c).R,r.kind=1->r.id=c.id)/\∃r l,(bS p B U c).R=r::l/\r.kind=1/\r.id=c.id:=by
 rw[T6];dsimp only;refine⟨λr hr hk=> ?_,_,_,rfl,rfl,rfl⟩;rw[uc,mn,pz]at hr;rcases hr with rfl|hr|hr
 ·rfl
 ·have:=z0g _ _ _ _ r hr;omega
 ·split at hr
  ·rw[vm]at hr;subst hr;rfl
  ·cases hr
def z8r:∀{l m:List Nat},l.Nodup->(∀x∈l,x∈m)->l.length<=m.length
 |[],m,_,_=>mz _
 |a::l,m,h,hs=>by
  rw[zk]at h;have ha:=hs a jm;have:=z8r (l:=l) (m:=m.erase a) h.2 λx hx=>(List.mem_erase_of_ne (λe=>h.1 (by rw[<- e];exact hx))).2 (hs x (kg _ hx))
  rw[List.length_erase_of_mem ha]at this;have:=List.length_pos_of_mem ha;rw[iJ];omega
structure Handed (fy:List am) (seen:Array Nat) (dn:List am):Prop where
 sn:seen.toList=dn.map (·.born)
 nd:(dn.map (·.born)).Nodup
 sub:∀e∈dn,e∈fy
def Handed.push {fy:List am} {seen:Array Nat} {dn:List am} (h:Handed fy seen dn) {e:am} (he:e∈(leftOf fy.toArray seen).toList):Handed fy (seen.push e.born) (dn++[e]):=by
 simp only[leftOf,Array.toList_filter,uu,EM]at he;obtain⟨h1,h2⟩:=he;have h3:e.born∉dn.map (·.born):=by
  rw[<- h.sn];intro hm;have:seen.contains e.born=aw:=by
   rw[Array.contains_iff_mem];exact Array.mem_toList_iff.1 hm
  rw[this]at h2;cases h2
 refine⟨by rw[Array.toList_push,h.sn,jr];rfl,?_,λx hx=> ?_⟩
 ·rw[jr,au,Af];exact⟨h.nd,by simp,λx hx y hy e=>by rw[vm]at hy;subst hy;subst e;exact h3 hx⟩
 ·rcases pz.1 hx with hx|hx
  ·exact h.sub x hx
  ·rw[vm]at hx;subst hx;exact h1
def Handed.len {fy:List am} {seen:Array Nat} {dn:List am} (h:Handed fy seen dn):dn.length<=fy.length:=by
 have:=z8r (m:=fy.map (·.born)) h.nd λx hx=>by
  obtain⟨e,he,rfl⟩:=pj.1 hx;exact tc (f:=(·.born)) (h.sub e he)
 simpa using this
def Handed.all {fy:List am} {seen:Array Nat} {dn:List am} (h:Handed fy seen dn) (hn:(fy.map (·.born)).Nodup) (h0:(leftOf fy.toArray seen).size=0):dn.Perm fy:=by
 have inj:∀{l:List am},(l.map (·.born)).Nodup->∀x∈l,∀y∈l,x.born=y.born->x=y:=by
  intro l hl
  induction l with
  |nil=>intro x hx;cases hx
  |cons a l ih=>
   rw[jx,zk]at hl;intro x hx y hy e;rcases mn.1 hx with e1|h1<;>rcases mn.1 hy with e2|h2
   ·rw[e1,e2]
   ·refine absurd ?_ hl.1;rw[<- e1,e];exact tc (f:=(·.born)) h2
   ·refine absurd ?_ hl.1;rw[<- e2,<- e];exact tc (f:=(·.born)) h1
   ·exact ih hl.2 x h1 y h2 e
 have nd:∀{l:List am},(l.map (·.born)).Nodup->l.Nodup:=λhl=>List.Pairwise.imp (λji e=>ji (by rw[e])) (List.pairwise_map.1 hl)
 refine(List.perm_ext_iff_of_nodup (nd h.nd) (nd hn)).2 λe=>⟨h.sub e,λhe=> ?_⟩
 have:seen.contains e.born=aw:=by
  cases hc:seen.contains e.born with
  |true=>rfl
  |false=>
   have hm:e∈(leftOf fy.toArray seen).toList:=by
    simp only[leftOf,Array.toList_filter,uu];exact⟨he,by rw[hc];rfl⟩
   have:(leftOf fy.toArray seen).toList=[]:=yh (by simpa using h0);rw[this]at hm;cases hm
 rw[Array.contains_iff_mem]at this;have:=Array.mem_toList_iff.2 this;rw[h.sn]at this;obtain⟨x,hx,e2⟩:=pj.1 this;rw[<- inj hn x (h.sub x hx) e he e2];exact hx
def ZC (k:Ko) (LL:List HP) (fy:List am) (e:Ending) (w':aq):Prop:=∃(a:Option Addr) (n c:Nat) (xs:List ap) (dn:List am),e=.returned (.slice a n c)/\xs=dn.map (·.key)/\n=dn.length/\dn.Perm fy/\Hp k w' (oq 2 1 a n c xs::LL)
def yNo (k:Ko) (LL:List HP) (fy:List am) (r bm ck:Nat) (v:ap) (w1:aq):Prop:=∃(a:Option Addr) (n c:Nat) (xs:List ap) (seen:Array Nat) (c0:Nat) (dn:List am),v=.slice a n c/\xs=dn.map (·.key)/\n=dn.length/\ck<=c0/\Handed fy seen dn/\Hp k w1 (oq 2 1 a n c xs::pt r (.mapIter (ay bm) ck seen c0)::LL)
def yKr (fy:List am) (v:ap) (_:aq):Nat:=match v with| .slice _ n _=>fy.length-n|_=>0
def yFe {b bm ck:Nat} {fy:List am} {w:aq} {k:Ko} {LL:List HP} {l:List ap} {T:ao}
 (H:Hp k w LL) (tr:∀w',Hp k w' LL->w'.heap[b]? =ay (.cells l.toArray T)/\w'.heap[bm]? =ay (.map fy.toArray ck)) (hl:l[12]? =ay (.map (ay bm)))
 (hck:∀e∈fy,e.born<ck) (hn:(fy.map (·.born)).Nodup) (hk:∀e∈fy,∃n,e.key= .int .i64 n) (oZ:fy.length<=1000000):
 Calls Tryz.prog 193 #[.pointer (ay ⟨b,0,az⟩)] w (ZC k LL fy):=by
 refine uq (c:=Tryz.f193.body.getD .skip) (args:=[.pointer (ay ⟨b,0,az⟩)]) mixed Tryz.func193 (by kernel_rfl) [{ι:=ap,PZ:=λv=>[(3,v)],fix:=[9]}] (by kernel_rfl) (by kernel_rfl) (by kernel_rfl) ?_;obtain⟨h1,h2⟩:=tr w H;have hu:Tryz.prog.underlying 100=ay (.map 2 3):=by kernel_rfl
 refine⟨ay bm,?_,ay ⟨w.heap.size,0,az⟩,w.alloc (.mapIter (ay bm) ck #[] ck),?_,?_⟩
 ·show nX Tryz.prog 100 ⟨b,12,az⟩ w (.map (ay bm));exact vC (by kernel_rfl) h1 hl
 ·show(Instr.range 100 (.map (ay bm))).run Tryz.prog w=_;exact run_range_map w _ _ _ bm _ ck hu h2
 refine⟨yNo k LL fy w.heap.size bm ck,yKr fy,⟨.slice az 0 0,rfl,az,0,0,[],#[],ck,[],rfl,rfl,rfl,lk _,⟨rfl,List.nodup_nil,λe he=>by cases he⟩,(H.new _).nil _ _⟩,?_⟩;rintro j v w1 ⟨a,n,c,xs,seen,c0,dn,rfl,vp,Pq,Nx,hh,H1⟩;have hr:=H1.drop.get;obtain⟨-,g2⟩:=tr w1 H1.drop.drop;rcases run_next_at (P:=Tryz.prog) w1 0 w.heap.size bm ck c0 seen fy.toArray ck hr g2 (λx hx=>hck x (by simpa using hx)) Nx with⟨e1,e2⟩|⟨e,he,w2,hw2,jk⟩
 ·refine .inl ⟨w1,e2,?_⟩;show ZC k LL fy (.returned (.slice a n c)) w1;exact⟨a,n,c,xs,dn,rfl,vp,Pq,hh.all hn e1,(H1.swap).drop⟩
 ·have tu:e∈fy:=by
   have:=he;simp only[leftOf,Array.toList_filter,uu]at this;exact this.1
  obtain⟨m,hm⟩:=hk e tu;have hp:=hh.push he;have H2:Hp k (World.iX w2 w.heap.size (.mapIter (ay bm) ck (seen.push e.born) ck)) (oq 2 1 a n c xs::pt w.heap.size (.mapIter (ay bm) ck (seen.push e.born) ck)::LL):=by
   have H1':Hp k w2 (oq 2 1 a n c xs::pt w.heap.size (.mapIter (ay bm) ck seen c0)::LL):=by
    rcases hw2 with rfl|rfl
    ·exact H1
    ·exact H1.drew
   exact((H1'.swap).yt _).swap
  have qh:Go.ChangeMaps.setBlock w2 w.heap.size (.mapIter (ay bm) ck (seen.push e.born) ck)=World.iX w2 w.heap.size (.mapIter (ay bm) ck (seen.push e.born) ck):=rfl;rw[qh]at jk;generalize U8:World.iX w2 w.heap.size (.mapIter (ay bm) ck (seen.push e.born) ck)=w3 at H2 jk;obtain⟨-,g3⟩:=tr w3 H2.drop.drop;have DV:=run_entry_at (P:=Tryz.prog) w3 w.heap.size bm ck seen fy.toArray ck e H2.drop.get g3 (by simpa using tu) (by simpa using hn);refine .inr ⟨e.key,e.val,w3,jk,.tuple #[e.key,e.val],DV,?_⟩;rw[hm];have hlen:=hp.len;rw[iv,AN]at hlen;refine Eq.mp (α:=KK w3 (.cells #[.int .i64 m] 2) λbb w4=>∃(a':Option Addr) (n' c':Nat),∃w5,gH Tryz.prog (Builtin.append_ #[23,23] 23 #[.slice a n c,.slice (ay ⟨bb,0,az⟩) 1 1]) w4 (.slice a' n' c') w5/\∃i',.slice a' n' c'=i'/\yNo k LL fy w.heap.size bm ck i' w5/\yKr fy i' w5<yKr fy (.slice a n c) w1) (by kernel_rfl) ?_;rintro bb w4 hb hw4;subst hb hw4;have H3:=(H2.new (.cells [ak .i64 m].toArray 2)).lit (sz:=1) (n:=1) rfl;obtain⟨a',c',w5,Jr,H5⟩:=(H3.swap).append (P:=Tryz.prog) (t1:=23) (t2:=23) (rt:=23) (e:=2) (sz:=1) (oB:=8) (z:= #[.int .i64 0]) (by kernel_rfl) (by kernel_rfl) (x:= .slice (ay ⟨w3.heap.size,0,az⟩) 1 1) (m:=1) (ys:=[.int .i64 m]) (.inl ⟨_,_,rfl,H3.Ib⟩) (by simp[Value.og]) rfl Z8 oM;refine⟨a',n+1,c',w5,Jr,.slice a' (n+1) c',rfl,⟨a',n+1,c',_,_,ck,dn++[e],rfl,?_,?_,lk _,hp,(H5.swap).drop⟩,?_⟩
  ·rw[vp,jr,au,hm]
  ·rw[iv,Pq];rfl
  ·show fy.length-(n+1)<fy.length-n;omega
def z8o {F:PH}:∀{l:List (Int×Int)} {fy:List am},MR F (yS l) fy->fy.map (·.key)=l.map (λp=>ak .i64 p.1)
 |[],fy,h=>by
  have h:fy=[]:=h;subst h;rfl
 |p::l,fy,h=>by
  obtain⟨m,ms,rfl,h1,-,h3⟩:=h;rw[jx,jx,z8o (l:=l) h3,h1]
def Ui:ap->Int
 | .int _ n=>n
 |_=>0
def yDa {xs:List ap} {m:List Int} (h:xs.Perm (m.map λn=>ak .i64 n)):∃l:List Int,xs=l.map (λn=>ak .i64 n)/\l.Perm m:=by
 refine⟨xs.map Ui,?_,?_⟩
 ·rw[wb];have:∀x∈xs,((λn=>ak .i64 n)∘Ui) x=x:=by
   intro x hx;obtain⟨n,_,rfl⟩:=pj.1 (h.mem_iff.1 hx);rfl
  rw[uv this,List.map_id']
 ·have:=h.map Ui;rw[wb]at this;have e:(Ui∘λn=>ak .i64 n)=id:=rfl;rw[e,List.map_id]at this;exact this
def yAu (F:PH):∀l:List Int,iF F (iE l).flatten (l.map λn=>ak .i64 n)
 |[]=>by simp[iE,iF]
 |n::l=>by
  have ih:=yAu F l;have e:(iE (n::l)).flatten= .v (.int .i64 n)::(iE l).flatten:=rfl;rw[e,iF];exact⟨.int .i64 n,_,rfl,by simp[DR,Value.og],ih⟩
def xy:gi where
 ι:=gq
 pat:=λ_=>[.nm 0 0]
 pre:=λs=>[zE s]
 dq:=λs=>s.wh.length<=1000000
 alts:=λs=>[{o:=List Int,res:=λ_=> .own 1,post:=λl=>[zE s,.own 2 1 (iE l)],rel:=λl=>l.Perm (s.wh.map (·.1))}]
@[reducible] def D9 (s:gq):St:=S0 [0] ⟨gF 0 (xy.pre s),(xy.pre s).length⟩
def ySh (s:gq) (l:List Int) (hl:l.Perm (s.wh.map (·.1))):Up 1 (.own 5) ((D9 s).new (.own 2 1 (iE l))) (xy.alts s):=by
 refine Eq.mp (α:=∃(o:List Int),sb s.p.code=sb s.p.code/\s.p.tick=s.p.tick/\s.p.low=s.p.low/\s.p.high=s.p.high/\s.p.wide=s.p.wide/\s.p.dt=s.p.dt/\s.p.top=s.p.top/\s.p.least=s.p.least/\s.p.part=s.p.part/\ag 211 dp 6 zQ s.ej az=ag 211 dp 6 zQ s.ej az/\yS s.wh=yS s.wh/\af 1 (iE s.p.dm)=af 1 (iE s.p.dm)/\af 1 (iE s.p.settle)=af 1 (iE s.p.settle)/\iE o=iE l/\o.Perm (s.wh.map (·.1))) (by kernel_rfl) ?_
 exact⟨l,gr (mh hl)⟩
def yLg:xy.ok Tryz.prog 193:=by
 intro s hc k L E w ys R hv;have hc:s.wh.length<=1000000:=hc;have BN:=R.nx;obtain⟨E1,hle,R1⟩:=YQ [0] R;have R1:Rel k L E1 (D9 s) w:=R1;have Nx:(D9 s).get 0=ay (.cells [sV s.p.code,.own 3,zA s.p.tick,zA s.p.low,zA s.p.high,zA s.p.wide,zA s.p.dt,zA s.p.top,zA s.p.least,zA s.p.part,.own 4,.own 1,.mp 2] 210):=rfl;have BP:((D9 s).del 0).get 2=ay (.map (yS s.wh)):=rfl;have Ra:=(R1.take Nx).take BP;have H0:Hp k w (gz E1 (2,.map (yS s.wh))::gz E1 (0,.cells [sV s.p.code,.own 3,zA s.p.tick,zA s.p.low,zA s.p.high,zA s.p.wide,zA s.p.dt,zA s.p.top,zA s.p.least,zA s.p.part,.own 4,.own 1,.mp 2] 210)::((((D9 s).del 0).del 2).rows.map (gz E1)++fz E1.F::L)):=
  Ra.out.perm (.cons _ (((ba _ _ _).append_left _).trans mo))
 generalize Bq:(((D9 s).del 0).del 2).rows.map (gz E1)++fz E1.F::L=rest at H0;obtain⟨hk,hs,hh⟩:=H0;cases hh with
 |cons ha iY GX hr=>
 cases hr with
 |cons ha0 RC aaX GO=>
 rcases ha with⟨e,_⟩|⟨zq,t2,r2⟩
 ·cases e
 rcases ha0 with⟨e,_⟩|⟨hd0,t0,r0⟩
 ·cases e
 simp only[fm]at r2 r0;obtain⟨bm,fy,ck,q1,q2,q3,rfl⟩:=r2;obtain⟨b,l,p1,p2,rfl⟩:=r0;have H:Hp k w (pt bm (.map fy.toArray ck)::pt b (.cells l.toArray 210)::rest):=⟨hk,_,.cons rfl iY GX (.cons rfl RC aaX GO)⟩
 have aaO:l[12]? =ay (.map (ay bm)):=by
  simp only[gw,VR]at p2;obtain⟨_,_,rfl,-,_,_,rfl,-,_,_,rfl,-,_,_,rfl,-,_,_,rfl,-,_,_,rfl,-,_,_,rfl,-,_,_,rfl,-,_,_,rfl,-,_,_,rfl,-,_,_,rfl,-,_,_,rfl,-,y,_,rfl,⟨bb,sub,g1,rfl⟩,rfl⟩:=p2;rw[t2]at g1;cases g1;cases q1;rfl
 have GM:ys=[.pointer (ay ⟨b,0,az⟩)]:=by
  simp only[xy,gw,VR]at hv;obtain⟨y,_,rfl,⟨b',oo,sub,g1,rfl⟩,rfl⟩:=hv;rw[hle.get g1]at t0;cases t0;cases p1;rfl
 subst GM;have Fq:=z8o q2;have hlen:fy.length=s.wh.length:=by simpa using congrArg av Fq
 have vz:=yFe H (λw' H'=>⟨(H'.swap).get,H'.get⟩) aaO q3.2 q3.1 (λe he=>by
  have:e.key∈fy.map (·.key):=tc (f:=(·.key)) he
  rw[Fq]at this;obtain⟨p,_,hp⟩:=pj.1 this;exact⟨p.1,hp.symm⟩) oM
 have hdo:=mT (P:=Tryz.prog) (f:=193) (args:= #[.pointer (ay ⟨b,0,az⟩)]) (w:=w) (K:=λv w'=>ZC k (pt bm (.map fy.toArray ck)::pt b (.cells l.toArray 210)::rest) fy (.returned v) w') (by kernel_rfl) (vz.mono λe w' h=>by
  have h2:=h;obtain⟨a,n,c,xs,dn,rfl,-⟩:=h2;exact⟨_,rfl,h⟩)
 refine hdo.mono ?_;rintro v w' ⟨a,n,c,xs,dn,Jh,rfl,rfl,RH,H2⟩;cases Jh;obtain⟨li,e1,e2⟩:=yDa (xs:=dn.map (·.key)) (m:=s.wh.map (·.1)) (by
  have:=RH.map (·.key)
  rw[Fq]at this;rwa [wb])
 have QL:dn.length=li.length:=by simpa using congrArg av e1
 rw[e1,QL]at H2;rw[QL];have H3:Hp k w' (oq 2 1 a li.length c (li.map λn=>ak .i64 n)::((D9 s).rows.map (gz E1)++fz E1.F::L)):=by
  have h1:Hp k w' (gz E1 (2,.map (yS s.wh))::gz E1 (0,.cells [sV s.p.code,.own 3,zA s.p.tick,zA s.p.low,zA s.p.high,zA s.p.wide,zA s.p.dt,zA s.p.top,zA s.p.least,zA s.p.part,.own 4,.own 1,.mp 2] 210)::oq 2 1 a li.length c (li.map λn=>ak .i64 n)::rest):=by
   have g0:Hp k w' (pt bm (.map fy.toArray ck)::pt b (.cells l.toArray 210)::oq 2 1 a li.length c (li.map λn=>ak .i64 n)::rest):=
    H2.perm ((ba _ _ _).trans (.cons _ (.swap _ _ _)))
   have g1:=g0.imp (B:=gz E1 (2,.map (yS s.wh))) λx hx=> .inr ⟨zq,t2,by simp only[fm];exact⟨bm,fy,ck,q1,q2,q3,hx⟩⟩
   have g2:=(g1.swap).imp (B:=gz E1 (0,.cells [sV s.p.code,.own 3,zA s.p.tick,zA s.p.low,zA s.p.high,zA s.p.wide,zA s.p.dt,zA s.p.top,zA s.p.least,zA s.p.part,.own 4,.own 1,.mp 2] 210)) λx hx=> .inr ⟨hd0,t0,by simp only[fm];exact⟨b,l,p1,p2,hx⟩⟩
   exact g2.swap
  subst Bq;refine h1.perm ?_;have p0:=((vN Nx).1.map (gz E1))
  have p2:=((vN BP).1.map (gz E1))
  have p3:=(p0.trans (p2.cons _)).append_right (fz E1.F::L);refine List.Perm.trans ?_ (p3.symm.cons _);exact(ba _ _ _).trans ((bc _ (.swap _ _ _)).trans (.swap _ _ _))
 have tv:E1.le ⟨E1.F,E1.gf++[((.slice a li.length c,[]):Hd)]⟩:=Ev.le.app _;have kf:(E1.gf++[((.slice a li.length c,[]):Hd)])[(D9 s).nx]? =ay (.slice a li.length c,[]):=by rw[<- R1.nx];simp
 have R2:Rel k L ⟨E1.F,E1.gf++[((.slice a li.length c,[]):Hd)]⟩ ((D9 s).new (.own 2 1 (iE li))) w':=by
  refine⟨by simp[St.new,R1.nx],?_⟩;have g1:Hp k w' ((D9 s).rows.map (gz E1)++(oq 2 1 a li.length c (li.map λn=>ak .i64 n)::fz E1.F::L)):=H3.perm (mo (l₁:=(D9 s).rows.map (gz E1))).symm;have g2:=wS (λr x=>gz.mono tv r) g1;have g3:Hp k w' (oq 2 1 a li.length c (li.map λn=>ak .i64 n)::((D9 s).rows.map (gz ⟨E1.F,E1.gf++[((.slice a li.length c,[]):Hd)]⟩)++fz E1.F::L)):=g2.perm mo;exact g3.imp λx hx=> .inr ⟨_,kf,by
   simp only[fm];exact⟨a,c,_,by rw[y4],yAu _ li,λel oT=>by obtain⟨n,_,rfl⟩:=pj.1 oT;rfl,by rw[y4];exact hx⟩⟩
 obtain⟨al,ha,Fg⟩:=S6 (ySh s li e2);obtain⟨o,o1,E3,o2,o3,o4⟩:=V7 Fg BN (hle.trans tv) R2 (y:= .slice a li.length c) (by simp only[VR];exact⟨_,kf,_,_,_,rfl⟩);exact⟨al,ha,o,o1,E3,o2,o3,o4⟩
structure Jz where
 m:iq
 p:ff
 B:List (List zI)
 U:List Int
@[reducible] def Jz.ok (i:Jz):Prop:=i.m.fq i.p i.B i.U/\iS i.p i.B
def Rv:gi where
 ι:=Jz
 pat:=λ_=>[.nm 0 0]
 pre:=λi=>[jX i.m]
 dq:=λi=>i.ok
 alts:=λi=>[{o:=List Int,res:=λ_=> .own 1,post:=λl=>[jX i.m,.own 2 1 (iE l)],rel:=λl=>l.Perm ((sc 0 i.B).map (·.1))}]
structure Gt where
 m:iq
 W:List (Int×Int)
def xO (W:List (Int×Int)):List (ap×List D):=W.map λx=>(.int .i64 x.1,[.v (.int .i64 x.2)])
def C2 (g:Gt):Nat->fi
 |0=> .cells [.nm 1 0,.mp 2] 134
 |1=>jX g.m
 |2=> .map (xO g.W)
 |_=> .gone
def gy (g:Gt):fi:= .qw Gt 3 C2 g
def xF (o:Int×fq):List D:= .v (.int .i64 o.1)::xP o.2
@[reducible] def Ou:Nat:=51
@[reducible] def EE (O:List (Int×fq)):fi:= .own Ou 9 (O.map xF)
def Rt:gi where
 ι:=ff
 pat:=λp=>[oe p]
 pre:=λ_=>[]
 dq:=λp=>p.small
 alts:=λp=>[{o:=Unit,res:=λ_=> .ja [.nm 0 0,zA 0],post:=λ_=>[gy ⟨⟨p,bR p,[]⟩,[]⟩],rel:=λ_=>p.check=0},{o:=Unit,res:=λ_=> .ja [.d (.v (.pointer az)),zA p.check],post:=λ_=>[],rel:=λ_=>p.check≠0}]
structure Li where
 s:Int
 id:Int
 oY:Int
def RV:gi:=fp Li (λi=>[zA i.s,zA i.id,zA i.oY]) (λ_=>[]) (λ_=>True) (λ_=> .own 0) (λi=>[EE [(i.s,⟨2,i.id,0,0,0,0,0,i.oY⟩)]])
structure uz where
 s:Int
 b:List UInt8
def zL (s:Int) (b:List UInt8):ir×Int:=if s<0\/8<=s then(Hg,1)else xL b
def LY:gi:=fp uz (λi=>[zA i.s,oD 1 (bE i.b)]) (λ_=>[]) (λi=>i.b.length<=1099511627776) (λi=> .ja [CD (zL i.s i.b).1,zA (zL i.s i.b).2]) (λ_=>[])
structure G8 where
 g:Gt
 p:ff
 B:List (List zI)
 U:List Int
 s:Int
@[reducible] def G8.ok (i:G8):Prop:=i.g.m.fq i.p i.B i.U/\iS i.p i.B
def LZ:gi:=fp G8 (λi=>[.nm 0 0,zA i.s]) (λi=>[gy i.g]) (λi=>i.ok) (λi=>zA (II i.B i.g.W i.s)) (λi=>[gy i.g])
def Vx (g:Gt):List fi:=[.cells [.nm 1 0,.mp 2] 134,jX g.m,.map (xO g.W)]
def Iw:gi:=fp G8 (λi=>[.nm 0 0,zA i.s]) (λi=>Vx i.g) (λi=>i.ok) (λi=>zA (II i.B i.g.W i.s)) (λi=>Vx i.g)
def yYo:List gp:=[{ι:=Int×Nat,dv:=λj=>[(5,zA j.1),(14,zA j.2)],rows:=λ_=>[]}]
structure A8 where
 g:Gt
 p:ff
 B:List (List zI)
 U:List Int
 s:Int
 b:List UInt8
 X:P2
def Fi:gi where
 ι:=A8
 pat:=λi=>[.nm 0 0,zA i.s,oD 1 (bE i.b)]
 pre:=λi=>[gy i.g]
 dq:=λi=>(i.g.m.fq i.p i.B i.U/\iS i.p i.B)/\i.b.length<=1099511627776/\i.X=bW i.p i.B i.U i.g.W i.s i.b
 alts:=λi=>[{o:=iq,res:=λ_=> .own 1,post:=λo=>[gy ⟨o,i.X.W⟩,EE i.X.O],rel:=λo=>o.fq i.p i.X.B i.X.U}]
structure AU where
 o:iq
 W:List (Int×Int)
 O:List (Int×fq)
 k:Nat
def AU.rows (j:AU):List fi:=[.cells [.nm 1 0,.mp 2] 134,jX j.o,.map (xO j.W),EE j.O]
def y7o:List gp:=[{ι:=AU,dv:=λj=>[(0,.nm 0 0),(11,.own 3),(74,zA j.k)],rows:=AU.rows}]
def y8a:List (Nat×gp):=[(20,bj 36),(28,bj 50),(66,ij 14)]
def y4n (i:Jz):Prop:=
 ∃(iw:gq),zE iw=zE i.m.s/\iw.wh.length<=1000000/\∀(o:List Int),o.Perm (ar (λ(x:Int×Int) ↦ x.fst) iw.wh)->∃(yk:List Int),dj (sb i.m.p.code)/\dj i.m.p.tick/\dj i.m.p.low/\dj i.m.p.high/\dj i.m.p.wide/\dj i.m.p.dt/\dj i.m.p.top/\dj i.m.p.least/\dj i.m.p.part/\zE i.m.s=zE iw/\dj (zX i.m.used)/\dj (af 1 (iE i.m.p.dm))/\dj (af 1 (iE i.m.p.settle))/\iE yk=iE o/\yk.Perm (ar (λ(x:Int×Int) ↦ x.fst) (sc 0 i.B))
def y6b (p:ff):Prop:=
 ∃(i:ff),sb i.code=sb p.code/\iE i.dm=iE p.dm/\i.tick=p.tick/\i.low=p.low/\i.high=p.high/\i.wide=p.wide/\i.dt=p.dt/\i.top=p.top/\i.least=p.least/\i.part=p.part/\iE i.settle=iE p.settle/\(i.code.length<=1099511627776/\i.dm.length<=1099511627776/\i.settle.length<=1099511627776)/\(∀(o:Unit),i.check=0->(∃(o:Unit),dj ((0:Int))/\ae iq 5 yY (iq.mk p (bR p) [])=ae iq 5 yY (iq.mk i (bR i) [])/\xO []=[]/\p.check=0)\/(∃(o:Unit),False))/\∀(o:Unit),i.check≠0->dq (i.check !=0) ((∃(o:Unit),False)\/(∃(o:Unit),True/\p.check=i.check/\(p.check=0->False))) ((∃(o:Unit),dj ((0:Int))/\False)\/(∃(o:Unit),False))
def y5p (i:Li):Prop:=
 ∃(o:Unit),[xF (i.s,fq.mk 2 i.id 0 0 0 0 0 i.oY)]=[[D.v (.int .i64 i.s),D.v (.int .i64 2),D.v (.int .i64 i.id),D.v (.int .i64 0),D.v (.int .i64 0),D.v (.int .i64 0),D.v (.int .i64 0),D.v (.int .i64 0),D.v (.int .i64 i.oY)]]/\True
def yYb (i:uz):Prop:=
 dq (decide (i.s<0)) (∃(o:Unit),(zL i.s i.b).fst.kind=0/\(zL i.s i.b).fst.id=0/\(zL i.s i.b).fst.inst=0/\(zL i.s i.b).fst.side=0/\(zL i.s i.b).fst.dk=0/\(zL i.s i.b).fst.dr=0/\(zL i.s i.b).fst.least=0/\(zL i.s i.b).fst.time=0/\sb (zL i.s i.b).fst.label=ByteArray.mk #[]/\(zL i.s i.b).snd=1/\True) (dq (decide (i.s>=8)) (∃(o:Unit),(zL i.s i.b).fst.kind=0/\(zL i.s i.b).fst.id=0/\(zL i.s i.b).fst.inst=0/\(zL i.s i.b).fst.side=0/\(zL i.s i.b).fst.dk=0/\(zL i.s i.b).fst.dr=0/\(zL i.s i.b).fst.least=0/\(zL i.s i.b).fst.time=0/\sb (zL i.s i.b).fst.label=ByteArray.mk #[]/\(zL i.s i.b).snd=1/\True) (∃(iw:List UInt8),bE iw=bE i.b/\iw.length<=1099511627776/\∀(o:Unit),True->∃(o:Unit),(zL i.s i.b).fst.kind=(xL iw).fst.kind/\(zL i.s i.b).fst.id=(xL iw).fst.id/\(zL i.s i.b).fst.inst=(xL iw).fst.inst/\(zL i.s i.b).fst.side=(xL iw).fst.side/\(zL i.s i.b).fst.dk=(xL iw).fst.dk/\(zL i.s i.b).fst.dr=(xL iw).fst.dr/\(zL i.s i.b).fst.least=(xL iw).fst.least/\(zL i.s i.b).fst.time=(xL iw).fst.time/\sb (zL i.s i.b).fst.label=sb (xL iw).fst.label/\(zL i.s i.b).snd=(xL iw).snd/\True))
def Y1 (a:Int×Nat) (b:Int×Nat) (c:Int×Nat->Prop) (d:Int×Nat->Nat) (e:Jz) (f:List Int) (g:G8):Prop:=(↑a.snd:Int)=aj.wrap ((↑b.snd:Int)+1)/\c a/\d a<d b/\dj (jX e.m)/\dj (ac 2 1 (iE f))/\dj (aa [V.nm 1 0,V.mp 2] (134:ao))/\dj (ab (xO g.g.W))
def yJr (i:G8):Prop:=
 ∃(a:Jz),jX a.m=jX i.g.m/\(a.m.fq a.p a.B a.U/\iS a.p a.B)/\∀(b:List Int),b.Perm (ar (λ(x:Int×Int) ↦ x.fst) (sc 0 a.B))->∃(c:Int×Nat),c.fst=0/\(↑c.snd:Int)=0/\∃(d:Int×Nat->Prop),∃(e:Int×Nat->Nat),d c/\∀(f:Int×Nat),d f->dq (decide ((↑f.snd:Int)<(↑(iE b).length:Int))) ((0<=(↑f.snd:Int)/\(↑f.snd:Int)<(↑(iE b).length:Int))/\∃(g:Int),zD (iE b) (↑f.snd:Int).toNat 0 1=ay [dI g]/\(∀(h:ap×List D),h∈xO i.g.W->ma (ak aj g) h.fst=aw)/\∃(h:Bool),∃(j:Int),(kR (ak aj g) (xO i.g.W)=ay [dI j]/\h=aw\/kR (ak aj g) (xO i.g.W)=az/\[dI j]=[dI 0]/\h=ax)/\dq (j==i.s) (∃(k:Int×Nat),k.fst=aj.wrap (f.fst+1)/\Y1 k f d e a b i) (∃(k:Int×Nat),k.fst=f.fst/\Y1 k f d e a b i)) (∃(g:Unit),(↑(II i.B i.g.W i.s):Int)=f.fst/\jX i.g.m=jX a.m/\dj (xO i.g.W)/\True)
def yQj (i:G8):Prop:=
 ∃(iw:Jz),ae iq 5 yY iw.m=jX i.g.m/\(iw.m.fq iw.p iw.B iw.U/\iS iw.p iw.B)/\∀(o:List Int),o.Perm (ar (λ(x:Int×Int) ↦ x.fst) (sc 0 iw.B))->∃(i0:Int×Nat),i0.fst=0/\(↑i0.snd:Int)=0/\∃(I:Int×Nat->Prop),∃(μ:Int×Nat->Nat),I i0/\∀(ng:Int×Nat),I ng->dq (decide ((↑ng.snd:Int)<(↑(iE o).length:Int))) ((0<=(↑ng.snd:Int)/\(↑ng.snd:Int)<(↑(iE o).length:Int))/\∃(n:Int),zD (iE o) (↑ng.snd:Int).toNat 0 1=ay [D.v (.int .i64 n)]/\(∀(p:ap×List D),p∈xO i.g.W->ma (ak aj n) p.fst=aw)/\∃(b:Bool),∃(HC:Int),(kR (ak aj n) (xO i.g.W)=ay [D.v (.int .i64 HC)]/\b=aw\/kR (ak aj n) (xO i.g.W)=az/\[D.v (.int .i64 HC)]=[D.v (.int .i64 0)]/\b=ax)/\dq (HC==i.s) (∃(i':Int×Nat),i'.fst=aj.wrap (ng.fst+1)/\(↑i'.snd:Int)=aj.wrap ((↑ng.snd:Int)+1)/\I i'/\μ i'<μ ng/\dj (ae iq 5 yY iw.m)/\dj (ac 2 1 (iE o))/\dj (aa [V.nm 1 0,V.mp 2] (134:ao))/\dj (ab (xO i.g.W))) (∃(i':Int×Nat),i'.fst=ng.fst/\(↑i'.snd:Int)=aj.wrap ((↑ng.snd:Int)+1)/\I i'/\μ i'<μ ng/\dj (ae iq 5 yY iw.m)/\dj (ac 2 1 (iE o))/\dj (aa [V.nm 1 0,V.mp 2] (134:ao))/\dj (ab (xO i.g.W)))) (∃(o:Unit),(↑(II i.B i.g.W i.s):Int)=ng.fst/\ae iq 5 yY i.g.m=ae iq 5 yY iw.m/\dj (xO i.g.W)/\True)
def T8 (a:Int) (b:A8) (c:AU):=(u9 (ak aj a) [dI b.s] (xO c.W))
def m9 (a:uz):=(D.v (Value.string (sb (zL a.s a.b).fst.label)))
def nH (a:uz):=(dI ((zL a.s a.b).fst.dk))
def m5 (a:uz):=(dI ((zL a.s a.b).fst.least))
def nF (a:uz):=(dI ((zL a.s a.b).fst.time))
def aZ (a:uz):=(dI ((zL a.s a.b).fst.side))
def mI (a:uz):=(dI ((zL a.s a.b).fst.kind))
def nA (a:uz):=(dI ((zL a.s a.b).fst.inst))
def mH (a:uz):=(dI ((zL a.s a.b).fst.dr))
def mB (a:uz):=(dI ((zL a.s a.b).fst.id))
def Wc (a:qn) (b:uz):Prop:=ac tRp 8 (ar xP a.X.R)=ac tRp 8 (ar xP a.X.R)/\dj (aa [V.d (mI b),V.d (mB b),V.d (nA b),V.d (aZ b),V.d (nH b),V.d (mH b),V.d (m5 b),V.d (nF b),V.d (m9 b)] 46)
def Wb (a:AU) (b:qn) (c:uz):Prop:=ac Ou 9 (ar xF a.O)=ac Ou 9 (ar xF a.O)/\Wc b c
def V6 (a:Int->Prop) (b:Int) (c:Int) (d:Int) (e:Int) (f:Int) (g:Int) (h:Int) (j:Int) (k:Int) (l:AU) (m:A8) (n:qn) (p:uz):Prop:=a b/\dj (aa [V.d (dI c),V.d (dI d),V.d (dI e),V.d (dI f),V.d (dI g),V.d (dI h),V.d (dI j),V.d (dI k)] 49)/\dj (aa [V.nm 1 0,V.mp 2] (134:ao))/\dj (jX l.o)/\dj (ab (T8 d m l))/\Wb l n p
def VN (a:Int->Prop) (b:Int) (c:Int) (d:Int) (e:Int) (f:Int) (g:Int) (h:Int) (j:Int) (k:Int) (l:AU) (m:qn) (n:uz):Prop:=a b/\dj (aa [V.d (dI c),V.d (dI d),V.d (dI e),V.d (dI f),V.d (dI g),V.d (dI h),V.d (dI j),V.d (dI k)] 49)/\dj (aa [V.nm 1 0,V.mp 2] (134:ao))/\dj (jX l.o)/\dj (ab (xO l.W))/\Wb l m n
def V5 (a:AU) (b:AU) (c:Int) (d:Int) (e:Int) (f:Int) (g:Int) (h:Int) (j:Int) (k:Int) (l:Int) (m:AU->Prop) (n:AU->Nat) (p:qn) (q:uz):Prop:=ar xF a.O=ar xF b.O++[[dI c,dI d,dI e,dI f,dI g,dI h,dI j,dI k,dI l]]/\m a/\n a<n b/\Wc p q
def SQ (a:Bool->Prop) (b:Bool) (c:uz) (d:A8):Prop:=a b/\dj (aa [V.d (mI c),V.d (mB c),V.d (nA c),V.d (aZ c),V.d (nH c),V.d (mH c),V.d (m5 c),V.d (nF c),V.d (m9 c)] 46)/\dj (aa [V.nm 1 0,V.mp 2] (134:ao))/\dj (jX d.g.m)/\dj (ab (xO d.g.W))
def VI (a:Bool->Prop) (b:uz) (c:A8):Prop:=∃(d:Bool),d=ax/\SQ a d b c
def Tp (a:A8) (b:Li):Prop:=True/\∀(c:Unit),True->∃(d:iq),jX d=jX a.g.m/\xO a.X.W=xO a.g.W/\ar xF a.X.O=[xF (b.s,fq.mk 2 b.id 0 0 0 0 0 b.oY)]/\d.fq a.p a.X.B a.X.U
def Tw (a:uz):=(ak aj (zL a.s a.b).fst.id)
def y3w (i:A8):Prop:=
 ∃(a:uz),a.s=i.s/\bE a.b=bE i.b/\a.b.length<=1099511627776/\∀(b:Unit),True->dq ((zL a.s a.b).snd !=0) (∃(c:Li),c.s=i.s/\c.id=0/\c.oY=(zL a.s a.b).snd/\Tp i c) ((∀(c:ap×List D),c∈xO i.g.W->ma (Tw a) c.fst=aw)/\∃(c:Bool),∃(d:Int),(kR (Tw a) (xO i.g.W)=ay [dI d]/\c=aw\/kR (Tw a) (xO i.g.W)=az/\[dI d]=[dI 0]/\c=ax)/\∃(e:Bool),∃(f:Bool->Prop),dq ((zL a.s a.b).fst.kind==1) (∃(g:G8),g.s=i.s/\jX g.g.m=jX i.g.m/\xO g.g.W=xO i.g.W/\(g.g.m.fq g.p g.B g.U/\iS g.p g.B)/\∀(h:Unit),True->∃(j:Bool),j=decide ((↑(II g.B g.g.W g.s):Int)>=64)/\f j/\dj (aa [V.d (mI a),V.d (mB a),V.d (nA a),V.d (aZ a),V.d (nH a),V.d (mH a),V.d (m5 a),V.d (nF a),V.d (m9 a)] 46)/\dj (aa [V.nm 1 0,V.mp 2] (134:ao))/\jX g.g.m=jX i.g.m/\ab (xO g.g.W)=ab (xO i.g.W)) (VI f a i)/\∀(g:Bool),f g->dq g (∃(h:Li),h.s=i.s/\h.id=(zL a.s a.b).fst.id/\h.oY=30/\Tp i h) (∃(h:Bool),∃(j:Bool->Prop),dq ((zL a.s a.b).fst.kind !=1) (dq (!c) (∃(k:Bool),k=aw/\SQ j k a i) (∃(k:Bool),k=(d !=i.s)/\SQ j k a i)) (VI j a i)/\∀(k:Bool),j k->dq k (∃(l:Li),l.s=i.s/\l.id=(zL a.s a.b).fst.id/\l.oY=26/\Tp i l) (∃(l:qn),l.c.kind=(zL a.s a.b).fst.kind/\l.c.id=(zL a.s a.b).fst.id/\l.c.inst=(zL a.s a.b).fst.inst/\l.c.side=(zL a.s a.b).fst.side/\l.c.dk=(zL a.s a.b).fst.dk/\l.c.dr=(zL a.s a.b).fst.dr/\l.c.least=(zL a.s a.b).fst.least/\l.c.time=(zL a.s a.b).fst.time/\sb l.c.label=sb (zL a.s a.b).fst.label/\jX l.m=jX i.g.m/\((l.m.fq l.p l.B l.U/\iS l.p l.B)/\l.c.label.length<=140737488355328/\((-9223372036854775808)<=l.c.dr/\l.c.dr<=9223372036854775807)/\l.X=AS l.p l.B l.U l.c)/\∀(m:iq),m.fq l.p l.X.B l.X.U->∃(n:AU),(↑n.k:Int)=0/\jX n.o=jX m/\xO n.W=xO i.g.W/\ar xF n.O=[]/\∃(p:AU->Prop),∃(q:AU->Nat),p n/\∀(r:AU),p r->dq (decide ((↑r.k:Int)<(↑(ar xP l.X.R).length:Int))) ((0<=(↑r.k:Int)/\(↑r.k:Int)<(↑(ar xP l.X.R).length:Int))/\∃(s:Int),∃(t:Int),∃(u:Int),∃(v:Int),∃(w:Int),∃(x:Int),∃(y:Int),∃(z:Int),zD (ar xP l.X.R) (↑r.k:Int).toNat 0 8=ay [dI s,dI t,dI u,dI v,dI w,dI x,dI y,dI z]/\dq (s==1) ((∀(iW:ap×List D),iW∈xO r.W->ma (ak aj t) iW.fst=aw)/\(∀(iW:ap×List D),iW∈u9 (ak aj t) [dI i.s] (xO r.W)->ma (ak aj t) iW.fst=aw)/\∃(iW:Bool),∃(lu:Int),(kR (ak aj t) (T8 t i r)=ay [dI lu]/\iW=aw\/kR (ak aj t) (T8 t i r)=az/\[dI lu]=[dI 0]/\iW=ax)/\∃(jg:Int),∃(km:Int->Prop),dq (s==2) (∃(iB:Int),iB=i.s/\V6 km iB s t u v w x y z r i l a) (∃(iB:Int),iB=lu/\V6 km iB s t u v w x y z r i l a)/\∀(iB:Int),km iB->((ar xF r.O).length+1)*(72:Nat)<=(140737488355328:Nat)/\∃(o5:AU),(↑o5.k:Int)=aj.wrap ((↑r.k:Int)+1)/\jX o5.o=jX r.o/\xO o5.W=u9 (ak aj t) [dI i.s] (xO r.W)/\V5 o5 r iB s t u v w x y z p q l a) ((∀(iW:ap×List D),iW∈xO r.W->ma (ak aj t) iW.fst=aw)/\∃(iW:Bool),∃(lu:Int),(kR (ak aj t) (xO r.W)=ay [dI lu]/\iW=aw\/kR (ak aj t) (xO r.W)=az/\[dI lu]=[dI 0]/\iW=ax)/\∃(jg:Int),∃(km:Int->Prop),dq (s==2) (∃(iB:Int),iB=i.s/\VN km iB s t u v w x y z r l a) (∃(iB:Int),iB=lu/\VN km iB s t u v w x y z r l a)/\∀(iB:Int),km iB->((ar xF r.O).length+1)*(72:Nat)<=(140737488355328:Nat)/\∃(o5:AU),(↑o5.k:Int)=aj.wrap ((↑r.k:Int)+1)/\jX o5.o=jX r.o/\xO o5.W=xO r.W/\V5 o5 r iB s t u v w x y z p q l a)) (∃(s:iq),jX s=jX r.o/\xO i.X.W=xO r.W/\ar xF i.X.O=ar xF r.O/\s.fq i.p i.X.B i.X.U))))
def yYx {s:gq} {p:ff} {B:List (List zI)} (h:s.fq p B):s.wh.length=Hc B:=by rw[Hc];exact h.wh.length_eq
def Zv:∀{B:List (List zI)} (n:Nat),(∀L∈B,L.length<=250)->(sc n B).length<=250*B.length
 |[],_,_=>lk _
 |L::B,n,h=>by
  have:=Zv (B:=B) (n+1) λx hx=>h x (kg _ hx)
  have:=h L jm;rw[sc,iv,im,iJ];omega
def ySu:Rv.ok Tryz.prog 157:=ib (V:=y4n) mixed (dx yLg fj) 0 (λ_=>[]) (λ_=>[]) [0] Tryz.func157 λ(i:Jz) h=>by
 obtain⟨⟨ep,hR,eu⟩,hB⟩:i.m.fq i.p i.B i.U/\iS i.p i.B:=h;have hl:i.m.s.wh.length<=1000000:=by
  have Ai:=hR.wf hB;have h1:=Zv (B:=i.B) 0 λL hL=>by
   obtain⟨k,hk⟩:=B6.1 hL;exact(Ai.od k L hk).2.2
  have:=hB.bl;have:=xS i.p;rw[yYx hR,Hc];omega
 exact⟨i.m.s,rfl,hl,λo ho=>⟨o,gr (iT ⟨rfl,gu,rfl,ho.trans (hR.wh.map _)⟩)⟩⟩
def yAn:Rt.ok Tryz.prog 69:=ib (V:=y6b) mixed (dx yOn fj) 0 (λ_=>[]) (λ_=>[]) [] Tryz.func69 λ(p:ff) h=>by
 refine⟨p,oJ (iT ⟨rfl,h,λ_ c=> .inl ⟨(),iT c⟩,λ_ c=>Cv.dq.mk (λe=> .inr ⟨(),trivial,rfl,c⟩) (λe=>absurd (by simpa using e) c)⟩)⟩
def yQe:RV.ok Tryz.prog 109:=ib (V:=y5p) mixed fj 0 (λ_=>[]) (λ_=>[]) [] Tryz.func109 λ(i:Li) h=>⟨(),rfl,trivial⟩
def z1y:LY.ok Tryz.prog 108:=ib (V:=yYb) mixed (dx yRn fj) 0 (λ_=>[]) (λ_=>[]) [] Tryz.func108 λ(i:uz) h=>by
 have h:i.b.length<=1099511627776:=h;have QD:i.s<0\/8<=i.s->zL i.s i.b=(Hg,1):=λe=>fh e
 refine zH (λe=> ?_) (λe=>zH (λe2=> ?_) (λe2=> ?_))
 ·rw[QD (.inl e)];exact⟨(),oJ (iT trivial)⟩
 ·rw[QD (.inr e2)];exact⟨(),oJ (iT trivial)⟩
 ·have hg:zL i.s i.b=xL i.b:=fb oM;rw[hg];exact⟨i.b,rfl,h,λ_ _=>⟨(),oJ (iT trivial)⟩⟩
def Oq (id:Int) (W:List (Int×Int)):∀p∈xO W,ma (ak aj id) p.1=aw:=by
 intro p hp;obtain⟨k,_,rfl⟩:=pj.1 hp;rfl
def zZo (id s:Int):∀W:List (Int×Int),u9 (ak aj id) [D.v (.int .i64 s)] (xO W)=xO (IF W id s)
 |[]=>rfl
 |x::W=>by
  have ih:=zZo id s W;have e:aA (ak aj id) (ak aj x.1)=decide (id=x.1):=by simp[aA,wj]
  show(bif aA (ak aj id) (ak aj x.1)then(ak aj x.1,[D.v (.int .i64 s)])::xO W else(ak aj x.1,[D.v (.int .i64 x.2)])::u9 (ak aj id) [D.v (.int .i64 s)] (xO W))=_;rw[e,ih,IF];by_cases c:id=x.1
  ·rw[lg c,cond_true,fh c];rfl
  ·rw[ku c,cond_false,fb c];rfl
def N0 (id:Int):∀W:List (Int×Int),kR (ak aj id) (xO W)=ay [D.v (.int .i64 (dL W id).1)]/\(dL W id).2=aw\/kR (ak aj id) (xO W)=az/\[D.v (.int .i64 (dL W id).1)]=[D.v (.int .i64 0)]/\(dL W id).2=ax
 |[]=> .inr ⟨rfl,rfl,rfl⟩
 |x::W=>by
  have ih:=N0 id W;have e:aA (ak aj id) (ak aj x.1)=decide (id=x.1):=by simp[aA,wj]
  have e2:kR (ak aj id) (xO (x::W))=bif aA (ak aj id) (ak aj x.1)then ay [D.v (.int .i64 x.2)]else kR (ak aj id) (xO W):=rfl
  rw[e2,e,yMw];by_cases c:id=x.1
  ·rw[lg c,cond_true,fh c];exact .inl ⟨rfl,rfl⟩
  ·rw[ku c,cond_false,fb c];exact ih
def yYd {l:List Int} {k:Nat} {n:Int} {f:Int->Bool} (h:l[k]? =ay n):(l.take (k+1)).countP f=(l.take k).countP f+if f n then 1 else 0:=by
 rw[tb,h,List.countP_append];simp[List.countP_cons]
def yJn (W:List (Int×Int)) (B:List (List zI)) (s:Int) (l:List Int) (h:l.Perm ((sc 0 B).map (·.1))):(II B W s:Int)=l.countP λx=>decide ((dL W x).1=s):=by
 rw[h.countP_eq,List.countP_map];rfl
def yGa {l:List Int} {W:List (Int×Int)} {s:Int} (hl:l.length<=1000000):∀{k:Nat} {n:Int},l[k]? =ay n->aj.wrap (((l.take k).countP λx=>decide ((dL W x).1=s):Nat)+1:Int)=((l.take k).countP λx=>decide ((dL W x).1=s):Nat)+1:=by
 intro k n h;have:=List.countP_le_length (p:=λx=>decide ((dL W x).1=s)) (l:=l.take k);rw[om]at this;exact iA oM
def yRf {p:ff} {B:List (List zI)} (h:tg p B) {l:List Int} (hl:l.Perm ((sc 0 B).map (·.1))):l.length<=1000000:=by
 have h1:=Zv (B:=B) 0 λL hL=>by
  obtain⟨k,hk⟩:=B6.1 hL;exact(h.od k L hk).2.2
 have:=h.ok.bl;have:=xS p;have:=hl.length_eq;rw[im]at this;omega
def y0k (i:G8) (h:LZ.dq i):yJr i:=by
 obtain⟨⟨m,W⟩,p,B,U,s⟩:=i;have h:m.fq p B U/\iS p B:=h;unfold yJr Y1 dI;dsimp only;refine⟨⟨m,p,B,U⟩,rfl,h,λl hl=> ?_⟩;have hle:=yRf (h.1.s.wf h.2) hl;refine⟨(0,0),rfl,rfl,λj=>j.2<=l.length/\j.1=((l.take j.2).countP λx=>decide ((dL W x).1=s):Nat),λj=>l.length-j.2,⟨mz _,rfl⟩,?_⟩;rintro⟨n,k⟩ ⟨j1,j2⟩;dsimp only at j1 j2 ⊢;subst j2;refine zH (λe=> ?_) (λe=> ?_)
 ·rw[y4]at e;obtain⟨x,hx⟩:=z6 (l:=l) (i:=k) oM;have hc:=yYd (f:=λx=>decide ((dL W x).1=s)) hx;refine⟨⟨oM,by rw[y4];exact e⟩,x,ju hx (by simp) rfl,Oq _ _,_,_,N0 x W,Cv.dq.mk (λe2=>⟨(_,k+1),(yGa hle hx).symm,rf oM,⟨Z9,?_⟩,Z9,gu⟩) (λe2=>⟨(_,k+1),rfl,rf oM,⟨Z9,?_⟩,Z9,gu⟩)⟩
  ·have e2:(dL W x).1=s:=by simpa using e2
   dsimp only;rw[hc,lg e2];rfl
  ·have e2:¬(dL W x).1=s:=by simpa using e2
   dsimp only;rw[hc,ku e2];rfl
 ·rw[y4]at e;have hk:l.take k=l:=oh oM;rw[hk];exact⟨(),yJn W B s l hl,rfl,rfl,trivial⟩
def yFa:Iw.ok Tryz.prog 110:=ib (V:=yQj) mixed (dx ySu fj) 0 (λ_=>[]) (λ_=>yYo) [] Tryz.func110 λ(i:G8) h=>y0k i h
def yFt {b:List UInt8} (h:(xL b).2=0):(xL b).1.right=0:=by
 rw[xL]at h ⊢;dsimp only at h ⊢;split at h
 ·cases h
 ·rename_i h1;rw[fb h1];split at h
  ·cases h
  ·rename_i h2;rw[fb h2];split at h
   ·rename_i h3;exact absurd h h3
   ·rename_i h3;rw[fb h3];simpa using h3
def Ws (n:Int):gx (aj.wrap n):=by
 rw[IntKind.wrap];simp only[IntKind.bits,IntKind.signed];simp;omega
def UI:gx 0:=⟨Z8,Z8⟩
def yYi (k id:Int) (r:RB):gx (x9 k id r).1.dr:=by
 rw[x9];split
 ·exact Ws _
 split
 ·exact Ws _
 split
 ·exact Ws _
 ·exact UI
def yQa (b:List UInt8):gx (xL b).1.dr:=by
 rw[xL];dsimp only;split
 ·exact UI
 split
 ·exact UI
 split
 ·exact UI
 ·exact yYi _ _ _
def yCo {p:ff} {B:List (List zI)} (h:tg p B) (U:List Int) (c:ir):(AS p B U c).R.length<=1503000003:=by
 have Am:=h.ok.bl;have HH:∀w,(pI c w).length<=1503000003:=λw=>by simp[pI]
 rw[AS];split
 ·exact HH _
 rename_i hr;have hr:c.right=0:=by simpa using hr
 split
 ·rename_i hk;obtain⟨_,hq,_⟩:=zTp hr hk;rw[pK];split
  ·exact HH _
  rename_i hp;have hp:p.dk c.inst c.dk=0:=by simpa using hp
  have vt:=Xk hp;split
  ·exact HH _
  split
  ·exact HH _
  split
  ·exact HH _
  split
  ·exact HH _
  have:=Zj h U (c:=c) oM hq;omega
 rename_i hk;split
 ·exact HH _
 rename_i hf;have hf:(z5 B c.id).2.2=aw:=by simpa using hf
 have hf:z5 B c.id=((z5 B c.id).1,(z5 B c.id).2.1,aw):=by rw[<- hf]
 obtain⟨vt,_⟩:=V' h hf;split
 ·rename_i h4;have hq:=XH hr hk oM;rw[dB];split
  ·exact HH _
  split
  ·simp[b8]
  split
  ·exact HH _
  have:=Zj (h.take c.id (z5 B c.id).2.1.dr) U (c:=⟨1,c.id,(z5 B c.id).1,(z5 B c.id).2.1.side,c.dk,c.dr,0,1,[]⟩) (by dsimp only;rw[pN];exact vt) hq;dsimp only;rw[iv];have e1:(u7 B U c.id (z5 B c.id).1 (z5 B c.id).2.1).R.length=1:=rfl;have e2:(u7 B U c.id (z5 B c.id).1 (z5 B c.id).2.1).B=(kM B c.id (z5 B c.id).2.1.dr).1:=rfl;rw[e1,e2];omega
 split
 ·simp[u7]
 ·simp[b8]
def ySp {b:List UInt8} (h:b.length<=1099511627776):(xL b).1.label.length<=255:=by
 have h0:(RB.mk b ax).ok:=h;rw[xL];dsimp only;split
 ·exact mz _
 split
 ·exact mz _
 split
 ·exact mz _
 ·exact(yTs (gT (pC h0))).2
def zUo (p:ff) (B:List (List zI)) (U:List Int) (W:List (Int×Int)) (s:Int) (b:List UInt8):bW p B U W s b=if(zL s b).2≠0 then MN B U W s 0 (zL s b).2 else Md p B U W s (zL s b).1:=by
 rw[bW,zL];by_cases c:s<0\/8<=s
 ·rw[fh c,fh c];rfl
 ·rw[fb c,fb c]
def y0n {s:Int} {b:List UInt8} (hb:b.length<=1099511627776) (h:(zL s b).2=0):(zL s b).1.right=0/\gx (zL s b).1.dr/\(zL s b).1.label.length<=255:=by
 rw[zL]at h ⊢;split at h
 ·cases h
 ·rename_i c;rw[fb c];exact⟨yFt h,yQa b,ySp hb⟩
def UR {j:Nat} (h:(j:Int)<=9223372036854775806):((j+1:Nat):Int)=aj.wrap ((j:Int)+1):=by rw[iA (by omega)];rfl
def y7t (i:A8) (h:Fi.dq i):y3w i:=by
 obtain⟨⟨m,W⟩,p,B,U,s,b,X⟩:=i;obtain⟨K8,hb,hX⟩:(m.fq p B U/\iS p B)/\b.length<=1099511627776/\X=bW p B U W s b:=h;rw[zUo]at hX;have hc:= @y0n s b hb;unfold y3w VI SQ V5 VN V6 Wb Wc mB mH nA mI aZ nF m5 nH Tw m9 T8 Tp dI;dsimp only;generalize xe:zL s b=y at hX hc;obtain⟨c,oY⟩:=y;dsimp only at hX hc;refine⟨⟨s,b⟩,rfl,rfl,hb,λ_ _=> ?_⟩;dsimp only;rw[xe];dsimp only;refine Cv.dq.mk (λe=> ?_) (λe=>⟨Oq _ _,_,_,N0 c.id W,aw,λx=>x=decide (c.kind=1/\64<=II B W s),Cv.dq.mk (λe1=>⟨⟨⟨m,W⟩,p,B,U,s⟩,rfl,rfl,rfl,K8,λ_ _=>⟨_,rfl,?_,gu⟩⟩) (λe1=>⟨ax,rfl,?_,gu⟩),?_⟩)
 ·have e:oY≠0:=by simpa using e
  rw[fh e]at hX;subst hX;exact⟨⟨s,0,oY⟩,rfl,rfl,rfl,trivial,λ_ _=>⟨m,iT K8.1⟩⟩
 ·have e1:c.kind=1:=by simpa using e1
  dsimp only;rw[decide_eq_decide];exact⟨λx=>⟨e1,oM⟩,λx=>by have:=x.2;omega⟩
 ·have e1:¬c.kind=1:=by simpa using e1
  exact(ku λx=>e1 x.1).symm
 have e:oY=0:=by simpa using e
 obtain⟨hr,hq,aaN⟩:=hc e;rw[fb (by rw[e];decide),Md]at hX;rintro _ rfl;refine zH (λe1=> ?_) (λe1=> ?_)
 ·rw[fh e1]at hX;subst hX;exact⟨⟨s,c.id,30⟩,rfl,rfl,rfl,trivial,λ_ _=>⟨m,iT K8.1⟩⟩
 rw[fb e1]at hX;refine⟨aw,λx=>x=decide (c.kind≠1/\((dL W c.id).2=ax\/(dL W c.id).1≠s)),Cv.dq.mk (λe2=>Cv.dq.mk (λe3=>⟨aw,rfl,?_,gu⟩) (λe3=>⟨_,rfl,?_,gu⟩)) (λe2=>⟨ax,rfl,?_,gu⟩),?_⟩
 ·have e2:¬c.kind=1:=by simpa using e2
  exact(lg ⟨e2,.inl (by simpa using e3)⟩).symm
 ·have e2:¬c.kind=1:=by simpa using e2
  have e3:(dL W c.id).2=aw:=by simpa using e3
  show((dL W c.id).1 !=s)=decide (c.kind≠1/\((dL W c.id).2=ax\/(dL W c.id).1≠s));rw[Hv,ud,bne_iff_ne];exact⟨λx=>⟨e2,.inr x⟩,λx=>x.2.resolve_left (by rw[e3];decide)⟩
 ·have e2:c.kind=1:=by simpa using e2
  exact(ku λx=>x.1 e2).symm
 rintro _ rfl;refine zH (λe2=> ?_) (λe2=> ?_)
 ·rw[fh e2]at hX;subst hX;exact⟨⟨s,c.id,26⟩,rfl,rfl,rfl,trivial,λ_ _=>⟨m,iT K8.1⟩⟩
 rw[fb e2]at hX;have hlen:=yCo (K8.1.s.wf K8.2) U c;refine⟨⟨m,p,B,U,c,AS p B U c⟩,mh (iT ⟨rfl,⟨K8,xi aaN Z8,hq,rfl⟩,λo ho=> ?_⟩)⟩;dsimp only at ho ⊢;generalize AS p B U c=Y at hX ho hlen ⊢;obtain⟨YB,YU,R⟩:=Y;dsimp only at hX ho hlen ⊢;subst hX;have e4:(R.map xP).length=R.length:=im ..;refine⟨⟨o,W,[],0⟩,iT ⟨rfl,λj=>j.o=o/\j.k<=R.length/\j.O.length=j.k/\(rF s W R).1=(rF s j.W (R.drop j.k)).1/\(rF s W R).2=j.O++(rF s j.W (R.drop j.k)).2,λj=>R.length-j.k,⟨rfl,mz _,rfl,rfl,rfl⟩,?_⟩⟩;rintro⟨o',W',O,k⟩ ⟨j1,j2,j3,j4,j5⟩;dsimp only at j1 j2 j3 j4 j5 ⊢;subst j1;have e5:(O.map xF).length=O.length:=im ..;refine zH (λe6=> ?_) (λe6=> ?_)
 ·obtain⟨r,ot⟩:=z6 (l:=R) (i:=k) oM;have hd:R.drop k=r::R.drop (k+1):=by rw[DC (by omega),(jv.1 ot).2]
  rw[hd,rF]at j4 j5;dsimp only at j4 j5;refine⟨⟨oM,e6⟩,r.kind,r.id,r.inst,r.side,r.dk,r.dr,r.left,r.oY,ju ot (by simp[xP]) rfl,Cv.dq.mk (λe7=>⟨Oq _ _,?_⟩) (λe7=>⟨Oq _ _,_,_,N0 r.id W',?_⟩)⟩
  ·have e7:r.kind=1:=by simpa using e7
   rw[zZo];rw[fh e7]at j4 j5;refine⟨Oq _ _,_,_,N0 r.id (IF W' r.id s),0,λx=>x=if r.kind=2 then s else(dL (IF W' r.id s) r.id).1,Cv.dq.mk (λe8=>⟨_,rfl,(fh (by simpa using e8)).symm,gu⟩) (λe8=>⟨_,rfl,(fb (by simpa using e8)).symm,gu⟩),?_⟩;rintro _ rfl;exact⟨oM,⟨o',IF W' r.id s,O++[(if r.kind=2 then s else(dL (IF W' r.id s) r.id).1,r)],k+1⟩,UR oM,rfl,rfl,by rw[jr];rfl,⟨rfl,Z9,by rw[iv];dsimp only;rw[j3];rfl,j4,by rw[j5];simp⟩,Z9,gu⟩
  ·have e7:¬r.kind=1:=by simpa using e7
   rw[fb e7]at j4 j5;refine⟨0,λx=>x=if r.kind=2 then s else(dL W' r.id).1,Cv.dq.mk (λe8=>⟨_,rfl,(fh (by simpa using e8)).symm,gu⟩) (λe8=>⟨_,rfl,(fb (by simpa using e8)).symm,gu⟩),?_⟩;rintro _ rfl;exact⟨oM,⟨o',W',O++[(if r.kind=2 then s else(dL W' r.id).1,r)],k+1⟩,UR oM,rfl,rfl,by rw[jr];rfl,⟨rfl,Z9,by rw[iv];dsimp only;rw[j3];rfl,j4,by rw[j5];simp⟩,Z9,gu⟩
 ·have hk:R.drop k=[]:=List.drop_of_length_le oM;rw[hk,rF]at j4 j5;dsimp only at j4 j5;rw[oU]at j5;rw[j4,j5];exact⟨o',iT ho⟩
def Sg:Fi.ok Tryz.prog 48:=ib mixed (dx z1y (dx yQe (dx yFa (dx y3a fj)))) 0 (λ_=>y8a) (λ_=>y7o) [0] Tryz.func48 y7t
def y4t {l:List ir} {k:Nat} {c:ir} (h:l[k]? =ay c):zD (l.map rp) k 0 9=ay [D.v (.int .i64 c.kind),.v (.int .i64 c.id),.v (.int .i64 c.inst),.v (.int .i64 c.side),.v (.int .i64 c.dk),.v (.int .i64 c.dr),.v (.int .i64 c.least),.v (.int .i64 c.time),.v (.string (sb c.label))]:=ju h (by simp[rp]) rfl
def Ng (p:ff):iq:=⟨p,bR p,[]⟩
def yCj (p:ff):(Ng p).fq p (List.replicate p.count []) []:=⟨rfl,z7a _,rfl⟩
structure tY where
 seq:Int
 inst:Int
 side:Int
 dk:Int
 dr:Int
 count:Int
 iN:Bool
 deriving DecidableEq
def yZy (b:UInt8) (n:Int):jj (b.toNat+256*n)=b:=by
 apply UInt8.toNat.inj;have h1:=OK (b.toNat+256*n);have:=b.toNat_lt;omega
deriving instance DecidableEq for Lv
def Ux (s:Int) (L:List Lv):Prop:=L.Pairwise λa b=>ki s a.dk b.dk=aw
def v7 (s:Int):Nat->List Lv->List Lv->List Lv
 |0,_,_=>[]
 |k+1,[],[]=>[]
 |k+1,x::X,[]=>⟨x.dk,0,0⟩::v7 s k X []
 |k+1,[],y::Y=>y::v7 s k [] Y
 |k+1,x::X,y::Y=>if ki s x.dk y.dk=aw then⟨x.dk,0,0⟩::v7 s k X (y::Y)else if ki s y.dk x.dk=aw then y::v7 s k (x::X) Y else(if x=y then[]else[y])++v7 s k X Y
def yZp {s x y z:Int} (h:ki s x y=aw) (h2:ki s y z=aw):ki s x z=aw:=by
 rw[ki]at h h2 ⊢;split
 ·rename_i e;rw[fh e]at h h2;have:=oV h;have:=oV h2;exact lg oM
 ·rename_i e;rw[fb e]at h h2;have:=oV h;have:=oV h2;exact lg oM
def yQx {s x y:Int} (h:ki s x y=ax) (ji:x≠y):ki s y x=aw:=by
 rw[ki]at h ⊢;split
 ·rename_i e;rw[fh e]at h;have:=KS h;exact lg oM
 ·rename_i e;rw[fb e]at h;have:=KS h;exact lg oM
def y8m (L:List Lv):Prop:=∀l∈L,1<=l.dr
def zVu {s:Int}:∀(k:Nat) (A:List Lv),v7 s k A A=[]
 |0,_=>rfl
 |k+1,[]=>rfl
 |k+1,x::A=>by
  rw[v7];have:ki s x.dk x.dk=ax:=by rw[ki];split<;>simp
  rw[fb (by rw[this];decide),fb (by rw[this];decide),fh rfl,zVu k A];rfl
open Classical
def Lv.fit (x:Lv):Prop:=gx x.dk/\gx x.dr/\gx x.count
def Sd.fit (s:Sd):Prop:=(∀x∈s.levels,x.fit)/\s.imp.fit
def y3i (v:Vw):Prop:=∀b∈v,b.1.fit/\b.2.fit
structure VM where
 inst:Nat
 side:Int
 l:Lv
 imp:Bool
def lv0:Lv:=⟨0,0,0⟩
def OI (a b:Sd):Bool:=decide (a.imp≠b.imp)||decide (a.has≠b.has)
def MK (b:Sd):Lv:=if b.has=aw then b.imp else lv0
def wK (n:Nat) (s:Int) (a b:Sd):List VM:=(v7 s (a.levels.length+b.levels.length) a.levels b.levels).map (λl=>⟨n,s,l,ax⟩)++if OI a b=aw then[⟨n,s,MK b,aw⟩]else[]
def yBm (n:Nat) (s:Int) (a:Sd):wK n s a a=[]:=by
 rw[wK,zVu];simp[OI]
def wD (n:Nat):Vw->Vw->List VM
 |a::A,b::B=>wK n 1 a.1 b.1++wK n 2 a.2 b.2++wD (n+1) A B
 |_,_=>[]
def z9w:∀(n:Nat) (A:Vw),wD n A A=[]
 |_,[]=>rfl
 |n,a::A=>by rw[wD,yBm,yBm,z9w];rfl
def yAq {s:Int}:∀{F:List zI},IX s F->Ux s (xm F)
 |[],_=>List.Pairwise.nil
 |o::F,h=>by
  rw[IX,Hx]at h;have ih:=yAq h.2;rw[xm];cases hg:xm F with
  |nil=>exact List.pairwise_singleton _ _
  |cons v vs=>
   rw[hg]at ih;dsimp only;have hv:=ih;rw[Ux,Hx]at hv;by_cases e:v.dk=o.dk
   ·rw[fh e];exact Hx.2 ⟨λw hw=>hv.1 w hw,hv.2⟩
   ·rw[fb e];obtain⟨o',r,e2,e3⟩:=Xf hg;have hb:ki s o.dk v.dk=aw:=by
     rw[<- e3];refine yQx (h.1 o' (by rw[e2];exact jm)) (by rw[e3];exact e)
    refine Hx.2 ⟨λw hw=> ?_,ih⟩;rcases mn.1 hw with rfl|hw
    ·exact hb
    ·exact yZp hb (hv.1 w hw)
def yQh {p:ff} {B:List (List zI)} (h:tg p B) {k:Nat} {L:List zI} (hL:B[k]? =ay L) {s:Int} (hs:s=1\/s=2):Ux s (gL L s)/\y8m (gL L s):=
 ⟨yAq (h.xa k L hL s hs),λl hl=>(UG (λo ho=>(h.od k L hL).1 o (uu.1 ho).1) hl).1⟩
def dR (l:List Quote) (b:Quote):Int×Int:=l.foldl (λa q=>if q.dk=b.dk then(if q.dr>a.1 then q.dr else a.1,a.2+1)else a) (b.dr,0)
def qN (l:List Quote) (s:Int):Lv×Bool:=if(zU l s).2 then(⟨(zU l s).1.dk,(dR l (zU l s).1).1,(dR l (zU l s).1).2⟩,aw)else(⟨0,0,0⟩,ax)
def JG:gi:=fp zw (λi=>[oD 6 (i.l.map zJ),zA i.s]) (λ_=>[]) (λi=>(i.s=1\/i.s=2)/\i.l.length<=1000000) (λi=> .ja [zA (qN i.l i.s).1.dk,zA (qN i.l i.s).1.dr,zA (qN i.l i.s).1.count,yN (qN i.l i.s).2]) (λ_=>[])
def y0f (i:zw):List gp:=[{ι:=Nat,dv:=λk=>[(8,.nm 0 0),(10,zA (dR (i.l.take k) (zU i.l i.s).1).1),(11,zA (dR (i.l.take k) (zU i.l i.s).1).2),(26,zA k)],rows:=λ_=>[.cells (Si (zU i.l i.s).1).cl 128]}]
def Hn (p:ff) (B:List (List zI)) (n:Nat) (s:Int):Sd:=⟨gL (B.getD n []) s,(qN (x5 ⟨p,B.map kC,n⟩ s) s).1,(qN (x5 ⟨p,B.map kC,n⟩ s) s).2⟩
def yO (p:ff) (B:List (List zI)):Vw:=(List.range p.count).map λn=>(Hn p B n 1,Hn p B n 2)
structure NG where
 s:gq
 p:ff
 B:List (List zI)
def y3h (i:NG):List gp:=[
 {ι:=Nat,dv:=λj=>[(5,.nm 0 0),(6,.own 2),(27,zA j)],rows:=λj=>[.cells [.own 1] 89,.own 180 10 (((yO i.p i.B).take j).map yG),.jc 6 ((i.B.map kC).map z7)]},
 {ι:=Unit,dv:=λ_=>[],rows:=λ_=>[],un:=3}]
def yK (m:tY):List D:=[.v (.int .i64 m.seq),.v (.int .i64 m.inst),.v (.int .i64 m.side),.v (.int .i64 m.dk),.v (.int .i64 m.dr),.v (.int .i64 m.count),.v (.bool m.iN)]
@[reducible] def NK:Nat:=78
@[reducible] def IW (l:List tY):fi:= .own NK 7 (l.map yK)
def wT (seq:Int):List VM->List tY
 |[]=>[]
 |m::M=>⟨seq+1,m.inst,m.side,m.l.dk,m.l.dr,m.l.count,m.imp⟩::wT (seq+1) M
structure te where
 seq:Int
 out:List tY
@[reducible] def NI (d:te):List fi:=[.cells [zA d.seq,.own 1] 266,IW d.out]
@[reducible] def DfP (d:te):List fi:=[.cells [zA d.seq,.own 2] 266,.gone,IW d.out]
def te.add (d:te) (M:List VM):te:=⟨d.seq+M.length,d.out++wT d.seq M⟩
@[reducible] def te.ok (d:te) (n:Nat):Prop:= -4611686018427387904<=d.seq/\d.seq+n<=4611686018427387904/\d.out.length+n<=1000000000
structure HX where
 d:te
 m:VM
def FX:gi:=fp HX (λi=>[.nm 0 0,zA i.m.inst,zA i.m.side,UY i.m.l,yN i.m.imp]) (λi=>NI i.d) (λi=>i.d.ok 1) (λ_=>bN) (λi=>DfP (i.d.add [i.m]))
structure Ar where
 d:te
 n:Nat
 s:Int
 a:Sd
 b:Sd
def FY:gi:=fp Ar (λi=>[.nm 0 0,zA i.n,zA i.s,sdV i.a,sdV i.b]) (λi=>NI i.d) (λi=>i.d.ok (i.a.levels.length+i.b.levels.length+1)) (λ_=>bN) (λi=>DfP (i.d.add (wK i.n i.s i.a i.b)))
structure vw where
 x:List Lv
 y:List Lv
 M:List VM
def yXz (i:Ar):List gp:=[{ι:=vw,dv:=λj=>[(0,.nm 0 0),(10,oD 3 (j.x.map kx)),(11,oD 3 (j.y.map kx))],rows:=λj=>NI (i.d.add j.M)}]
def y7v:gp:={ι:=te,dv:=λ_=>[(0,.nm 0 0)],rows:=λd=>NI d,oI:=λ_=>[(0,.nm 0 0)],lp:=λd=>NI d}
def lvT (t:Nat):gp:={ι:=Lv,dv:=λ_=>[(t,.nm 0 0)],rows:=λl=>[.cells [zA l.dk,zA l.dr,zA l.count] 177],oI:=λ_=>[(t,.nm 0 0)],lp:=λl=>[.cells [zA l.dk,zA l.dr,zA l.count] 177]}
def yZj:List (Nat×gp):=[(24,bj 41),(36,bj 73),(12,bj 29),(14,y7v),(48,bj 109),(58,lvT 12)]
structure JB where
 v:Vw
 w:Vw
 seq:Int
def Vw.pn (v:Vw):Nat:=(v.map λb=>b.1.levels.length+b.2.levels.length).sum
def J':gi:=fp JB (λi=>[UT i.v,UT i.w,zA i.seq]) (λ_=>[]) (λi=>i.v.length=i.w.length/\(-4000000000000000000<=i.seq/\i.seq<=4000000000000000000)/\Vw.pn i.v<=100000000/\Vw.pn i.w<=100000000/\i.v.length<=1000000) (λ_=> .own 0) (λi=>[IW (wT i.seq (wD 0 i.v i.w))])
def y4g (i:JB):List gp:=[
 {ι:=Nat,dv:=λj=>[(7,.nm 0 0),(24,zA j)],rows:=λj=>NI (te.add ⟨i.seq,[]⟩ (wD 0 (i.v.take j) (i.w.take j)))},
 {ι:=Unit,dv:=λ_=>[],rows:=λ_=>[],un:=3}]
end Sx
