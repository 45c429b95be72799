/- Texts of ours. No condition. -/
import Derived.Maps.RangeRun
import Derived.Test.YtgmmlhddihaocaaGreatC11
set_option linter.all false
open Sx.ff renaming cells->aa,map->ab,own->ac,qq->ae,ja->af,jt->ag
open Go.IntKind renaming i64->aj
open Go.Value renaming int->ak
open Go renaming MapEntry->am,TypeId->ao,Value->ap,World->aq
open List renaming map->ar,map_singleton->au,length->av
open Bool renaming true->aw,false->ax
open Option renaming some->ay,none->az
open List.Perm renaming swap->ba,cons->bc
namespace Sx
set_option maxRecDepth 100000
open Go Cv Go.Proofs
def yj (f:Int->Int) (k v:Int):Int->Int:=λx=>if x=k then v else f x
def one (r:fk) (m:Int):Int:=if r.kind=3/\r.inst=m then(if r.side=1 then r.dq else-r.dq)else 0
def vq (p:fb) (k s q m:Int):Int:=
 if(p.ga k).2.2=aw then(if(p.ga k).1=m then(if s=1 then q else-q)else 0)-(if(p.ga k).2.1=m then(if s=1 then q else-q)else 0)
 else if k=m then(if s=1 then q else-q)else 0
def zTc {p:fb} (hc:p.check=0):1<=p.count/\p.count<=21:=by
 have h1:=Sv hc;have h2:=(qR hc).m2;have h3:=xR p;omega
def yOn (c:ib):1<=uH c/\uH c<=4:=by
 have:=yV (n:=c.kind) (lo:=0) (hi:=8) oM;rw[uH];split<;>omega
def yFm (t:wz):(yZ t).kind=uH t.c:=by
 rw[yZ];split<;>rfl
def yHf (t:wz):1<=(yZ t).dq/\(yZ t).dq<=12:=by
 have:=yV (n:=t.c.dq) (lo:=0) (hi:=11) oM;have e:(yZ t).dq=1+zG t.c.dq 0 11:=by rw[yZ];split<;>rfl
 omega
def tJ (t:wz):(yZ t).label=[]:=by
 rw[yZ];split<;>rfl
def z2w (x:fb) (c:ib) (i:Int) (hk:uH c=1):let y:=yZ ⟨gy x,c,i⟩
 (0<=y.inst/\y.inst<(gy x).count)/\(y.side=1\/y.side=2)/\(1<=y.time/\y.time<=3)/\(0<=y.least/\y.least<=y.dq)/\(-2000000<=y.dj/\y.dj<=2000000)/\(gy x).dj y.inst y.dj=0:=by
 have hc:=nK x;have hcb:=zTc hc;have ht:=Su x;have wi:=yV (n:=c.inst) (lo:=0) (hi:=((gy x).count:Int)-1) oM;have ws:=yV (n:=c.side) (lo:=0) (hi:=1) oM;have wq:=yV (n:=c.dq) (lo:=0) (hi:=11) oM;have wp:=yV (n:=c.dj) (lo:=0) (hi:=9) oM;have ww:=yV (n:=x.wide) (lo:=0) (hi:=60) oM;have wl:=yV (n:=c.least) (lo:=0) (hi:=1+zG c.dq 0 11) oM;have hm:=eY (a:=zS x) (b:=zG c.dj 0 9) (m:=zS x) (n:=9) oM wp;have hw:=eY (a:=zS x) (b:=zG x.wide 0 60) (m:=zS x) (n:=60) oM ww;have hh:(y6 ⟨gy x,c,i⟩).kind=1:=hk;have e:yZ ⟨gy x,c,i⟩={y6 ⟨gy x,c,i⟩with id:=i+1,time:=dH c,least:=cP c (1+zG c.dq 0 11),dj:=if((gy x).ga (zG c.inst 0 ((gy x).count-1))).2.2=aw then zS x*zG c.dj 0 9-4*zS x else zS x*zG c.dj 0 9+8*zS x}:=by
  rw[yZ,fc hh];rfl
 intro y;have ey:y=_:=e;rw[ey];have htm:1<=dH c/\dH c<=3:=by rw[dH];split;omega;split<;>omega
 have hle:0<=cP c (1+zG c.dq 0 11)/\cP c (1+zG c.dq 0 11)<=1+zG c.dq 0 11:=by rw[cP];split<;>omega
 refine⟨⟨wi.1,by show zG c.inst 0 ((gy x).count-1)<_;omega⟩,by show 1+zG c.side 0 1=1\/1+zG c.side 0 1=2;omega,htm,hle,?_,?_⟩
 ·dsimp only;split<;>omega
 ·dsimp only;show(gy x).dj (zG c.inst 0 ((gy x).count-1)) _=0;obtain⟨k,ra⟩:∃k:Nat,zG c.inst 0 (((gy x).count:Int)-1)=k:=⟨(zG c.inst 0 (((gy x).count:Int)-1)).toNat,oM⟩
  rw[ra]at wi ⊢;have hkc:k<(gy x).count:=by omega
  have et:(gy x).tick=zS x:=rfl;have el:(gy x).low= -20*zS x:=rfl;have eh:(gy x).high=100*zS x:=rfl;have ew:(gy x).wide=zS x*(5+zG x.wide 0 60):=rfl;rw[Int.mul_add]at ew;rw[fb.dj,ej (by omega),ej (by omega),et,el,eh,ew];rcases fD hc hkc with⟨h1,_⟩|⟨h1,h2⟩
  ·have KN:((gy x).dk.length:Int)<=k:=by
    rcases uo k (gy x).dk.length with y|y
    ·rw[fb.ga,ej (by omega),fc (by omega)]at h1;cases h1
    ·omega
   rw[fc h1,fc KN,fc KN,ej,ej (by omega)];have:zS x*zG c.dj 0 9-4*zS x=zS x*(zG c.dj 0 9-4):=by rw[Int.mul_sub,Ex 4]
   rw[this,Mp];decide
  ·have gr:¬((gy x).dk.length:Int)<=k:=by omega
   rw[ej (show ¬((gy x).ga k).2.2=aw by rw[h1];decide),ej gr,ej gr,ej,ej (by omega)];have:zS x*zG c.dj 0 9+8*zS x=zS x*(zG c.dj 0 9+8):=by rw[Int.mul_add,Ex 8]
   rw[this,Mp];decide
def zQv (x:fb) (c:ib) (i:Int): -2000000<=(yZ ⟨gy x,c,i⟩).dj/\(yZ ⟨gy x,c,i⟩).dj<=2000000:=by
 have ht:=Su x;have wp:=yV (n:=c.dj) (lo:=0) (hi:=9) oM;have hm:=eY (a:=zS x) (b:=zG c.dj 0 9) (m:=zS x) (n:=9) oM wp;have et:(gy x).tick=zS x:=rfl;by_cases h1:uH c=1
 ·obtain⟨_,_,_,_,h,_⟩:=z2w x c i h1;exact h
 ·have hh:¬(y6 ⟨gy x,c,i⟩).kind=1:=h1;have e:(yZ ⟨gy x,c,i⟩).dj=if(y6 ⟨gy x,c,i⟩).kind=4 then zS x*zG c.dj 0 9+5*zS x else zS x*zG c.dj 0 9:=by rw[yZ,ej hh];rfl
  rw[e];split<;>omega
def z6d (x:fb) (c:ib) (i id:Int) (AI:1<=id/\id<=1099511627776):ib.right {yZ ⟨gy x,c,i⟩with id:=id}=0:=by
 have hk:=yOn c;have hq:=yHf ⟨gy x,c,i⟩;have hp:=zQv x c i;have hcb:=zTc (nK x);rw[ib.right];dsimp only;rw[yFm];dsimp only;rw[ej (by omega),ej (by omega)];have q1:kE (yZ ⟨gy x,c,i⟩).dq=aw:=by rw[kE,lg (by omega),lg (by omega)];rfl
 have q2:vR (yZ ⟨gy x,c,i⟩).dj=aw:=by rw[vR,lg (by omega),lg (by omega)];rfl
 by_cases h1:uH c=1
 ·obtain⟨a1,a2,a3,a4,a5,a6⟩:=z2w x c i h1;rw[fc h1,ib.fw];dsimp only;rw[ej (by omega),ej (by omega),ej (by rw[q1];decide),ej (by omega),ej (by rw[tJ];simp),ej (by rw[q2];decide),ej (by omega)]
 ·rw[ej h1,ej (by rw[q1];simp),ej (by rw[q2];simp)]
def dE (W:List (Int×Int)) (id:Int):Int×Bool:=match W.find? λx=>decide (x.1=id)with
 |some x=>(x.2,aw)
 |none=>(0,ax)
def Ip:List (Int×Int)->Int->Int->List (Int×Int)
 |[],id,s=>[(id,s)]
 |x::W,id,s=>if id=x.1 then(x.1,s)::W else x::Ip W id s
def yJu (x:Int×Int) (W:List (Int×Int)) (id:Int):dE (x::W) id=if id=x.1 then(x.2,aw)else dE W id:=by
 rw[dE,MJ];by_cases c:id=x.1
 ·rw[fc c,lg c.symm]
 ·rw[ej c,kr (λe=>c e.symm)];rfl
structure PB where
 B:List (List zI)
 U:List Int
 W:List (Int×Int)
 O:List (Int×fk)
def MD (B:List (List zI)) (U:List Int) (W:List (Int×Int)) (s id oS:Int):PB:=⟨B,U,W,[(s,⟨2,id,0,0,0,0,0,oS⟩)]⟩
def lG (s:Int):List (Int×Int)->List fk->List (Int×Int)×List (Int×fk)
 |W,[]=>(W,[])
 |W,r::R=>
  let W1:=if r.kind=1 then Ip W r.id s else W
  ((lG s W1 R).1,(if r.kind=2 then s else(dE W1 r.id).1,r)::(lG s W1 R).2)
def Iw (B:List (List zI)) (W:List (Int×Int)) (s:Int):Nat:=(rm 0 B).countP λx=>decide ((dE W x.1).1=s)
def Nu (p:fb) (B:List (List zI)) (U:List Int) (W:List (Int×Int)) (s:Int) (c:ib):PB:=
 if c.kind=1/\64<=Iw B W s then MD B U W s c.id 30
 else if c.kind≠1/\((dE W c.id).2=ax\/(dE W c.id).1≠s)then MD B U W s c.id 26
 else⟨(AJ p B U c).B,(AJ p B U c).U,(lG s W (AJ p B U c).R).1,(lG s W (AJ p B U c).R).2⟩
def nP (p:fb) (B:List (List zI)) (U:List Int) (W:List (Int×Int)) (s:Int) (b:List UInt8):PB:=
 if s<0\/8<=s then MD B U W s 0 1 else if(xJ b).2≠0 then MD B U W s 0 (xJ b).2 else Nu p B U W s (xJ b).1
def z9x (p:fb) (x:j9) {r:fk} (hr:r.kind=3):∀y∈nB p x r,y.kind=3:=by
 intro y hy;rw[nB,mf]at hy;rcases hy with rfl|hy
 ·exact hr
 ·split at hy
  ·rw[NS]at hy;simp only[mf,ML,or_false]at hy;rcases hy with rfl|rfl<;>exact hr
  ·cases hy
def z2s (p:fb) (c:ib):∀(l:List j9) (q:Int),∀y∈mA p c l q,y.kind=3
 |[],_,y,hy=>by cases hy
 |x::l,q,y,hy=>by
  rw[mA,pn]at hy;rcases hy with hy|hy
  ·rw[nH,pn]at hy;rcases hy with hy|hy
   ·obtain⟨f,_,hy⟩:=AB.1 hy;exact z9x p x rfl y hy
   ·exact z9x p x rfl y hy
  ·exact z2s p c l _ y hy
def zYz (p:fb) (B:List (List zI)) (U:List Int) (c:ib):(∀r∈(bJ p B U c).R,r.kind=1->r.id=c.id)/\∃r l,(bJ p B U c).R=r::l/\r.kind=1/\r.id=c.id:=by
 rw[Tt];dsimp only;refine⟨λr hr hk=> ?_,_,_,rfl,rfl,rfl⟩;rw[tv,mf,pn]at hr;rcases hr with rfl|hr|hr
 ·rfl
 ·have:=z2s _ _ _ _ r hr;omega
 ·split at hr
  ·rw[vf]at hr;subst hr;rfl
  ·cases hr
def z8y:∀{l m:List Nat},l.Nodup->(∀x∈l,x∈m)->l.length<=m.length
 |[],m,_,_=>my _
 |a::l,m,h,hs=>by
  rw[ze]at h;have ha:=hs a ji;have:=z8y (l:=l) (m:=m.erase a) h.2 λx hx=>(List.mem_erase_of_ne (λe=>h.1 (by rw[<- e];exact hx))).2 (hs x (jw _ hx))
  rw[List.length_erase_of_mem ha]at this;have:=List.length_pos_of_mem ha;rw[iD];omega
structure Handed (fq:List am) (seen:Array Nat) (dn:List am):Prop where
 sn:seen.toList=dn.map (·.born)
 nd:(dn.map (·.born)).Nodup
 sub:∀e∈dn,e∈fq
def Handed.push {fq:List am} {seen:Array Nat} {dn:List am} (h:Handed fq seen dn) {e:am} (he:e∈(leftOf fq.toArray seen).toList):Handed fq (seen.push e.born) (dn++[e]):=by
 simp only[leftOf,Array.toList_filter,ve,EB]at he;obtain⟨h1,h2⟩:=he;have h3:e.born∉dn.map (·.born):=by
  rw[<- h.sn];intro hm;have:seen.contains e.born=aw:=by
   rw[Array.contains_iff_mem];exact Array.mem_toList_iff.1 hm
  rw[this]at h2;cases h2
 refine⟨by rw[Array.toList_push,h.sn,jk];rfl,?_,λx hx=> ?_⟩
 ·rw[jk,au,zx];exact⟨h.nd,by simp,λx hx y hy e=>by rw[vf]at hy;subst hy;subst e;exact h3 hx⟩
 ·rcases pn.1 hx with hx|hx
  ·exact h.sub x hx
  ·rw[vf]at hx;subst hx;exact h1
def Handed.len {fq:List am} {seen:Array Nat} {dn:List am} (h:Handed fq seen dn):dn.length<=fq.length:=by
 have:=z8y (m:=fq.map (·.born)) h.nd λx hx=>by
  obtain⟨e,he,rfl⟩:=pk.1 hx;exact su (f:=(·.born)) (h.sub e he)
 simpa using this
def Handed.all {fq:List am} {seen:Array Nat} {dn:List am} (h:Handed fq seen dn) (hn:(fq.map (·.born)).Nodup) (h0:(leftOf fq.toArray seen).size=0):dn.Perm fq:=by
 have inj:∀{l:List am},(l.map (·.born)).Nodup->∀x∈l,∀y∈l,x.born=y.born->x=y:=by
  intro l hl
  induction l with
  |nil=>intro x hx;cases hx
  |cons a l ih=>
   rw[jo,ze]at hl;intro x hx y hy e;rcases mf.1 hx with e1|h1<;>rcases mf.1 hy with e2|h2
   ·rw[e1,e2]
   ·refine absurd ?_ hl.1;rw[<- e1,e];exact su (f:=(·.born)) h2
   ·refine absurd ?_ hl.1;rw[<- e2,<- e];exact su (f:=(·.born)) h1
   ·exact ih hl.2 x h1 y h2 e
 have nd:∀{l:List am},(l.map (·.born)).Nodup->l.Nodup:=λhl=>List.Pairwise.imp (λje e=>je (by rw[e])) (List.pairwise_map.1 hl)
 refine(List.perm_ext_iff_of_nodup (nd h.nd) (nd hn)).2 λe=>⟨h.sub e,λhe=> ?_⟩
 have:seen.contains e.born=aw:=by
  cases hc:seen.contains e.born with
  |true=>rfl
  |false=>
   have hm:e∈(leftOf fq.toArray seen).toList:=by
    simp only[leftOf,Array.toList_filter,ve];exact⟨he,by rw[hc];rfl⟩
   have:(leftOf fq.toArray seen).toList=[]:=xu (by simpa using h0);rw[this]at hm;cases hm
 rw[Array.contains_iff_mem]at this;have:=Array.mem_toList_iff.2 this;rw[h.sn]at this;obtain⟨x,hx,e2⟩:=pk.1 this;rw[<- inj hn x (h.sub x hx) e he e2];exact hx
def ZA (k:Ko) (LL:List HP) (fq:List am) (e:Ending) (w':aq):Prop:=∃(a:Option Addr) (n c:Nat) (xs:List ap) (dn:List am),e=.returned (.slice a n c)/\xs=dn.map (·.key)/\n=dn.length/\dn.Perm fq/\Hp k w' (oa 2 1 a n c xs::LL)
def yMs (k:Ko) (LL:List HP) (fq:List am) (r bm ck:Nat) (v:ap) (w1:aq):Prop:=∃(a:Option Addr) (n c:Nat) (xs:List ap) (seen:Array Nat) (c0:Nat) (dn:List am),v=.slice a n c/\xs=dn.map (·.key)/\n=dn.length/\ck<=c0/\Handed fq seen dn/\Hp k w1 (oa 2 1 a n c xs::pt r (.mapIter (ay bm) ck seen c0)::LL)
def yGb (fq:List am) (v:ap) (_:aq):Nat:=match v with| .slice _ n _=>fq.length-n|_=>0
def yDq {b bm ck:Nat} {fq:List am} {w:aq} {k:Ko} {LL:List HP} {l:List ap} {T:ao}
 (H:Hp k w LL) (td:∀w',Hp k w' LL->w'.heap[b]? =ay (.cells l.toArray T)/\w'.heap[bm]? =ay (.map fq.toArray ck)) (hl:l[12]? =ay (.map (ay bm)))
 (hck:∀e∈fq,e.born<ck) (hn:(fq.map (·.born)).Nodup) (hk:∀e∈fq,∃n,e.key= .int .i64 n) (oT:fq.length<=1000000):
 Calls Tryz.prog 193 #[.pointer (ay ⟨b,0,az⟩)] w (ZA k LL fq):=by
 refine uh (c:=Tryz.f193.body.getD .skip) (args:=[.pointer (ay ⟨b,0,az⟩)]) mixed Tryz.func193 (by kernel_rfl) [{ι:=ap,Py:=λv=>[(3,v)],fix:=[9]}] (by kernel_rfl) (by kernel_rfl) (by kernel_rfl) ?_;obtain⟨h1,h2⟩:=td w H;have hu:Tryz.prog.underlying 100=ay (.map 2 3):=by kernel_rfl
 refine⟨ay bm,?_,ay ⟨w.heap.size,0,az⟩,w.alloc (.mapIter (ay bm) ck #[] ck),?_,?_⟩
 ·show nC Tryz.prog 100 ⟨b,12,az⟩ w (.map (ay bm));exact vF (by kernel_rfl) h1 hl
 ·show(Instr.range 100 (.map (ay bm))).run Tryz.prog w=_;exact run_range_map w _ _ _ bm _ ck hu h2
 refine⟨yMs k LL fq w.heap.size bm ck,yGb fq,⟨.slice az 0 0,rfl,az,0,0,[],#[],ck,[],rfl,rfl,rfl,km _,⟨rfl,List.nodup_nil,λe he=>by cases he⟩,(H.new _).nil _ _⟩,?_⟩;rintro j v w1 ⟨a,n,c,xs,seen,c0,dn,rfl,vh,O5,Ni,hh,H1⟩;have hr:=H1.drop.get;obtain⟨-,g2⟩:=td w1 H1.drop.drop;rcases run_next_at (P:=Tryz.prog) w1 0 w.heap.size bm ck c0 seen fq.toArray ck hr g2 (λx hx=>hck x (by simpa using hx)) Ni with⟨e1,e2⟩|⟨e,he,w2,hw2,jg⟩
 ·refine .inl ⟨w1,e2,?_⟩;show ZA k LL fq (.returned (.slice a n c)) w1;exact⟨a,n,c,xs,dn,rfl,vh,O5,hh.all hn e1,(H1.swap).drop⟩
 ·have tf:e∈fq:=by
   have:=he;simp only[leftOf,Array.toList_filter,ve]at this;exact this.1
  obtain⟨m,hm⟩:=hk e tf;have hp:=hh.push he;have H2:Hp k (World.iR w2 w.heap.size (.mapIter (ay bm) ck (seen.push e.born) ck)) (oa 2 1 a n c xs::pt w.heap.size (.mapIter (ay bm) ck (seen.push e.born) ck)::LL):=by
   have H1':Hp k w2 (oa 2 1 a n c xs::pt w.heap.size (.mapIter (ay bm) ck seen c0)::LL):=by
    rcases hw2 with rfl|rfl
    ·exact H1
    ·exact H1.drew
   exact((H1'.swap).yj _).swap
  have qd:Go.ChangeMaps.setBlock w2 w.heap.size (.mapIter (ay bm) ck (seen.push e.born) ck)=World.iR w2 w.heap.size (.mapIter (ay bm) ck (seen.push e.born) ck):=rfl;rw[qd]at jg;generalize Uw:World.iR w2 w.heap.size (.mapIter (ay bm) ck (seen.push e.born) ck)=w3 at H2 jg;obtain⟨-,g3⟩:=td w3 H2.drop.drop;have DI:=run_entry_at (P:=Tryz.prog) w3 w.heap.size bm ck seen fq.toArray ck e H2.drop.get g3 (by simpa using tf) (by simpa using hn);refine .inr ⟨e.key,e.val,w3,jg,.tuple #[e.key,e.val],DI,?_⟩;rw[hm];have hlen:=hp.len;rw[im,AE]at hlen;refine Eq.mp (α:=Kt w3 (.cells #[.int .i64 m] 2) λbb w4=>∃(a':Option Addr) (n' c':Nat),∃w5,gH Tryz.prog (Builtin.append_ #[23,23] 23 #[.slice a n c,.slice (ay ⟨bb,0,az⟩) 1 1]) w4 (.slice a' n' c') w5/\∃i',.slice a' n' c'=i'/\yMs k LL fq w.heap.size bm ck i' w5/\yGb fq i' w5<yGb fq (.slice a n c) w1) (by kernel_rfl) ?_;rintro bb w4 hb hw4;subst hb hw4;have H3:=(H2.new (.cells [ak .i64 m].toArray 2)).lit (sz:=1) (n:=1) rfl;obtain⟨a',c',w5,Je,H5⟩:=(H3.swap).append (P:=Tryz.prog) (t1:=23) (t2:=23) (rt:=23) (e:=2) (sz:=1) (ou:=8) (z:= #[.int .i64 0]) (by kernel_rfl) (by kernel_rfl) (x:= .slice (ay ⟨w3.heap.size,0,az⟩) 1 1) (m:=1) (ys:=[.int .i64 m]) (.inl ⟨_,_,rfl,H3.HL⟩) (by simp[Value.nv]) rfl Z8 oM;refine⟨a',n+1,c',w5,Je,.slice a' (n+1) c',rfl,⟨a',n+1,c',_,_,ck,dn++[e],rfl,?_,?_,km _,hp,(H5.swap).drop⟩,?_⟩
  ·rw[vh,jk,au,hm]
  ·rw[im,O5];rfl
  ·show fq.length-(n+1)<fq.length-n;omega
def yCb {F:PH}:∀{l:List (Int×Int)} {fq:List am},MR F (yR l) fq->fq.map (·.key)=l.map (λp=>ak .i64 p.1)
 |[],fq,h=>by
  have h:fq=[]:=h;subst h;rfl
 |p::l,fq,h=>by
  obtain⟨m,ms,rfl,h1,-,h3⟩:=h;rw[jo,jo,yCb (l:=l) h3,h1]
def T3:ap->Int
 | .int _ n=>n
 |_=>0
def yDd {xs:List ap} {m:List Int} (h:xs.Perm (m.map λn=>ak .i64 n)):∃l:List Int,xs=l.map (λn=>ak .i64 n)/\l.Perm m:=by
 refine⟨xs.map T3,?_,?_⟩
 ·rw[vu];have:∀x∈xs,((λn=>ak .i64 n)∘T3) x=x:=by
   intro x hx;obtain⟨n,_,rfl⟩:=pk.1 (h.mem_iff.1 hx);rfl
  rw[ui this,List.map_id']
 ·have:=h.map T3;rw[vu]at this;have e:(T3∘λn=>ak .i64 n)=id:=rfl;rw[e,List.map_id]at this;exact this
def yBi (F:PH):∀l:List Int,iz F (iE l).flatten (l.map λn=>ak .i64 n)
 |[]=>by simp[iE,iz]
 |n::l=>by
  have ih:=yBi F l;have e:(iE (n::l)).flatten= .v (.int .i64 n)::(iE l).flatten:=rfl;rw[e,iz];exact⟨.int .i64 n,_,rfl,by simp[DR,Value.nv],ih⟩
def xj:fy where
 ι:=gl
 pat:=λ_=>[.nm 0 0]
 pre:=λs=>[zE s]
 dp:=λs=>s.wh.length<=1000000
 alts:=λs=>[{o:=List Int,res:=λ_=> .own 1,post:=λl=>[zE s,.own 2 1 (iE l)],rel:=λl=>l.Perm (s.wh.map (·.1))}]
@[reducible] def DQ (s:gl):St:=RR [0] ⟨gC 0 (xj.pre s),(xj.pre s).length⟩
def yRr (s:gl) (l:List Int) (hl:l.Perm (s.wh.map (·.1))):TL 1 (.own 5) ((DQ s).new (.own 2 1 (iE l))) (xj.alts s):=by
 refine Eq.mp (α:=∃(o:List Int),sb s.p.code=sb s.p.code/\s.p.tick=s.p.tick/\s.p.low=s.p.low/\s.p.high=s.p.high/\s.p.wide=s.p.wide/\s.p.dr=s.p.dr/\s.p.top=s.p.top/\s.p.least=s.p.least/\s.p.part=s.p.part/\ag 211 dm 6 zQ s.dz az=ag 211 dm 6 zQ s.dz az/\yR s.wh=yR s.wh/\af 1 (iE s.p.dk)=af 1 (iE s.p.dk)/\af 1 (iE s.p.settle)=af 1 (iE s.p.settle)/\iE o=iE l/\o.Perm (s.wh.map (·.1))) (by kernel_rfl) ?_
 exact⟨l,gm (ma hl)⟩
def yIt:xj.ok Tryz.prog 193:=by
 intro s hc k L E w ys R hv;have hc:s.wh.length<=1000000:=hc;have BC:=R.nx;obtain⟨E1,hle,R1⟩:=Yq [0] R;have R1:Rel k L E1 (DQ s) w:=R1;have Ni:(DQ s).get 0=ay (.cells [sV s.p.code,.own 3,zA s.p.tick,zA s.p.low,zA s.p.high,zA s.p.wide,zA s.p.dr,zA s.p.top,zA s.p.least,zA s.p.part,.own 4,.own 1,.mp 2] 210):=rfl;have BE:((DQ s).del 0).get 2=ay (.map (yR s.wh)):=rfl;have Ra:=(R1.take Ni).take BE;have H0:Hp k w (gu E1 (2,.map (yR s.wh))::gu E1 (0,.cells [sV s.p.code,.own 3,zA s.p.tick,zA s.p.low,zA s.p.high,zA s.p.wide,zA s.p.dr,zA s.p.top,zA s.p.least,zA s.p.part,.own 4,.own 1,.mp 2] 210)::((((DQ s).del 0).del 2).rows.map (gu E1)++fz E1.F::L)):=
  Ra.out.perm (.cons _ (((ba _ _ _).append_left _).trans mg))
 generalize Bf:(((DQ s).del 0).del 2).rows.map (gu E1)++fz E1.F::L=rest at H0;obtain⟨hk,hs,hh⟩:=H0;cases hh with
 |cons ha iS GL hr=>
 cases hr with
 |cons ha0 QX aaT GD=>
 rcases ha with⟨e,_⟩|⟨zi,t2,r2⟩
 ·cases e
 rcases ha0 with⟨e,_⟩|⟨hd0,t0,r0⟩
 ·cases e
 simp only[fi]at r2 r0;obtain⟨bm,fq,ck,q1,q2,q3,rfl⟩:=r2;obtain⟨b,l,p1,p2,rfl⟩:=r0;have H:Hp k w (pt bm (.map fq.toArray ck)::pt b (.cells l.toArray 210)::rest):=⟨hk,_,.cons rfl iS GL (.cons rfl QX aaT GD)⟩
 have aaL:l[12]? =ay (.map (ay bm)):=by
  simp only[gp,VR]at p2;obtain⟨_,_,rfl,-,_,_,rfl,-,_,_,rfl,-,_,_,rfl,-,_,_,rfl,-,_,_,rfl,-,_,_,rfl,-,_,_,rfl,-,_,_,rfl,-,_,_,rfl,-,_,_,rfl,-,_,_,rfl,-,y,_,rfl,⟨bb,sub,g1,rfl⟩,rfl⟩:=p2;rw[t2]at g1;cases g1;cases q1;rfl
 have GB:ys=[.pointer (ay ⟨b,0,az⟩)]:=by
  simp only[xj,gp,VR]at hv;obtain⟨y,_,rfl,⟨b',oo,sub,g1,rfl⟩,rfl⟩:=hv;rw[hle.get g1]at t0;cases t0;cases p1;rfl
 subst GB;have Ff:=yCb q2;have hlen:fq.length=s.wh.length:=by simpa using congrArg av Ff
 have vt:=yDq H (λw' H'=>⟨(H'.swap).get,H'.get⟩) aaL q3.2 q3.1 (λe he=>by
  have:e.key∈fq.map (·.key):=su (f:=(·.key)) he
  rw[Ff]at this;obtain⟨p,_,hp⟩:=pk.1 this;exact⟨p.1,hp.symm⟩) oM
 have hdo:=aZ (P:=Tryz.prog) (f:=193) (args:= #[.pointer (ay ⟨b,0,az⟩)]) (w:=w) (K:=λv w'=>ZA k (pt bm (.map fq.toArray ck)::pt b (.cells l.toArray 210)::rest) fq (.returned v) w') (by kernel_rfl) (vt.mono λe w' h=>by
  have h2:=h;obtain⟨a,n,c,xs,dn,rfl,-⟩:=h2;exact⟨_,rfl,h⟩)
 refine hdo.mono ?_;rintro v w' ⟨a,n,c,xs,dn,I4,rfl,rfl,Q4,H2⟩;cases I4;obtain⟨li,e1,e2⟩:=yDd (xs:=dn.map (·.key)) (m:=s.wh.map (·.1)) (by
  have:=Q4.map (·.key)
  rw[Ff]at this;rwa [vu])
 have Qr:dn.length=li.length:=by simpa using congrArg av e1
 rw[e1,Qr]at H2;rw[Qr];have H3:Hp k w' (oa 2 1 a li.length c (li.map λn=>ak .i64 n)::((DQ s).rows.map (gu E1)++fz E1.F::L)):=by
  have h1:Hp k w' (gu E1 (2,.map (yR s.wh))::gu E1 (0,.cells [sV s.p.code,.own 3,zA s.p.tick,zA s.p.low,zA s.p.high,zA s.p.wide,zA s.p.dr,zA s.p.top,zA s.p.least,zA s.p.part,.own 4,.own 1,.mp 2] 210)::oa 2 1 a li.length c (li.map λn=>ak .i64 n)::rest):=by
   have g0:Hp k w' (pt bm (.map fq.toArray ck)::pt b (.cells l.toArray 210)::oa 2 1 a li.length c (li.map λn=>ak .i64 n)::rest):=
    H2.perm ((ba _ _ _).trans (.cons _ (.swap _ _ _)))
   have g1:=g0.imp (B:=gu E1 (2,.map (yR s.wh))) λx hx=> .inr ⟨zi,t2,by simp only[fi];exact⟨bm,fq,ck,q1,q2,q3,hx⟩⟩
   have g2:=(g1.swap).imp (B:=gu E1 (0,.cells [sV s.p.code,.own 3,zA s.p.tick,zA s.p.low,zA s.p.high,zA s.p.wide,zA s.p.dr,zA s.p.top,zA s.p.least,zA s.p.part,.own 4,.own 1,.mp 2] 210)) λx hx=> .inr ⟨hd0,t0,by simp only[fi];exact⟨b,l,p1,p2,hx⟩⟩
   exact g2.swap
  subst Bf;refine h1.perm ?_;have p0:=((vQ Ni).1.map (gu E1))
  have p2:=((vQ BE).1.map (gu E1))
  have p3:=(p0.trans (p2.cons _)).append_right (fz E1.F::L);refine List.Perm.trans ?_ (p3.symm.cons _);exact(ba _ _ _).trans ((bc _ (.swap _ _ _)).trans (.swap _ _ _))
 have tg:E1.le ⟨E1.F,E1.fv++[((.slice a li.length c,[]):Hd)]⟩:=Ev.le.app _;have jv:(E1.fv++[((.slice a li.length c,[]):Hd)])[(DQ s).nx]? =ay (.slice a li.length c,[]):=by rw[<- R1.nx];simp
 have R2:Rel k L ⟨E1.F,E1.fv++[((.slice a li.length c,[]):Hd)]⟩ ((DQ s).new (.own 2 1 (iE li))) w':=by
  refine⟨by simp[St.new,R1.nx],?_⟩;have g1:Hp k w' ((DQ s).rows.map (gu E1)++(oa 2 1 a li.length c (li.map λn=>ak .i64 n)::fz E1.F::L)):=H3.perm (mg (l₁:=(DQ s).rows.map (gu E1))).symm;have g2:=wO (λr x=>gu.mono tg r) g1;have g3:Hp k w' (oa 2 1 a li.length c (li.map λn=>ak .i64 n)::((DQ s).rows.map (gu ⟨E1.F,E1.fv++[((.slice a li.length c,[]):Hd)]⟩)++fz E1.F::L)):=g2.perm mg;exact g3.imp λx hx=> .inr ⟨_,jv,by
   simp only[fi];exact⟨a,c,_,by rw[y4],yBi _ li,λel oR=>by obtain⟨n,_,rfl⟩:=pk.1 oR;rfl,by rw[y4];exact hx⟩⟩
 obtain⟨al,ha,EZ⟩:=SD (yRr s li e2);obtain⟨o,o1,E3,o2,o3,o4⟩:=Vq EZ BC (hle.trans tg) R2 (y:= .slice a li.length c) (by simp only[VR];exact⟨_,jv,_,_,_,rfl⟩);exact⟨al,ha,o,o1,E3,o2,o3,o4⟩
structure Jl where
 m:ic
 p:fb
 B:List (List zI)
 U:List Int
@[reducible] def Jl.ok (i:Jl):Prop:=i.m.fk i.p i.B i.U/\iQ i.p i.B
def QR:fy where
 ι:=Jl
 pat:=λ_=>[.nm 0 0]
 pre:=λi=>[jR i.m]
 dp:=λi=>i.ok
 alts:=λi=>[{o:=List Int,res:=λ_=> .own 1,post:=λl=>[jR i.m,.own 2 1 (iE l)],rel:=λl=>l.Perm ((rm 0 i.B).map (·.1))}]
structure Gt where
 m:ic
 W:List (Int×Int)
def xK (W:List (Int×Int)):List (ap×List D):=W.map λx=>(.int .i64 x.1,[.v (.int .i64 x.2)])
def CQ (g:Gt):Nat->ff
 |0=> .cells [.nm 1 0,.mp 2] 134
 |1=>jR g.m
 |2=> .map (xK g.W)
 |_=> .gone
def iq (g:Gt):ff:= .qq Gt 3 CQ g
def jB (o:Int×fk):List D:= .v (.int .i64 o.1)::xP o.2
@[reducible] def Oc:Nat:=51
@[reducible] def Kr (O:List (Int×fk)):ff:= .own Oc 9 (O.map jB)
def QP:fy where
 ι:=fb
 pat:=λp=>[nu p]
 pre:=λ_=>[]
 dp:=λp=>p.small
 alts:=λp=>[{o:=Unit,res:=λ_=> .iW [.nm 0 0,zA 0],post:=λ_=>[iq ⟨⟨p,bL p,[]⟩,[]⟩],rel:=λ_=>p.check=0},{o:=Unit,res:=λ_=> .iW [.d (.v (.pointer az)),zA p.check],post:=λ_=>[],rel:=λ_=>p.check≠0}]
structure K2 where
 s:Int
 id:Int
 oS:Int
def Rj:fy:=fj K2 (λi=>[zA i.s,zA i.id,zA i.oS]) (λ_=>[]) (λ_=>True) (λ_=> .own 0) (λi=>[Kr [(i.s,⟨2,i.id,0,0,0,0,0,i.oS⟩)]])
structure uk where
 s:Int
 b:List UInt8
def zL (s:Int) (b:List UInt8):ib×Int:=if s<0\/8<=s then(G0,1)else xJ b
def LI:fy:=fj uk (λi=>[zA i.s,oy 1 (bE i.b)]) (λ_=>[]) (λi=>i.b.length<=1099511627776) (λi=> .iW [Cs (zL i.s i.b).1,zA (zL i.s i.b).2]) (λ_=>[])
structure GV where
 g:Gt
 p:fb
 B:List (List zI)
 U:List Int
 s:Int
@[reducible] def GV.ok (i:GV):Prop:=i.g.m.fk i.p i.B i.U/\iQ i.p i.B
def LJ:fy:=fj GV (λi=>[.nm 0 0,zA i.s]) (λi=>[iq i.g]) (λi=>i.ok) (λi=>zA (Iw i.B i.g.W i.s)) (λi=>[iq i.g])
def UU (g:Gt):List ff:=[.cells [.nm 1 0,.mp 2] 134,jR g.m,.map (xK g.W)]
def Ie:fy:=fj GV (λi=>[.nm 0 0,zA i.s]) (λi=>UU i.g) (λi=>i.ok) (λi=>zA (Iw i.B i.g.W i.s)) (λi=>UU i.g)
def y0a:List gj:=[{ι:=Int×Nat,du:=λj=>[(5,zA j.1),(14,zA j.2)],rows:=λ_=>[]}]
structure AZ where
 g:Gt
 p:fb
 B:List (List zI)
 U:List Int
 s:Int
 b:List UInt8
 X:PB
def E8:fy where
 ι:=AZ
 pat:=λi=>[.nm 0 0,zA i.s,oy 1 (bE i.b)]
 pre:=λi=>[iq i.g]
 dp:=λi=>(i.g.m.fk i.p i.B i.U/\iQ i.p i.B)/\i.b.length<=1099511627776/\i.X=nP i.p i.B i.U i.g.W i.s i.b
 alts:=λi=>[{o:=ic,res:=λ_=> .own 1,post:=λo=>[iq ⟨o,i.X.W⟩,Kr i.X.O],rel:=λo=>o.fk i.p i.X.B i.X.U}]
structure AL where
 o:ic
 W:List (Int×Int)
 O:List (Int×fk)
 k:Nat
def AL.rows (j:AL):List ff:=[.cells [.nm 1 0,.mp 2] 134,jR j.o,.map (xK j.W),Kr j.O]
def y7p:List gj:=[{ι:=AL,du:=λj=>[(0,.nm 0 0),(11,.own 3),(74,zA j.k)],rows:=AL.rows}]
def y6g:List (Nat×gj):=[(20,bj 36),(28,bj 50),(66,ij 14)]
def y4n (i:Jl):Prop:=
 ∃(ig:gl),zE ig=zE i.m.s/\ig.wh.length<=1000000/\∀(o:List Int),o.Perm (ar (λ(x:Int×Int) ↦ x.fst) ig.wh)->∃(xz:List Int),di (sb i.m.p.code)/\di i.m.p.tick/\di i.m.p.low/\di i.m.p.high/\di i.m.p.wide/\di i.m.p.dr/\di i.m.p.top/\di i.m.p.least/\di i.m.p.part/\zE i.m.s=zE ig/\di (zX i.m.used)/\di (af 1 (iE i.m.p.dk))/\di (af 1 (iE i.m.p.settle))/\iE xz=iE o/\xz.Perm (ar (λ(x:Int×Int) ↦ x.fst) (rm 0 i.B))
def y2n (p:fb):Prop:=
 ∃(i:fb),sb i.code=sb p.code/\iE i.dk=iE p.dk/\i.tick=p.tick/\i.low=p.low/\i.high=p.high/\i.wide=p.wide/\i.dr=p.dr/\i.top=p.top/\i.least=p.least/\i.part=p.part/\iE i.settle=iE p.settle/\(i.code.length<=1099511627776/\i.dk.length<=1099511627776/\i.settle.length<=1099511627776)/\(∀(o:Unit),i.check=0->(∃(o:Unit),di ((0:Int))/\ae ic 5 yW (ic.mk p (bL p) [])=ae ic 5 yW (ic.mk i (bL i) [])/\xK []=[]/\p.check=0)\/(∃(o:Unit),False))/\∀(o:Unit),i.check≠0->dp (i.check !=0) ((∃(o:Unit),False)\/(∃(o:Unit),True/\p.check=i.check/\(p.check=0->False))) ((∃(o:Unit),di ((0:Int))/\False)\/(∃(o:Unit),False))
def y2k (i:K2):Prop:=
 ∃(o:Unit),[jB (i.s,fk.mk 2 i.id 0 0 0 0 0 i.oS)]=[[D.v (.int .i64 i.s),D.v (.int .i64 2),D.v (.int .i64 i.id),D.v (.int .i64 0),D.v (.int .i64 0),D.v (.int .i64 0),D.v (.int .i64 0),D.v (.int .i64 0),D.v (.int .i64 i.oS)]]/\True
def yYf (i:uk):Prop:=
 dp (decide (i.s<0)) (∃(o:Unit),(zL i.s i.b).fst.kind=0/\(zL i.s i.b).fst.id=0/\(zL i.s i.b).fst.inst=0/\(zL i.s i.b).fst.side=0/\(zL i.s i.b).fst.dj=0/\(zL i.s i.b).fst.dq=0/\(zL i.s i.b).fst.least=0/\(zL i.s i.b).fst.time=0/\sb (zL i.s i.b).fst.label=ByteArray.mk #[]/\(zL i.s i.b).snd=1/\True) (dp (decide (i.s>=8)) (∃(o:Unit),(zL i.s i.b).fst.kind=0/\(zL i.s i.b).fst.id=0/\(zL i.s i.b).fst.inst=0/\(zL i.s i.b).fst.side=0/\(zL i.s i.b).fst.dj=0/\(zL i.s i.b).fst.dq=0/\(zL i.s i.b).fst.least=0/\(zL i.s i.b).fst.time=0/\sb (zL i.s i.b).fst.label=ByteArray.mk #[]/\(zL i.s i.b).snd=1/\True) (∃(ig:List UInt8),bE ig=bE i.b/\ig.length<=1099511627776/\∀(o:Unit),True->∃(o:Unit),(zL i.s i.b).fst.kind=(xJ ig).fst.kind/\(zL i.s i.b).fst.id=(xJ ig).fst.id/\(zL i.s i.b).fst.inst=(xJ ig).fst.inst/\(zL i.s i.b).fst.side=(xJ ig).fst.side/\(zL i.s i.b).fst.dj=(xJ ig).fst.dj/\(zL i.s i.b).fst.dq=(xJ ig).fst.dq/\(zL i.s i.b).fst.least=(xJ ig).fst.least/\(zL i.s i.b).fst.time=(xJ ig).fst.time/\sb (zL i.s i.b).fst.label=sb (xJ ig).fst.label/\(zL i.s i.b).snd=(xJ ig).snd/\True))
def Yk (a:Int×Nat) (b:Int×Nat) (c:Int×Nat->Prop) (d:Int×Nat->Nat) (e:Jl) (f:List Int) (g:GV):Prop:=(↑a.snd:Int)=aj.wrap ((↑b.snd:Int)+1)/\c a/\d a<d b/\di (jR e.m)/\di (ac 2 1 (iE f))/\di (aa [V.nm 1 0,V.mp 2] (134:ao))/\di (ab (xK g.g.W))
def yIf (i:GV):Prop:=
 ∃(a:Jl),jR a.m=jR i.g.m/\(a.m.fk a.p a.B a.U/\iQ a.p a.B)/\∀(b:List Int),b.Perm (ar (λ(x:Int×Int) ↦ x.fst) (rm 0 a.B))->∃(c:Int×Nat),c.fst=0/\(↑c.snd:Int)=0/\∃(d:Int×Nat->Prop),∃(e:Int×Nat->Nat),d c/\∀(f:Int×Nat),d f->dp (decide ((↑f.snd:Int)<(↑(iE b).length:Int))) ((0<=(↑f.snd:Int)/\(↑f.snd:Int)<(↑(iE b).length:Int))/\∃(g:Int),zD (iE b) (↑f.snd:Int).toNat 0 1=ay [dI g]/\(∀(h:ap×List D),h∈xK i.g.W->lj (ak aj g) h.fst=aw)/\∃(h:Bool),∃(j:Int),(kO (ak aj g) (xK i.g.W)=ay [dI j]/\h=aw\/kO (ak aj g) (xK i.g.W)=az/\[dI j]=[dI 0]/\h=ax)/\dp (j==i.s) (∃(k:Int×Nat),k.fst=aj.wrap (f.fst+1)/\Yk k f d e a b i) (∃(k:Int×Nat),k.fst=f.fst/\Yk k f d e a b i)) (∃(g:Unit),(↑(Iw i.B i.g.W i.s):Int)=f.fst/\jR i.g.m=jR a.m/\di (xK i.g.W)/\True)
def yOs (i:GV):Prop:=
 ∃(ig:Jl),ae ic 5 yW ig.m=jR i.g.m/\(ig.m.fk ig.p ig.B ig.U/\iQ ig.p ig.B)/\∀(o:List Int),o.Perm (ar (λ(x:Int×Int) ↦ x.fst) (rm 0 ig.B))->∃(i0:Int×Nat),i0.fst=0/\(↑i0.snd:Int)=0/\∃(I:Int×Nat->Prop),∃(μ:Int×Nat->Nat),I i0/\∀(mq:Int×Nat),I mq->dp (decide ((↑mq.snd:Int)<(↑(iE o).length:Int))) ((0<=(↑mq.snd:Int)/\(↑mq.snd:Int)<(↑(iE o).length:Int))/\∃(n:Int),zD (iE o) (↑mq.snd:Int).toNat 0 1=ay [D.v (.int .i64 n)]/\(∀(p:ap×List D),p∈xK i.g.W->lj (ak aj n) p.fst=aw)/\∃(b:Bool),∃(Hl:Int),(kO (ak aj n) (xK i.g.W)=ay [D.v (.int .i64 Hl)]/\b=aw\/kO (ak aj n) (xK i.g.W)=az/\[D.v (.int .i64 Hl)]=[D.v (.int .i64 0)]/\b=ax)/\dp (Hl==i.s) (∃(i':Int×Nat),i'.fst=aj.wrap (mq.fst+1)/\(↑i'.snd:Int)=aj.wrap ((↑mq.snd:Int)+1)/\I i'/\μ i'<μ mq/\di (ae ic 5 yW ig.m)/\di (ac 2 1 (iE o))/\di (aa [V.nm 1 0,V.mp 2] (134:ao))/\di (ab (xK i.g.W))) (∃(i':Int×Nat),i'.fst=mq.fst/\(↑i'.snd:Int)=aj.wrap ((↑mq.snd:Int)+1)/\I i'/\μ i'<μ mq/\di (ae ic 5 yW ig.m)/\di (ac 2 1 (iE o))/\di (aa [V.nm 1 0,V.mp 2] (134:ao))/\di (ab (xK i.g.W)))) (∃(o:Unit),(↑(Iw i.B i.g.W i.s):Int)=mq.fst/\ae ic 5 yW i.g.m=ae ic 5 yW ig.m/\di (xK i.g.W)/\True)
def lP (a:Int) (b:AZ) (c:AL):=(u6 (ak aj a) [dI b.s] (xK c.W))
def aU (a:uk):=(D.v (Value.string (sb (zL a.s a.b).fst.label)))
def mM (a:uk):=(dI ((zL a.s a.b).fst.dj))
def mY (a:uk):=(dI ((zL a.s a.b).fst.least))
def m5 (a:uk):=(dI ((zL a.s a.b).fst.time))
def m7 (a:uk):=(dI ((zL a.s a.b).fst.side))
def mG (a:uk):=(dI ((zL a.s a.b).fst.kind))
def aY (a:uk):=(dI ((zL a.s a.b).fst.inst))
def m3 (a:uk):=(dI ((zL a.s a.b).fst.dq))
def aT (a:uk):=(dI ((zL a.s a.b).fst.id))
def U3 (a:qg) (b:uk):Prop:=ac tRp 8 (ar xP a.X.R)=ac tRp 8 (ar xP a.X.R)/\di (aa [V.d (mG b),V.d (aT b),V.d (aY b),V.d (m7 b),V.d (mM b),V.d (m3 b),V.d (mY b),V.d (m5 b),V.d (aU b)] 46)
def Vc (a:AL) (b:qg) (c:uk):Prop:=ac Oc 9 (ar jB a.O)=ac Oc 9 (ar jB a.O)/\U3 b c
def U9 (a:Int->Prop) (b:Int) (c:Int) (d:Int) (e:Int) (f:Int) (g:Int) (h:Int) (j:Int) (k:Int) (l:AL) (m:AZ) (n:qg) (p:uk):Prop:=a b/\di (aa [V.d (dI c),V.d (dI d),V.d (dI e),V.d (dI f),V.d (dI g),V.d (dI h),V.d (dI j),V.d (dI k)] 49)/\di (aa [V.nm 1 0,V.mp 2] (134:ao))/\di (jR l.o)/\di (ab (lP d m l))/\Vc l n p
def Vn (a:Int->Prop) (b:Int) (c:Int) (d:Int) (e:Int) (f:Int) (g:Int) (h:Int) (j:Int) (k:Int) (l:AL) (m:qg) (n:uk):Prop:=a b/\di (aa [V.d (dI c),V.d (dI d),V.d (dI e),V.d (dI f),V.d (dI g),V.d (dI h),V.d (dI j),V.d (dI k)] 49)/\di (aa [V.nm 1 0,V.mp 2] (134:ao))/\di (jR l.o)/\di (ab (xK l.W))/\Vc l m n
def U8 (a:AL) (b:AL) (c:Int) (d:Int) (e:Int) (f:Int) (g:Int) (h:Int) (j:Int) (k:Int) (l:Int) (m:AL->Prop) (n:AL->Nat) (p:qg) (q:uk):Prop:=ar jB a.O=ar jB b.O++[[dI c,dI d,dI e,dI f,dI g,dI h,dI j,dI k,dI l]]/\m a/\n a<n b/\U3 p q
def Sl (a:Bool->Prop) (b:Bool) (c:uk) (d:AZ):Prop:=a b/\di (aa [V.d (mG c),V.d (aT c),V.d (aY c),V.d (m7 c),V.d (mM c),V.d (m3 c),V.d (mY c),V.d (m5 c),V.d (aU c)] 46)/\di (aa [V.nm 1 0,V.mp 2] (134:ao))/\di (jR d.g.m)/\di (ab (xK d.g.W))
def VC (a:Bool->Prop) (b:uk) (c:AZ):Prop:=∃(d:Bool),d=ax/\Sl a d b c
def SS (a:AZ) (b:K2):Prop:=True/\∀(c:Unit),True->∃(d:ic),jR d=jR a.g.m/\xK a.X.W=xK a.g.W/\ar jB a.X.O=[jB (b.s,fk.mk 2 b.id 0 0 0 0 0 b.oS)]/\d.fk a.p a.X.B a.X.U
def Sr (a:uk):=(ak aj (zL a.s a.b).fst.id)
def y5u (i:AZ):Prop:=
 ∃(a:uk),a.s=i.s/\bE a.b=bE i.b/\a.b.length<=1099511627776/\∀(b:Unit),True->dp ((zL a.s a.b).snd !=0) (∃(c:K2),c.s=i.s/\c.id=0/\c.oS=(zL a.s a.b).snd/\SS i c) ((∀(c:ap×List D),c∈xK i.g.W->lj (Sr a) c.fst=aw)/\∃(c:Bool),∃(d:Int),(kO (Sr a) (xK i.g.W)=ay [dI d]/\c=aw\/kO (Sr a) (xK i.g.W)=az/\[dI d]=[dI 0]/\c=ax)/\∃(e:Bool),∃(f:Bool->Prop),dp ((zL a.s a.b).fst.kind==1) (∃(g:GV),g.s=i.s/\jR g.g.m=jR i.g.m/\xK g.g.W=xK i.g.W/\(g.g.m.fk g.p g.B g.U/\iQ g.p g.B)/\∀(h:Unit),True->∃(j:Bool),j=decide ((↑(Iw g.B g.g.W g.s):Int)>=64)/\f j/\di (aa [V.d (mG a),V.d (aT a),V.d (aY a),V.d (m7 a),V.d (mM a),V.d (m3 a),V.d (mY a),V.d (m5 a),V.d (aU a)] 46)/\di (aa [V.nm 1 0,V.mp 2] (134:ao))/\jR g.g.m=jR i.g.m/\ab (xK g.g.W)=ab (xK i.g.W)) (VC f a i)/\∀(g:Bool),f g->dp g (∃(h:K2),h.s=i.s/\h.id=(zL a.s a.b).fst.id/\h.oS=30/\SS i h) (∃(h:Bool),∃(j:Bool->Prop),dp ((zL a.s a.b).fst.kind !=1) (dp (!c) (∃(k:Bool),k=aw/\Sl j k a i) (∃(k:Bool),k=(d !=i.s)/\Sl j k a i)) (VC j a i)/\∀(k:Bool),j k->dp k (∃(l:K2),l.s=i.s/\l.id=(zL a.s a.b).fst.id/\l.oS=26/\SS i l) (∃(l:qg),l.c.kind=(zL a.s a.b).fst.kind/\l.c.id=(zL a.s a.b).fst.id/\l.c.inst=(zL a.s a.b).fst.inst/\l.c.side=(zL a.s a.b).fst.side/\l.c.dj=(zL a.s a.b).fst.dj/\l.c.dq=(zL a.s a.b).fst.dq/\l.c.least=(zL a.s a.b).fst.least/\l.c.time=(zL a.s a.b).fst.time/\sb l.c.label=sb (zL a.s a.b).fst.label/\jR l.m=jR i.g.m/\((l.m.fk l.p l.B l.U/\iQ l.p l.B)/\l.c.label.length<=140737488355328/\((-9223372036854775808)<=l.c.dq/\l.c.dq<=9223372036854775807)/\l.X=AJ l.p l.B l.U l.c)/\∀(m:ic),m.fk l.p l.X.B l.X.U->∃(n:AL),(↑n.k:Int)=0/\jR n.o=jR m/\xK n.W=xK i.g.W/\ar jB n.O=[]/\∃(p:AL->Prop),∃(q:AL->Nat),p n/\∀(r:AL),p r->dp (decide ((↑r.k:Int)<(↑(ar xP l.X.R).length:Int))) ((0<=(↑r.k:Int)/\(↑r.k:Int)<(↑(ar xP l.X.R).length:Int))/\∃(s:Int),∃(t:Int),∃(u:Int),∃(v:Int),∃(w:Int),∃(x:Int),∃(y:Int),∃(z:Int),zD (ar xP l.X.R) (↑r.k:Int).toNat 0 8=ay [dI s,dI t,dI u,dI v,dI w,dI x,dI y,dI z]/\dp (s==1) ((∀(jb:ap×List D),jb∈xK r.W->lj (ak aj t) jb.fst=aw)/\(∀(jb:ap×List D),jb∈u6 (ak aj t) [dI i.s] (xK r.W)->lj (ak aj t) jb.fst=aw)/\∃(jb:Bool),∃(oZ:Int),(kO (ak aj t) (lP t i r)=ay [dI oZ]/\jb=aw\/kO (ak aj t) (lP t i r)=az/\[dI oZ]=[dI 0]/\jb=ax)/\∃(iH:Int),∃(ld:Int->Prop),dp (s==2) (∃(iT:Int),iT=i.s/\U9 ld iT s t u v w x y z r i l a) (∃(iT:Int),iT=oZ/\U9 ld iT s t u v w x y z r i l a)/\∀(iT:Int),ld iT->((ar jB r.O).length+1)*(72:Nat)<=(140737488355328:Nat)/\∃(te:AL),(↑te.k:Int)=aj.wrap ((↑r.k:Int)+1)/\jR te.o=jR r.o/\xK te.W=u6 (ak aj t) [dI i.s] (xK r.W)/\U8 te r iT s t u v w x y z p q l a) ((∀(jb:ap×List D),jb∈xK r.W->lj (ak aj t) jb.fst=aw)/\∃(jb:Bool),∃(oZ:Int),(kO (ak aj t) (xK r.W)=ay [dI oZ]/\jb=aw\/kO (ak aj t) (xK r.W)=az/\[dI oZ]=[dI 0]/\jb=ax)/\∃(iH:Int),∃(ld:Int->Prop),dp (s==2) (∃(iT:Int),iT=i.s/\Vn ld iT s t u v w x y z r l a) (∃(iT:Int),iT=oZ/\Vn ld iT s t u v w x y z r l a)/\∀(iT:Int),ld iT->((ar jB r.O).length+1)*(72:Nat)<=(140737488355328:Nat)/\∃(te:AL),(↑te.k:Int)=aj.wrap ((↑r.k:Int)+1)/\jR te.o=jR r.o/\xK te.W=xK r.W/\U8 te r iT s t u v w x y z p q l a)) (∃(s:ic),jR s=jR r.o/\xK i.X.W=xK r.W/\ar jB i.X.O=ar jB r.O/\s.fk i.p i.X.B i.X.U))))
def y0c {s:gl} {p:fb} {B:List (List zI)} (h:s.fk p B):s.wh.length=G1 B:=by rw[G1];exact h.wh.length_eq
def Zu:∀{B:List (List zI)} (n:Nat),(∀L∈B,L.length<=250)->(rm n B).length<=250*B.length
 |[],_,_=>km _
 |L::B,n,h=>by
  have:=Zu (B:=B) (n+1) λx hx=>h x (jw _ hx)
  have:=h L ji;rw[rm,im,ia,iD];omega
def yOp:QR.ok Tryz.prog 157:=gw (V:=y4n) mixed (dw yIt fg) 0 (λ_=>[]) (λ_=>[]) [0] Tryz.func157 λ(i:Jl) h=>by
 obtain⟨⟨ep,hR,eu⟩,hB⟩:i.m.fk i.p i.B i.U/\iQ i.p i.B:=h;have hl:i.m.s.wh.length<=1000000:=by
  have AU:=hR.wf hB;have h1:=Zu (B:=i.B) 0 λL hL=>by
   obtain⟨k,hk⟩:=BU.1 hL;exact(AU.od k L hk).2.2
  have:=hB.bl;have:=xR i.p;rw[y0c hR,G1];omega
 exact⟨i.m.s,rfl,hl,λo ho=>⟨o,gm (iM ⟨rfl,gn,rfl,ho.trans (hR.wh.map _)⟩)⟩⟩
def z9d:QP.ok Tryz.prog 69:=gw (V:=y2n) mixed (dw ySt fg) 0 (λ_=>[]) (λ_=>[]) [] Tryz.func69 λ(p:fb) h=>by
 refine⟨p,oA (iM ⟨rfl,h,λ_ c=> .inl ⟨(),iM c⟩,λ_ c=>Cv.dp.mk (λe=> .inr ⟨(),trivial,rfl,c⟩) (λe=>absurd (by simpa using e) c)⟩)⟩
def ySe:Rj.ok Tryz.prog 109:=gw (V:=y2k) mixed fg 0 (λ_=>[]) (λ_=>[]) [] Tryz.func109 λ(i:K2) h=>⟨(),rfl,trivial⟩
def z2v:LI.ok Tryz.prog 108:=gw (V:=yYf) mixed (dw yQc fg) 0 (λ_=>[]) (λ_=>[]) [] Tryz.func108 λ(i:uk) h=>by
 have h:i.b.length<=1099511627776:=h;have Qi:i.s<0\/8<=i.s->zL i.s i.b=(G0,1):=λe=>fc e
 refine zH (λe=> ?_) (λe=>zH (λe2=> ?_) (λe2=> ?_))
 ·rw[Qi (.inl e)];exact⟨(),oA (iM trivial)⟩
 ·rw[Qi (.inr e2)];exact⟨(),oA (iM trivial)⟩
 ·have hg:zL i.s i.b=xJ i.b:=ej oM;rw[hg];exact⟨i.b,rfl,h,λ_ _=>⟨(),oA (iM trivial)⟩⟩
def lU (id:Int) (W:List (Int×Int)):∀p∈xK W,lj (ak aj id) p.1=aw:=by
 intro p hp;obtain⟨k,_,rfl⟩:=pk.1 hp;rfl
def z0w (id s:Int):∀W:List (Int×Int),u6 (ak aj id) [D.v (.int .i64 s)] (xK W)=xK (Ip W id s)
 |[]=>rfl
 |x::W=>by
  have ih:=z0w id s W;have e:bR (ak aj id) (ak aj x.1)=decide (id=x.1):=by simp[bR,vy]
  show(bif bR (ak aj id) (ak aj x.1)then(ak aj x.1,[D.v (.int .i64 s)])::xK W else(ak aj x.1,[D.v (.int .i64 x.2)])::u6 (ak aj id) [D.v (.int .i64 s)] (xK W))=_;rw[e,ih,Ip];by_cases c:id=x.1
  ·rw[lg c,cond_true,fc c];rfl
  ·rw[kr c,cond_false,ej c];rfl
def NY (id:Int):∀W:List (Int×Int),kO (ak aj id) (xK W)=ay [D.v (.int .i64 (dE W id).1)]/\(dE W id).2=aw\/kO (ak aj id) (xK W)=az/\[D.v (.int .i64 (dE W id).1)]=[D.v (.int .i64 0)]/\(dE W id).2=ax
 |[]=> .inr ⟨rfl,rfl,rfl⟩
 |x::W=>by
  have ih:=NY id W;have e:bR (ak aj id) (ak aj x.1)=decide (id=x.1):=by simp[bR,vy]
  have e2:kO (ak aj id) (xK (x::W))=bif bR (ak aj id) (ak aj x.1)then ay [D.v (.int .i64 x.2)]else kO (ak aj id) (xK W):=rfl
  rw[e2,e,yJu];by_cases c:id=x.1
  ·rw[lg c,cond_true,fc c];exact .inl ⟨rfl,rfl⟩
  ·rw[kr c,cond_false,ej c];exact ih
def yVq {l:List Int} {k:Nat} {n:Int} {f:Int->Bool} (h:l[k]? =ay n):(l.take (k+1)).countP f=(l.take k).countP f+if f n then 1 else 0:=by
 rw[sm,h,List.countP_append];simp[List.countP_cons]
def yIw (W:List (Int×Int)) (B:List (List zI)) (s:Int) (l:List Int) (h:l.Perm ((rm 0 B).map (·.1))):(Iw B W s:Int)=l.countP λx=>decide ((dE W x).1=s):=by
 rw[h.countP_eq,List.countP_map];rfl
def yDp {l:List Int} {W:List (Int×Int)} {s:Int} (hl:l.length<=1000000):∀{k:Nat} {n:Int},l[k]? =ay n->aj.wrap (((l.take k).countP λx=>decide ((dE W x).1=s):Nat)+1:Int)=((l.take k).countP λx=>decide ((dE W x).1=s):Nat)+1:=by
 intro k n h;have:=List.countP_le_length (p:=λx=>decide ((dE W x).1=s)) (l:=l.take k);rw[oe]at this;exact ir oM
def yPu {p:fb} {B:List (List zI)} (h:tr p B) {l:List Int} (hl:l.Perm ((rm 0 B).map (·.1))):l.length<=1000000:=by
 have h1:=Zu (B:=B) 0 λL hL=>by
  obtain⟨k,hk⟩:=BU.1 hL;exact(h.od k L hk).2.2
 have:=h.ok.bl;have:=xR p;have:=hl.length_eq;rw[ia]at this;omega
def yVv (i:GV) (h:LJ.dp i):yIf i:=by
 obtain⟨⟨m,W⟩,p,B,U,s⟩:=i;have h:m.fk p B U/\iQ p B:=h;unfold yIf Yk dI;dsimp only;refine⟨⟨m,p,B,U⟩,rfl,h,λl hl=> ?_⟩;have hle:=yPu (h.1.s.wf h.2) hl;refine⟨(0,0),rfl,rfl,λj=>j.2<=l.length/\j.1=((l.take j.2).countP λx=>decide ((dE W x).1=s):Nat),λj=>l.length-j.2,⟨my _,rfl⟩,?_⟩;rintro⟨n,k⟩ ⟨j1,j2⟩;dsimp only at j1 j2 ⊢;subst j2;refine zH (λe=> ?_) (λe=> ?_)
 ·rw[y4]at e;obtain⟨x,hx⟩:=z7 (l:=l) (i:=k) oM;have hc:=yVq (f:=λx=>decide ((dE W x).1=s)) hx;refine⟨⟨oM,by rw[y4];exact e⟩,x,jq hx (by simp) rfl,lU _ _,_,_,NY x W,Cv.dp.mk (λe2=>⟨(_,k+1),(yDp hle hx).symm,qw oM,⟨Z9,?_⟩,Z9,gn⟩) (λe2=>⟨(_,k+1),rfl,qw oM,⟨Z9,?_⟩,Z9,gn⟩)⟩
  ·have e2:(dE W x).1=s:=by simpa using e2
   dsimp only;rw[hc,lg e2];rfl
  ·have e2:¬(dE W x).1=s:=by simpa using e2
   dsimp only;rw[hc,kr e2];rfl
 ·rw[y4]at e;have hk:l.take k=l:=og oM;rw[hk];exact⟨(),yIw W B s l hl,rfl,rfl,trivial⟩
def yEq:Ie.ok Tryz.prog 110:=gw (V:=yOs) mixed (dw yOp fg) 0 (λ_=>[]) (λ_=>y0a) [] Tryz.func110 λ(i:GV) h=>yVv i h
def yFk {b:List UInt8} (h:(xJ b).2=0):(xJ b).1.right=0:=by
 rw[xJ]at h ⊢;dsimp only at h ⊢;split at h
 ·cases h
 ·rename_i h1;rw[ej h1];split at h
  ·cases h
  ·rename_i h2;rw[ej h2];split at h
   ·rename_i h3;exact absurd h h3
   ·rename_i h3;rw[ej h3];simpa using h3
def WA (n:Int):gq (aj.wrap n):=by
 rw[IntKind.wrap];simp only[IntKind.bits,IntKind.signed];simp;omega
def T0:gq 0:=⟨Z8,Z8⟩
def y1l (k id:Int) (r:RB):gq (x5 k id r).1.dq:=by
 rw[x5];split
 ·exact WA _
 split
 ·exact WA _
 split
 ·exact WA _
 ·exact T0
def yPp (b:List UInt8):gq (xJ b).1.dq:=by
 rw[xJ];dsimp only;split
 ·exact T0
 split
 ·exact T0
 split
 ·exact T0
 ·exact y1l _ _ _
def yPa {p:fb} {B:List (List zI)} (h:tr p B) (U:List Int) (c:ib):(AJ p B U c).R.length<=1503000003:=by
 have zj:=h.ok.bl;have Hr:∀w,(nY c w).length<=1503000003:=λw=>by simp[nY]
 rw[AJ];split
 ·exact Hr _
 rename_i hr;have hr:c.right=0:=by simpa using hr
 split
 ·rename_i hk;obtain⟨_,hq,_⟩:=zUl hr hk;rw[nW];split
  ·exact Hr _
  rename_i hp;have hp:p.dj c.inst c.dj=0:=by simpa using hp
  have vj:=V5 hp;split
  ·exact Hr _
  split
  ·exact Hr _
  split
  ·exact Hr _
  split
  ·exact Hr _
  have:=Ym h U (c:=c) oM hq;omega
 rename_i hk;split
 ·exact Hr _
 rename_i hf;have hf:(z5 B c.id).2.2=aw:=by simpa using hf
 have hf:z5 B c.id=((z5 B c.id).1,(z5 B c.id).2.1,aw):=by rw[<- hf]
 obtain⟨vj,_⟩:=VB h hf;split
 ·rename_i h4;have hq:=XN hr hk oM;rw[f9];split
  ·exact Hr _
  split
  ·simp[bW]
  split
  ·exact Hr _
  have:=Ym (h.take c.id (z5 B c.id).2.1.dq) U (c:=⟨1,c.id,(z5 B c.id).1,(z5 B c.id).2.1.side,c.dj,c.dq,0,1,[]⟩) (by dsimp only;rw[rJ];exact vj) hq;dsimp only;rw[im];have e1:(uT B U c.id (z5 B c.id).1 (z5 B c.id).2.1).R.length=1:=rfl;have e2:(uT B U c.id (z5 B c.id).1 (z5 B c.id).2.1).B=(kK B c.id (z5 B c.id).2.1.dq).1:=rfl;rw[e1,e2];omega
 split
 ·simp[uT]
 ·simp[bW]
def yPt {b:List UInt8} (h:b.length<=1099511627776):(xJ b).1.label.length<=255:=by
 have h0:(RB.mk b ax).ok:=h;rw[xJ];dsimp only;split
 ·exact my _
 split
 ·exact my _
 split
 ·exact my _
 ·exact(yUs (gR (nU h0))).2
def zUo (p:fb) (B:List (List zI)) (U:List Int) (W:List (Int×Int)) (s:Int) (b:List UInt8):nP p B U W s b=if(zL s b).2≠0 then MD B U W s 0 (zL s b).2 else Nu p B U W s (zL s b).1:=by
 rw[nP,zL];by_cases c:s<0\/8<=s
 ·rw[fc c,fc c];rfl
 ·rw[ej c,ej c]
def yVw {s:Int} {b:List UInt8} (hb:b.length<=1099511627776) (h:(zL s b).2=0):(zL s b).1.right=0/\gq (zL s b).1.dq/\(zL s b).1.label.length<=255:=by
 rw[zL]at h ⊢;split at h
 ·cases h
 ·rename_i c;rw[ej c];exact⟨yFk h,yPp b,yPt hb⟩
def wjN {j:Nat} (h:(j:Int)<=9223372036854775806):((j+1:Nat):Int)=aj.wrap ((j:Int)+1):=by rw[ir (by omega)];rfl
def y7a (i:AZ) (h:E8.dp i):y5u i:=by
 obtain⟨⟨m,W⟩,p,B,U,s,b,X⟩:=i;obtain⟨KS,hb,hX⟩:(m.fk p B U/\iQ p B)/\b.length<=1099511627776/\X=nP p B U W s b:=h;rw[zUo]at hX;have hc:= @yVw s b hb;unfold y5u VC Sl U8 Vn U9 Vc U3 aT m3 aY mG m7 m5 mY mM Sr aU lP SS dI;dsimp only;generalize wo:zL s b=y at hX hc;obtain⟨c,oS⟩:=y;dsimp only at hX hc;refine⟨⟨s,b⟩,rfl,rfl,hb,λ_ _=> ?_⟩;dsimp only;rw[wo];dsimp only;refine Cv.dp.mk (λe=> ?_) (λe=>⟨lU _ _,_,_,NY c.id W,aw,λx=>x=decide (c.kind=1/\64<=Iw B W s),Cv.dp.mk (λe1=>⟨⟨⟨m,W⟩,p,B,U,s⟩,rfl,rfl,rfl,KS,λ_ _=>⟨_,rfl,?_,gn⟩⟩) (λe1=>⟨ax,rfl,?_,gn⟩),?_⟩)
 ·have e:oS≠0:=by simpa using e
  rw[fc e]at hX;subst hX;exact⟨⟨s,0,oS⟩,rfl,rfl,rfl,trivial,λ_ _=>⟨m,iM KS.1⟩⟩
 ·have e1:c.kind=1:=by simpa using e1
  dsimp only;rw[decide_eq_decide];exact⟨λx=>⟨e1,oM⟩,λx=>by have:=x.2;omega⟩
 ·have e1:¬c.kind=1:=by simpa using e1
  exact(kr λx=>e1 x.1).symm
 have e:oS=0:=by simpa using e
 obtain⟨hr,hq,aaK⟩:=hc e;rw[ej (by rw[e];decide),Nu]at hX;rintro _ rfl;refine zH (λe1=> ?_) (λe1=> ?_)
 ·rw[fc e1]at hX;subst hX;exact⟨⟨s,c.id,30⟩,rfl,rfl,rfl,trivial,λ_ _=>⟨m,iM KS.1⟩⟩
 rw[ej e1]at hX;refine⟨aw,λx=>x=decide (c.kind≠1/\((dE W c.id).2=ax\/(dE W c.id).1≠s)),Cv.dp.mk (λe2=>Cv.dp.mk (λe3=>⟨aw,rfl,?_,gn⟩) (λe3=>⟨_,rfl,?_,gn⟩)) (λe2=>⟨ax,rfl,?_,gn⟩),?_⟩
 ·have e2:¬c.kind=1:=by simpa using e2
  exact(lg ⟨e2,.inl (by simpa using e3)⟩).symm
 ·have e2:¬c.kind=1:=by simpa using e2
  have e3:(dE W c.id).2=aw:=by simpa using e3
  show((dE W c.id).1 !=s)=decide (c.kind≠1/\((dE W c.id).2=ax\/(dE W c.id).1≠s));rw[IM,tw,bne_iff_ne];exact⟨λx=>⟨e2,.inr x⟩,λx=>x.2.resolve_left (by rw[e3];decide)⟩
 ·have e2:c.kind=1:=by simpa using e2
  exact(kr λx=>x.1 e2).symm
 rintro _ rfl;refine zH (λe2=> ?_) (λe2=> ?_)
 ·rw[fc e2]at hX;subst hX;exact⟨⟨s,c.id,26⟩,rfl,rfl,rfl,trivial,λ_ _=>⟨m,iM KS.1⟩⟩
 rw[ej e2]at hX;have hlen:=yPa (KS.1.s.wf KS.2) U c;refine⟨⟨m,p,B,U,c,AJ p B U c⟩,ma (iM ⟨rfl,⟨KS,xw aaK Z8,hq,rfl⟩,λo ho=> ?_⟩)⟩;dsimp only at ho ⊢;generalize AJ p B U c=Y at hX ho hlen ⊢;obtain⟨YB,YU,R⟩:=Y;dsimp only at hX ho hlen ⊢;subst hX;have e4:(R.map xP).length=R.length:=ia ..;refine⟨⟨o,W,[],0⟩,iM ⟨rfl,λj=>j.o=o/\j.k<=R.length/\j.O.length=j.k/\(lG s W R).1=(lG s j.W (R.drop j.k)).1/\(lG s W R).2=j.O++(lG s j.W (R.drop j.k)).2,λj=>R.length-j.k,⟨rfl,my _,rfl,rfl,rfl⟩,?_⟩⟩;rintro⟨o',W',O,k⟩ ⟨j1,j2,j3,j4,j5⟩;dsimp only at j1 j2 j3 j4 j5 ⊢;subst j1;have e5:(O.map jB).length=O.length:=ia ..;refine zH (λe6=> ?_) (λe6=> ?_)
 ·obtain⟨r,ob⟩:=z7 (l:=R) (i:=k) oM;have hd:R.drop k=r::R.drop (k+1):=by rw[Dq (by omega),(jl.1 ob).2]
  rw[hd,lG]at j4 j5;dsimp only at j4 j5;refine⟨⟨oM,e6⟩,r.kind,r.id,r.inst,r.side,r.dj,r.dq,r.left,r.oS,jq ob (by simp[xP]) rfl,Cv.dp.mk (λe7=>⟨lU _ _,?_⟩) (λe7=>⟨lU _ _,_,_,NY r.id W',?_⟩)⟩
  ·have e7:r.kind=1:=by simpa using e7
   rw[z0w];rw[fc e7]at j4 j5;refine⟨lU _ _,_,_,NY r.id (Ip W' r.id s),0,λx=>x=if r.kind=2 then s else(dE (Ip W' r.id s) r.id).1,Cv.dp.mk (λe8=>⟨_,rfl,(fc (by simpa using e8)).symm,gn⟩) (λe8=>⟨_,rfl,(ej (by simpa using e8)).symm,gn⟩),?_⟩;rintro _ rfl;exact⟨oM,⟨o',Ip W' r.id s,O++[(if r.kind=2 then s else(dE (Ip W' r.id s) r.id).1,r)],k+1⟩,wjN oM,rfl,rfl,by rw[jk];rfl,⟨rfl,Z9,by rw[im];dsimp only;rw[j3];rfl,j4,by rw[j5];simp⟩,Z9,gn⟩
  ·have e7:¬r.kind=1:=by simpa using e7
   rw[ej e7]at j4 j5;refine⟨0,λx=>x=if r.kind=2 then s else(dE W' r.id).1,Cv.dp.mk (λe8=>⟨_,rfl,(fc (by simpa using e8)).symm,gn⟩) (λe8=>⟨_,rfl,(ej (by simpa using e8)).symm,gn⟩),?_⟩;rintro _ rfl;exact⟨oM,⟨o',W',O++[(if r.kind=2 then s else(dE W' r.id).1,r)],k+1⟩,wjN oM,rfl,rfl,by rw[jk];rfl,⟨rfl,Z9,by rw[im];dsimp only;rw[j3];rfl,j4,by rw[j5];simp⟩,Z9,gn⟩
 ·have hk:R.drop k=[]:=List.drop_of_length_le oM;rw[hk,lG]at j4 j5;dsimp only at j4 j5;rw[oL]at j5;rw[j4,j5];exact⟨o',iM ho⟩
def Rx:E8.ok Tryz.prog 48:=gw mixed (dw z2v (dw ySe (dw yEq (dw y4e fg)))) 0 (λ_=>y6g) (λ_=>y7p) [0] Tryz.func48 y7a
def y4m {l:List ib} {k:Nat} {c:ib} (h:l[k]? =ay c):zD (l.map rf) k 0 9=ay [D.v (.int .i64 c.kind),.v (.int .i64 c.id),.v (.int .i64 c.inst),.v (.int .i64 c.side),.v (.int .i64 c.dj),.v (.int .i64 c.dq),.v (.int .i64 c.least),.v (.int .i64 c.time),.v (.string (sb c.label))]:=jq h (by simp[rf]) rfl
def M1 (p:fb):ic:=⟨p,bL p,[]⟩
def yBh (p:fb):(M1 p).fk p (List.replicate p.count []) []:=⟨rfl,z7j _,rfl⟩
structure eL where
 seq:Int
 inst:Int
 side:Int
 dj:Int
 dq:Int
 count:Int
 iJ:Bool
 deriving DecidableEq
def yWy (b:UInt8) (n:Int):jf (b.toNat+256*n)=b:=by
 apply UInt8.toNat.inj;have h1:=Oj (b.toNat+256*n);have:=b.toNat_lt;omega
deriving instance DecidableEq for Lv
def TQ (s:Int) (L:List Lv):Prop:=L.Pairwise λa b=>jy s a.dj b.dj=aw
def vX (s:Int):Nat->List Lv->List Lv->List Lv
 |0,_,_=>[]
 |k+1,[],[]=>[]
 |k+1,x::X,[]=>⟨x.dj,0,0⟩::vX s k X []
 |k+1,[],y::Y=>y::vX s k [] Y
 |k+1,x::X,y::Y=>if jy s x.dj y.dj=aw then⟨x.dj,0,0⟩::vX s k X (y::Y)else if jy s y.dj x.dj=aw then y::vX s k (x::X) Y else(if x=y then[]else[y])++vX s k X Y
def y0t {s x y z:Int} (h:jy s x y=aw) (h2:jy s y z=aw):jy s x z=aw:=by
 rw[jy]at h h2 ⊢;split
 ·rename_i e;rw[fc e]at h h2;have:=pj h;have:=pj h2;exact lg oM
 ·rename_i e;rw[ej e]at h h2;have:=pj h;have:=pj h2;exact lg oM
def yRq {s x y:Int} (h:jy s x y=ax) (je:x≠y):jy s y x=aw:=by
 rw[jy]at h ⊢;split
 ·rename_i e;rw[fc e]at h;have:=KC h;exact lg oM
 ·rename_i e;rw[ej e]at h;have:=KC h;exact lg oM
def y7h (L:List Lv):Prop:=∀l∈L,1<=l.dq
def zUq {s:Int}:∀(k:Nat) (A:List Lv),vX s k A A=[]
 |0,_=>rfl
 |k+1,[]=>rfl
 |k+1,x::A=>by
  rw[vX];have:jy s x.dj x.dj=ax:=by rw[jy];split<;>simp
  rw[ej (by rw[this];decide),ej (by rw[this];decide),fc rfl,zUq k A];rfl
open Classical
def Lv.fit (x:Lv):Prop:=gq x.dj/\gq x.dq/\gq x.count
def Sd.fit (s:Sd):Prop:=(∀x∈s.levels,x.fit)/\s.imp.fit
def y5h (v:Vw):Prop:=∀b∈v,b.1.fit/\b.2.fit
structure VM where
 inst:Nat
 side:Int
 l:Lv
 imp:Bool
def lv0:Lv:=⟨0,0,0⟩
def Ol (a b:Sd):Bool:=decide (a.imp≠b.imp)||decide (a.has≠b.has)
def Mw (b:Sd):Lv:=if b.has=aw then b.imp else lv0
def wL (n:Nat) (s:Int) (a b:Sd):List VM:=(vX s (a.levels.length+b.levels.length) a.levels b.levels).map (λl=>⟨n,s,l,ax⟩)++if Ol a b=aw then[⟨n,s,Mw b,aw⟩]else[]
def yBg (n:Nat) (s:Int) (a:Sd):wL n s a a=[]:=by
 rw[wL,zUq];simp[Ol]
def j8 (n:Nat):Vw->Vw->List VM
 |a::A,b::B=>wL n 1 a.1 b.1++wL n 2 a.2 b.2++j8 (n+1) A B
 |_,_=>[]
def z8x:∀(n:Nat) (A:Vw),j8 n A A=[]
 |_,[]=>rfl
 |n,a::A=>by rw[j8,yBg,yBg,z8x];rfl
def z9e {s:Int}:∀{F:List zI},IF s F->TQ s (wy F)
 |[],_=>List.Pairwise.nil
 |o::F,h=>by
  rw[IF,Hf]at h;have ih:=z9e h.2;rw[wy];cases hg:wy F with
  |nil=>exact List.pairwise_singleton _ _
  |cons v vs=>
   rw[hg]at ih;dsimp only;have hv:=ih;rw[TQ,Hf]at hv;by_cases e:v.dj=o.dj
   ·rw[fc e];exact Hf.2 ⟨λw hw=>hv.1 w hw,hv.2⟩
   ·rw[ej e];obtain⟨o',r,e2,e3⟩:=V9 hg;have hb:jy s o.dj v.dj=aw:=by
     rw[<- e3];refine yRq (h.1 o' (by rw[e2];exact ji)) (by rw[e3];exact e)
    refine Hf.2 ⟨λw hw=> ?_,ih⟩;rcases mf.1 hw with rfl|hw
    ·exact hb
    ·exact y0t hb (hv.1 w hw)
def ySs {p:fb} {B:List (List zI)} (h:tr p B) {k:Nat} {L:List zI} (hL:B[k]? =ay L) {s:Int} (hs:s=1\/s=2):TQ s (gL L s)/\y7h (gL L s):=
 ⟨z9e (h.wk k L hL s hs),λl hl=>(TA (λo ho=>(h.od k L hL).1 o (ve.1 ho).1) hl).1⟩
def dN (l:List Quote) (b:Quote):Int×Int:=l.foldl (λa q=>if q.dj=b.dj then(if q.dq>a.1 then q.dq else a.1,a.2+1)else a) (b.dq,0)
def qK (l:List Quote) (s:Int):Lv×Bool:=if(zU l s).2 then(⟨(zU l s).1.dj,(dN l (zU l s).1).1,(dN l (zU l s).1).2⟩,aw)else(⟨0,0,0⟩,ax)
def Js:fy:=fj zm (λi=>[oy 6 (i.l.map zJ),zA i.s]) (λ_=>[]) (λi=>(i.s=1\/i.s=2)/\i.l.length<=1000000) (λi=> .iW [zA (qK i.l i.s).1.dj,zA (qK i.l i.s).1.dq,zA (qK i.l i.s).1.count,yL (qK i.l i.s).2]) (λ_=>[])
def y0y (i:zm):List gj:=[{ι:=Nat,du:=λk=>[(8,.nm 0 0),(10,zA (dN (i.l.take k) (zU i.l i.s).1).1),(11,zA (dN (i.l.take k) (zU i.l i.s).1).2),(26,zA k)],rows:=λ_=>[.cells (Rz (zU i.l i.s).1).cl 128]}]
def G7 (p:fb) (B:List (List zI)) (n:Nat) (s:Int):Sd:=⟨gL (B.getD n []) s,(qK (xY ⟨p,B.map kC,n⟩ s) s).1,(qK (xY ⟨p,B.map kC,n⟩ s) s).2⟩
def yQ (p:fb) (B:List (List zI)):Vw:=(List.range p.count).map λn=>(G7 p B n 1,G7 p B n 2)
structure Nq where
 s:gl
 p:fb
 B:List (List zI)
def y5d (i:Nq):List gj:=[
 {ι:=Nat,du:=λj=>[(5,.nm 0 0),(6,.own 2),(27,zA j)],rows:=λj=>[.cells [.own 1] 89,.own 180 10 (((yQ i.p i.B).take j).map yG),.ja 6 ((i.B.map kC).map z6)]},
 {ι:=Unit,du:=λ_=>[],rows:=λ_=>[],un:=3}]
def y3 (m:eL):List D:=[.v (.int .i64 m.seq),.v (.int .i64 m.inst),.v (.int .i64 m.side),.v (.int .i64 m.dj),.v (.int .i64 m.dq),.v (.int .i64 m.count),.v (.bool m.iJ)]
@[reducible] def Ny:Nat:=78
@[reducible] def My (l:List eL):ff:= .own Ny 7 (l.map y3)
def wR (seq:Int):List VM->List eL
 |[]=>[]
 |m::M=>⟨seq+1,m.inst,m.side,m.l.dj,m.l.dq,m.l.count,m.imp⟩::wR (seq+1) M
structure sw where
 seq:Int
 out:List eL
@[reducible] def Ns (d:sw):List ff:=[.cells [zA d.seq,.own 1] 266,My d.out]
@[reducible] def DfP (d:sw):List ff:=[.cells [zA d.seq,.own 2] 266,.gone,My d.out]
def sw.add (d:sw) (M:List VM):sw:=⟨d.seq+M.length,d.out++wR d.seq M⟩
@[reducible] def sw.ok (d:sw) (n:Nat):Prop:= -4611686018427387904<=d.seq/\d.seq+n<=4611686018427387904/\d.out.length+n<=1000000000
structure HG where
 d:sw
 m:VM
def FM:fy:=fj HG (λi=>[.nm 0 0,zA i.m.inst,zA i.m.side,Ul i.m.l,yL i.m.imp]) (λi=>Ns i.d) (λi=>i.d.ok 1) (λ_=>c9) (λi=>DfP (i.d.add [i.m]))
structure Ai where
 d:sw
 n:Nat
 s:Int
 a:Sd
 b:Sd
def FN:fy:=fj Ai (λi=>[.nm 0 0,zA i.n,zA i.s,sdV i.a,sdV i.b]) (λi=>Ns i.d) (λi=>i.d.ok (i.a.levels.length+i.b.levels.length+1)) (λ_=>c9) (λi=>DfP (i.d.add (wL i.n i.s i.a i.b)))
structure vo where
 x:List Lv
 y:List Lv
 M:List VM
def yXv (i:Ai):List gj:=[{ι:=vo,du:=λj=>[(0,.nm 0 0),(10,oy 3 (j.x.map kg)),(11,oy 3 (j.y.map kg))],rows:=λj=>Ns (i.d.add j.M)}]
def y7d:gj:={ι:=sw,du:=λ_=>[(0,.nm 0 0)],rows:=λd=>Ns d,oP:=λ_=>[(0,.nm 0 0)],lp:=λd=>Ns d}
def lvT (t:Nat):gj:={ι:=Lv,du:=λ_=>[(t,.nm 0 0)],rows:=λl=>[.cells [zA l.dj,zA l.dq,zA l.count] 177],oP:=λ_=>[(t,.nm 0 0)],lp:=λl=>[.cells [zA l.dj,zA l.dq,zA l.count] 177]}
def yZk:List (Nat×gj):=[(24,bj 41),(36,bj 73),(12,bj 29),(14,y7d),(48,bj 109),(58,lvT 12)]
structure Jn where
 v:Vw
 w:Vw
 seq:Int
def Vw.o7 (v:Vw):Nat:=(v.map λb=>b.1.levels.length+b.2.levels.length).sum
def JW:fy:=fj Jn (λi=>[Uf i.v,Uf i.w,zA i.seq]) (λ_=>[]) (λi=>i.v.length=i.w.length/\(-4000000000000000000<=i.seq/\i.seq<=4000000000000000000)/\Vw.o7 i.v<=100000000/\Vw.o7 i.w<=100000000/\i.v.length<=1000000) (λ_=> .own 0) (λi=>[My (wR i.seq (j8 0 i.v i.w))])
def y6d (i:Jn):List gj:=[
 {ι:=Nat,du:=λj=>[(7,.nm 0 0),(24,zA j)],rows:=λj=>Ns (sw.add ⟨i.seq,[]⟩ (j8 0 (i.v.take j) (i.w.take j)))},
 {ι:=Unit,du:=λ_=>[],rows:=λ_=>[],un:=3}]
end Sx
