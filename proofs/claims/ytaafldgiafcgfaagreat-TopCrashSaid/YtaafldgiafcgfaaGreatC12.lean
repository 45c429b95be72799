/- Texts of ours. No condition. -/
import Derived.Maps.RangeRun
import Derived.Test.YtaafldgiafcgfaaGreatC11
set_option linter.all false
open Sx.AObj renaming cells->aa,map->ab,own->ac,adt->ae,fro->af,objs->ag
open Go.IntKind renaming i64->aj
open Go.Value renaming int->ak
open Go renaming MapEntry->am,TypeId->ao,Value->ap,World->aq
open Bool renaming true->ar,false->au
open List renaming map->av,length->aw
open Option renaming some->ax,none->ay
open And renaming intro->az
open List.Perm renaming swap->ba,cons->bc
namespace Sx
set_option maxRecDepth 100000
open Go Cv Go.Proofs
def upd (f:Int->Int) (k v:Int):Int->Int:=λx=>if x=k then v else f x
def one (r:Rep) (m:Int):Int:=if r.kind=3/\r.inst=m then(if r.side=1 then r.qty else-r.qty)else 0
def vq (p:Prd) (k s q m:Int):Int:=
 if(p.legs k).2.2=ar then(if(p.legs k).1=m then(if s=1 then q else-q)else 0)-(if(p.legs k).2.1=m then(if s=1 then q else-q)else 0)
 else if k=m then(if s=1 then q else-q)else 0
def zRf {p:Prd} (hc:p.check=0):1<=p.count/\p.count<=21:=by
 have h1:=zFv hc;have h2:=(kD hc).m2;have h3:=xK p;omega
def yKx (c:Cmd):1<=vS c/\vS c<=4:=by
 have:=yS (n:=c.kind) (lo:=0) (hi:=8) (by omega);rw[vS];split<;>omega
def z9z (t:TmI):(xB t).kind=vS t.c:=by
 rw[xB];split<;>rfl
def yHs (t:TmI):1<=(xB t).qty/\(xB t).qty<=12:=by
 have:=yS (n:=t.c.qty) (lo:=0) (hi:=11) (by omega);have e:(xB t).qty=1+zF t.c.qty 0 11:=by rw[xB];split<;>rfl
 omega
def zBy (t:TmI):(xB t).label=[]:=by
 rw[xB];split<;>rfl
def zYd (x:Prd) (c:Cmd) (i:Int) (hk:vS c=1):let y:=xB ⟨kprod x,c,i⟩
 (0<=y.inst/\y.inst<(kprod x).count)/\(y.side=1\/y.side=2)/\(1<=y.time/\y.time<=3)/\(0<=y.least/\y.least<=y.qty)/\(-2000000<=y.price/\y.price<=2000000)/\(kprod x).price y.inst y.price=0:=by
 have hc:=mV x;have hcb:=zRf hc;have ht:=zDz x;have wi:=yS (n:=c.inst) (lo:=0) (hi:=((kprod x).count:Int)-1) (by omega);have ws:=yS (n:=c.side) (lo:=0) (hi:=1) (by omega);have wq:=yS (n:=c.qty) (lo:=0) (hi:=11) (by omega);have wp:=yS (n:=c.price) (lo:=0) (hi:=9) (by omega);have ww:=yS (n:=x.wide) (lo:=0) (hi:=60) (by omega);have wl:=yS (n:=c.least) (lo:=0) (hi:=1+zF c.qty 0 11) (by omega);have hm:=eW (a:=zT x) (b:=zF c.price 0 9) (m:=zT x) (n:=9) (by omega) wp;have hw:=eW (a:=zT x) (b:=zF x.wide 0 60) (m:=zT x) (n:=60) (by omega) ww;have hh:(y3 ⟨kprod x,c,i⟩).kind=1:=hk;have e:xB ⟨kprod x,c,i⟩={y3 ⟨kprod x,c,i⟩with id:=i+1,time:=fL c,least:=cG c (1+zF c.qty 0 11),price:=if((kprod x).legs (zF c.inst 0 ((kprod x).count-1))).2.2=ar then zT x*zF c.price 0 9-4*zT x else zT x*zF c.price 0 9+8*zT x}:=by
  rw[xB,y5d hh];rfl
 intro y;have ey:y=_:=e;rw[ey];have htm:1<=fL c/\fL c<=3:=by rw[fL];split;omega;split<;>omega
 have hle:0<=cG c (1+zF c.qty 0 11)/\cG c (1+zF c.qty 0 11)<=1+zF c.qty 0 11:=by rw[cG];split<;>omega
 refine⟨⟨wi.1,by show zF c.inst 0 ((kprod x).count-1)<_;omega⟩,by show 1+zF c.side 0 1=1\/1+zF c.side 0 1=2;omega,htm,hle,?_,?_⟩
 ·dsimp only;split<;>omega
 ·dsimp only;show(kprod x).price (zF c.inst 0 ((kprod x).count-1)) _=0;obtain⟨k,hk2⟩:∃k:Nat,zF c.inst 0 (((kprod x).count:Int)-1)=k:=⟨(zF c.inst 0 (((kprod x).count:Int)-1)).toNat,by omega⟩
  rw[hk2]at wi ⊢;have hkc:k<(kprod x).count:=by omega
  have et:(kprod x).tick=zT x:=rfl;have el:(kprod x).low= -20*zT x:=rfl;have eh:(kprod x).high=100*zT x:=rfl;have ew:(kprod x).wide=zT x*(5+zF x.wide 0 60):=rfl;rw[Int.mul_add]at ew;rw[Prd.price,y5b (by omega),y5b (by omega),et,el,eh,ew];rcases g8 hc hkc with⟨h1,_⟩|⟨h1,h2⟩
  ·have hge:((kprod x).months.length:Int)<=k:=by
    rcases y7k k (kprod x).months.length with y|y
    ·rw[Prd.legs,y5b (by omega),y5d (by omega)]at h1;cases h1
    ·omega
   rw[y5d h1,y5d hge,y5d hge,y5b,y5b (by omega)];have:zT x*zF c.price 0 9-4*zT x=zT x*(zF c.price 0 9-4):=by rw[Int.mul_sub,y9o 4]
   rw[this,lR];decide
  ·have hlt:¬((kprod x).months.length:Int)<=k:=by omega
   rw[y5b (show ¬((kprod x).legs k).2.2=ar by rw[h1];decide),y5b hlt,y5b hlt,y5b,y5b (by omega)];have:zT x*zF c.price 0 9+8*zT x=zT x*(zF c.price 0 9+8):=by rw[Int.mul_add,y9o 8]
   rw[this,lR];decide
def zPj (x:Prd) (c:Cmd) (i:Int): -2000000<=(xB ⟨kprod x,c,i⟩).price/\(xB ⟨kprod x,c,i⟩).price<=2000000:=by
 have ht:=zDz x;have wp:=yS (n:=c.price) (lo:=0) (hi:=9) (by omega);have hm:=eW (a:=zT x) (b:=zF c.price 0 9) (m:=zT x) (n:=9) (by omega) wp;have et:(kprod x).tick=zT x:=rfl;by_cases h1:vS c=1
 ·obtain⟨_,_,_,_,h,_⟩:=zYd x c i h1;exact h
 ·have hh:¬(y3 ⟨kprod x,c,i⟩).kind=1:=h1;have e:(xB ⟨kprod x,c,i⟩).price=if(y3 ⟨kprod x,c,i⟩).kind=4 then zT x*zF c.price 0 9+5*zT x else zT x*zF c.price 0 9:=by rw[xB,y5b hh];rfl
  rw[e];split<;>omega
def z4v (x:Prd) (c:Cmd) (i id:Int) (hid:1<=id/\id<=1099511627776):Cmd.right {xB ⟨kprod x,c,i⟩with id:=id}=0:=by
 have hk:=yKx c;have hq:=yHs ⟨kprod x,c,i⟩;have hp:=zPj x c i;have hcb:=zRf (mV x);rw[Cmd.right];dsimp only;rw[z9z];dsimp only;rw[y5b (by omega),y5b (by omega)];have q1:kA (xB ⟨kprod x,c,i⟩).qty=ar:=by rw[kA,y5s (by omega),y5s (by omega)];rfl
 have q2:vI (xB ⟨kprod x,c,i⟩).price=ar:=by rw[vI,y5s (by omega),y5s (by omega)];rfl
 by_cases h1:vS c=1
 ·obtain⟨a1,a2,a3,a4,a5,a6⟩:=zYd x c i h1;rw[y5d h1,Cmd.orderE];dsimp only;rw[y5b (by omega),y5b (by omega),y5b (by rw[q1];decide),y5b (by omega),y5b (by rw[zBy];simp),y5b (by rw[q2];decide),y5b (by omega)]
 ·rw[y5b h1,y5b (by rw[q1];simp),y5b (by rw[q2];simp)]
def fY (W:List (Int×Int)) (id:Int):Int×Bool:=match W.find? λx=>decide (x.1=id)with
 |some x=>(x.2,ar)
 |none=>(0,au)
def zXb:List (Int×Int)->Int->Int->List (Int×Int)
 |[],id,s=>[(id,s)]
 |x::W,id,s=>if id=x.1 then(x.1,s)::W else x::zXb W id s
def yGa (x:Int×Int) (W:List (Int×Int)) (id:Int):fY (x::W) id=if id=x.1 then(x.2,ar)else fY W id:=by
 rw[fY,xBe];by_cases c:id=x.1
 ·rw[y5d c,y5s c.symm]
 ·rw[y5b c,y5q (λe=>c e.symm)];rfl
structure GtX where
 B:List (List zH)
 U:List Int
 W:List (Int×Int)
 O:List (Int×Rep)
def yBw (B:List (List zH)) (U:List Int) (W:List (Int×Int)) (s id why:Int):GtX:=⟨B,U,W,[(s,⟨2,id,0,0,0,0,0,why⟩)]⟩
def lJ (s:Int):List (Int×Int)->List Rep->List (Int×Int)×List (Int×Rep)
 |W,[]=>(W,[])
 |W,r::R=>
  let W1:=if r.kind=1 then zXb W r.id s else W
  ((lJ s W1 R).1,(if r.kind=2 then s else(fY W1 r.id).1,r)::(lJ s W1 R).2)
def zJy (B:List (List zH)) (W:List (Int×Int)) (s:Int):Nat:=(whL 0 B).countP λx=>decide ((fY W x.1).1=s)
def zXh (p:Prd) (B:List (List zH)) (U:List Int) (W:List (Int×Int)) (s:Int) (c:Cmd):GtX:=
 if c.kind=1/\64<=zJy B W s then yBw B U W s c.id 30
 else if c.kind≠1/\((fY W c.id).2=au\/(fY W c.id).1≠s)then yBw B U W s c.id 26
 else⟨(doF p B U c).B,(doF p B U c).U,(lJ s W (doF p B U c).R).1,(lJ s W (doF p B U c).R).2⟩
def lI (p:Prd) (B:List (List zH)) (U:List Int) (W:List (Int×Int)) (s:Int) (b:List UInt8):GtX:=
 if s<0\/8<=s then yBw B U W s 0 1 else if(xH b).2≠0 then yBw B U W s 0 (xH b).2 else zXh p B U W s (xH b).1
def z8b (p:Prd) (x:jW) {r:Rep} (hr:r.kind=3):∀y∈m4 p x r,y.kind=3:=by
 intro y hy;rw[m4,y5w]at hy;rcases hy with rfl|hy
 ·exact hr
 ·split at hy
  ·rw[zEg]at hy;simp only[y5w,xAr,or_false]at hy;rcases hy with rfl|rfl<;>exact hr
  ·cases hy
def zZd (p:Prd) (c:Cmd):∀(l:List jW) (q:Int),∀y∈aP p c l q,y.kind=3
 |[],_,y,hy=>by cases hy
 |x::l,q,y,hy=>by
  rw[aP,y6f]at hy;rcases hy with hy|hy
  ·rw[mZ,y6f]at hy;rcases hy with hy|hy
   ·obtain⟨f,_,hy⟩:=y7u.1 hy;exact z8b p x rfl y hy
   ·exact z8b p x rfl y hy
  ·exact zZd p c l _ y hy
def z0g (p:Prd) (B:List (List zH)) (U:List Int) (c:Cmd):(∀r∈(cV p B U c).R,r.kind=1->r.id=c.id)/\∃r l,(cV p B U c).R=r::l/\r.kind=1/\r.id=c.id:=by
 rw[lM];dsimp only;refine⟨λr hr hk=> ?_,_,_,rfl,rfl,rfl⟩;rw[y6t,y5w,y6f]at hr;rcases hr with rfl|hr|hr
 ·rfl
 ·have:=zZd _ _ _ _ r hr;omega
 ·split at hr
  ·rw[y6r]at hr;subst hr;rfl
  ·cases hr
def z8z:∀{l m:List Nat},l.Nodup->(∀x∈l,x∈m)->l.length<=m.length
 |[],m,_,_=>y6i _
 |a::l,m,h,hs=>by
  rw[y7r]at h;have ha:=hs a y5h;have:=z8z (l:=l) (m:=m.erase a) h.2 λx hx=>(List.mem_erase_of_ne (λe=>h.1 (by rw[<- e];exact hx))).2 (hs x (y5j _ hx))
  rw[List.length_erase_of_mem ha]at this;have:=List.length_pos_of_mem ha;rw[y5g];omega
structure Handed (ents:List am) (seen:Array Nat) (dn:List am):Prop where
 sn:seen.toList=dn.map (·.born)
 nd:(dn.map (·.born)).Nodup
 sub:∀e∈dn,e∈ents
def Handed.push {ents:List am} {seen:Array Nat} {dn:List am} (h:Handed ents seen dn) {e:am} (he:e∈(leftOf ents.toArray seen).toList):Handed ents (seen.push e.born) (dn++[e]):=by
 simp only[leftOf,Array.toList_filter,y7c,y8o]at he;obtain⟨h1,h2⟩:=he;have h3:e.born∉dn.map (·.born):=by
  rw[<- h.sn];intro hm;have:seen.contains e.born=ar:=by
   rw[Array.contains_iff_mem];exact Array.mem_toList_iff.1 hm
  rw[this]at h2;cases h2
 refine⟨by rw[Array.toList_push,h.sn,y5l];rfl,?_,λx hx=> ?_⟩
 ·rw[y5l,xBg,y7l];exact⟨h.nd,by simp,λx hx y hy e=>by rw[y6r]at hy;subst hy;subst e;exact h3 hx⟩
 ·rcases y6f.1 hx with hx|hx
  ·exact h.sub x hx
  ·rw[y6r]at hx;subst hx;exact h1
def Handed.len {ents:List am} {seen:Array Nat} {dn:List am} (h:Handed ents seen dn):dn.length<=ents.length:=by
 have:=z8z (m:=ents.map (·.born)) h.nd λx hx=>by
  obtain⟨e,he,rfl⟩:=y6n.1 hx;exact y6g (f:=(·.born)) (h.sub e he)
 simpa using this
def Handed.all {ents:List am} {seen:Array Nat} {dn:List am} (h:Handed ents seen dn) (hn:(ents.map (·.born)).Nodup) (h0:(leftOf ents.toArray seen).size=0):dn.Perm ents:=by
 have inj:∀{l:List am},(l.map (·.born)).Nodup->∀x∈l,∀y∈l,x.born=y.born->x=y:=by
  intro l hl
  induction l with
  |nil=>intro x hx;cases hx
  |cons a l ih=>
   rw[y5p,y7r]at hl;intro x hx y hy e;rcases y5w.1 hx with e1|h1<;>rcases y5w.1 hy with e2|h2
   ·rw[e1,e2]
   ·refine absurd ?_ hl.1;rw[<- e1,e];exact y6g (f:=(·.born)) h2
   ·refine absurd ?_ hl.1;rw[<- e2,<- e];exact y6g (f:=(·.born)) h1
   ·exact ih hl.2 x h1 y h2 e
 have nd:∀{l:List am},(l.map (·.born)).Nodup->l.Nodup:=λhl=>List.Pairwise.imp (λhne e=>hne (by rw[e])) (List.pairwise_map.1 hl)
 refine(List.perm_ext_iff_of_nodup (nd h.nd) (nd hn)).2 λe=>⟨h.sub e,λhe=> ?_⟩
 have:seen.contains e.born=ar:=by
  cases hc:seen.contains e.born with
  |true=>rfl
  |false=>
   have hm:e∈(leftOf ents.toArray seen).toList:=by
    simp only[leftOf,Array.toList_filter,y7c];exact⟨he,by rw[hc];rfl⟩
   have:(leftOf ents.toArray seen).toList=[]:=y6d (by simpa using h0);rw[this]at hm;cases hm
 rw[Array.contains_iff_mem]at this;have:=Array.mem_toList_iff.2 this;rw[h.sn]at this;obtain⟨x,hx,e2⟩:=y6n.1 this;rw[<- inj hn x (h.sub x hx) e he e2];exact hx
def z3u (k:Ko) (LL:List HP) (ents:List am) (e:Ending) (w':aq):Prop:=∃(a:Option Addr) (n c:Nat) (xs:List ap) (dn:List am),e=.returned (.slice a n c)/\xs=dn.map (·.key)/\n=dn.length/\dn.Perm ents/\Hp k w' (slO 2 1 a n c xs::LL)
def yEw (k:Ko) (LL:List HP) (ents:List am) (r bm ck:Nat) (v:ap) (w1:aq):Prop:=∃(a:Option Addr) (n c:Nat) (xs:List ap) (seen:Array Nat) (c0:Nat) (dn:List am),v=.slice a n c/\xs=dn.map (·.key)/\n=dn.length/\ck<=c0/\Handed ents seen dn/\Hp k w1 (slO 2 1 a n c xs::pt r (.mapIter (ax bm) ck seen c0)::LL)
def yDm (ents:List am) (v:ap) (_:aq):Nat:=match v with| .slice _ n _=>ents.length-n|_=>0
def yAl {b bm ck:Nat} {ents:List am} {w:aq} {k:Ko} {LL:List HP} {l:List ap} {T:ao}
 (H:Hp k w LL) (hat:∀w',Hp k w' LL->w'.heap[b]? =ax (.cells l.toArray T)/\w'.heap[bm]? =ax (.map ents.toArray ck)) (hl:l[12]? =ax (.map (ax bm)))
 (hck:∀e∈ents,e.born<ck) (hn:(ents.map (·.born)).Nodup) (hk:∀e∈ents,∃n,e.key= .int .i64 n) (hsz:ents.length<=1000000):
 Calls Tryz.prog 164 #[.pointer (ax ⟨b,0,ay⟩)] w (z3u k LL ents):=by
 refine calls_of_cwp (c:=Tryz.f164.body.getD .skip) (args:=[.pointer (ax ⟨b,0,ay⟩)]) mixed Tryz.func164 (by kernel_rfl) [{ι:=ap,chg:=λv=>[(3,v)],fix:=[9]}] (by kernel_rfl) (by kernel_rfl) (by kernel_rfl) ?_;obtain⟨h1,h2⟩:=hat w H;have hu:Tryz.prog.underlying 109=ax (.map 2 3):=by kernel_rfl
 refine⟨ax bm,?_,ax ⟨w.heap.size,0,ay⟩,w.alloc (.mapIter (ax bm) ck #[] ck),?_,?_⟩
 ·show mT Tryz.prog 109 ⟨b,12,ay⟩ w (.map (ax bm));exact wP (by kernel_rfl) h1 hl
 ·show(Instr.range 109 (.map (ax bm))).run Tryz.prog w=_;exact run_range_map w _ _ _ bm _ ck hu h2
 refine⟨yEw k LL ents w.heap.size bm ck,yDm ents,⟨.slice ay 0 0,rfl,ay,0,0,[],#[],ck,[],rfl,rfl,rfl,y5x _,⟨rfl,List.nodup_nil,λe he=>by cases he⟩,(H.new _).nil _ _⟩,?_⟩;rintro j v w1 ⟨a,n,c,xs,seen,c0,dn,rfl,hxs,hnl,hc0,hh,H1⟩;have hr:=H1.drop.get;obtain⟨-,g2⟩:=hat w1 H1.drop.drop;rcases run_next_at (P:=Tryz.prog) w1 0 w.heap.size bm ck c0 seen ents.toArray ck hr g2 (λx hx=>hck x (by simpa using hx)) hc0 with⟨e1,e2⟩|⟨e,he,w2,hw2,hrun⟩
 ·refine .inl ⟨w1,e2,?_⟩;show z3u k LL ents (.returned (.slice a n c)) w1;exact⟨a,n,c,xs,dn,rfl,hxs,hnl,hh.all hn e1,(H1.swap).drop⟩
 ·have hmem:e∈ents:=by
   have:=he;simp only[leftOf,Array.toList_filter,y7c]at this;exact this.1
  obtain⟨m,hm⟩:=hk e hmem;have hp:=hh.push he;have H2:Hp k (World.setB w2 w.heap.size (.mapIter (ax bm) ck (seen.push e.born) ck)) (slO 2 1 a n c xs::pt w.heap.size (.mapIter (ax bm) ck (seen.push e.born) ck)::LL):=by
   have H1':Hp k w2 (slO 2 1 a n c xs::pt w.heap.size (.mapIter (ax bm) ck seen c0)::LL):=by
    rcases hw2 with rfl|rfl
    ·exact H1
    ·exact H1.drew
   exact((H1'.swap).upd _).swap
  have hset:Go.ChangeMaps.setBlock w2 w.heap.size (.mapIter (ax bm) ck (seen.push e.born) ck)=World.setB w2 w.heap.size (.mapIter (ax bm) ck (seen.push e.born) ck):=rfl;rw[hset]at hrun;generalize hw3:World.setB w2 w.heap.size (.mapIter (ax bm) ck (seen.push e.born) ck)=w3 at H2 hrun;obtain⟨-,g3⟩:=hat w3 H2.drop.drop;have hent:=run_entry_at (P:=Tryz.prog) w3 w.heap.size bm ck seen ents.toArray ck e H2.drop.get g3 (by simpa using hmem) (by simpa using hn);refine .inr ⟨e.key,e.val,w3,hrun,.tuple #[e.key,e.val],hent,?_⟩;rw[hm];have hlen:=hp.len;rw[y5a,y6z]at hlen;refine Eq.mp (α:=z4j w3 (.cells #[.int .i64 m] 2) λbb w4=>∃(a':Option Addr) (n' c':Nat),∃w5,u0 Tryz.prog (Builtin.append_ #[23,23] 23 #[.slice a n c,.slice (ax ⟨bb,0,ay⟩) 1 1]) w4 (.slice a' n' c') w5/\∃i',.slice a' n' c'=i'/\yEw k LL ents w.heap.size bm ck i' w5/\yDm ents i' w5<yDm ents (.slice a n c) w1) (by kernel_rfl) ?_;rintro bb w4 hb hw4;subst hb hw4;have H3:=(H2.new (.cells [ak .i64 m].toArray 2)).lit (sz:=1) (n:=1) rfl;obtain⟨a',c',w5,hap,H5⟩:=(H3.swap).append (P:=Tryz.prog) (t1:=23) (t2:=23) (rt:=23) (e:=2) (sz:=1) (by_:=8) (z:= #[.int .i64 0]) (by kernel_rfl) (by kernel_rfl) (x:= .slice (ax ⟨w3.heap.size,0,ay⟩) 1 1) (m:=1) (ys:=[.int .i64 m]) (.inl ⟨_,_,rfl,H3.satR⟩) (by simp[Value.oneC]) rfl (by decide) (by omega);refine⟨a',n+1,c',w5,hap,.slice a' (n+1) c',rfl,⟨a',n+1,c',_,_,ck,dn++[e],rfl,?_,?_,y5x _,hp,(H5.swap).drop⟩,?_⟩
  ·rw[hxs,y5l,xBg,hm]
  ·rw[y5a,hnl];rfl
  ·show ents.length-(n+1)<ents.length-n;omega
def z7y {F:PH}:∀{l:List (Int×Int)} {ents:List am},MR F (yO l) ents->ents.map (·.key)=l.map (λp=>ak .i64 p.1)
 |[],ents,h=>by
  have h:ents=[]:=h;subst h;rfl
 |p::l,ents,h=>by
  obtain⟨m,ms,rfl,h1,-,h3⟩:=h;rw[y5p,y5p,z7y (l:=l) h3,h1]
def z7o:ap->Int
 | .int _ n=>n
 |_=>0
def yCv {xs:List ap} {m:List Int} (h:xs.Perm (m.map λn=>ak .i64 n)):∃l:List Int,xs=l.map (λn=>ak .i64 n)/\l.Perm m:=by
 refine⟨xs.map z7o,?_,?_⟩
 ·rw[y7q];have:∀x∈xs,((λn=>ak .i64 n)∘z7o) x=x:=by
   intro x hx;obtain⟨n,_,rfl⟩:=y6n.1 (h.mem_iff.1 hx);rfl
  rw[y6k this,List.map_id']
 ·have:=h.map z7o;rw[y7q]at this;have e:(z7o∘λn=>ak .i64 n)=id:=rfl;rw[e,List.map_id]at this;exact this
def z7x (F:PH):∀l:List Int,DRL F (iE l).flatten (l.map λn=>ak .i64 n)
 |[]=>by simp[iE,DRL]
 |n::l=>by
  have ih:=z7x F l;have e:(iE (n::l)).flatten= .v (.int .i64 n)::(iE l).flatten:=rfl;rw[e,DRL];exact⟨.int .i64 n,_,rfl,by simp[DR,Value.oneC],ih⟩
def sids0C:Con where
 ι:=MSt
 pat:=λ_=>[.nm 0 0]
 pre:=λs=>[zD s]
 cnd:=λs=>s.wh.length<=1000000
 alts:=λs=>[{o:=List Int,res:=λ_=> .own 1,post:=λl=>[zD s,.own 2 1 (iE l)],rel:=λl=>l.Perm (s.wh.map (·.1))}]
@[reducible] def zKk (s:MSt):St:=zLo [0] ⟨uV 0 (sids0C.pre s),(sids0C.pre s).length⟩
def yMi (s:MSt) (l:List Int) (hl:l.Perm (s.wh.map (·.1))):yMk 1 (.own 5) ((zKk s).new (.own 2 1 (iE l))) (sids0C.alts s):=by
 refine Eq.mp (α:=∃(o:List Int),sb s.p.code=sb s.p.code/\s.p.tick=s.p.tick/\s.p.low=s.p.low/\s.p.high=s.p.high/\s.p.wide=s.p.wide/\s.p.rule=s.p.rule/\s.p.top=s.p.top/\s.p.least=s.p.least/\s.p.part=s.p.part/\ag 197 Book 6 zP s.books ay=ag 197 Book 6 zP s.books ay/\yO s.wh=yO s.wh/\af 1 (iE s.p.months)=af 1 (iE s.p.months)/\af 1 (iE s.p.settle)=af 1 (iE s.p.settle)/\iE o=iE l/\o.Perm (s.wh.map (·.1))) (by kernel_rfl) ?_
 exact⟨l,rfl,rfl,rfl,rfl,rfl,rfl,rfl,rfl,rfl,rfl,rfl,rfl,rfl,rfl,hl⟩
def yGr:sids0C.ok Tryz.prog 164:=by
 intro s hc k L E w ys R hv;have hc:s.wh.length<=1000000:=hc;have hnx:=R.nx;obtain⟨E1,hle,R1⟩:=zBr [0] R;have R1:Rel k L E1 (zKk s) w:=R1;have hc0:(zKk s).get 0=ax (.cells [sV s.p.code,.own 3,zA s.p.tick,zA s.p.low,zA s.p.high,zA s.p.wide,zA s.p.rule,zA s.p.top,zA s.p.least,zA s.p.part,.own 4,.own 1,.mp 2] 195):=rfl;have hc2:((zKk s).del 0).get 2=ax (.map (yO s.wh)):=rfl;have Ra:=(R1.take hc0).take hc2;have H0:Hp k w (rHP E1 (2,.map (yO s.wh))::rHP E1 (0,.cells [sV s.p.code,.own 3,zA s.p.tick,zA s.p.low,zA s.p.high,zA s.p.wide,zA s.p.rule,zA s.p.top,zA s.p.least,zA s.p.part,.own 4,.own 1,.mp 2] 195)::((((zKk s).del 0).del 2).rows.map (rHP E1)++fz E1.F::L)):=
  Ra.out.perm (.cons _ (((ba _ _ _).append_left _).trans y5r))
 generalize hrest:(((zKk s).del 0).del 2).rows.map (rHP E1)++fz E1.F::L=rest at H0;obtain⟨hk,hs,hh⟩:=H0;cases hh with
 |cons ha hsub hdj hr=>
 cases hr with
 |cons ha0 hsub0 hdj0 hr0=>
 rcases ha with⟨e,_⟩|⟨hd2,t2,r2⟩
 ·cases e
 rcases ha0 with⟨e,_⟩|⟨hd0,t0,r0⟩
 ·cases e
 simp only[rowHP]at r2 r0;obtain⟨bm,ents,ck,q1,q2,q3,rfl⟩:=r2;obtain⟨b,l,p1,p2,rfl⟩:=r0;have H:Hp k w (pt bm (.map ents.toArray ck)::pt b (.cells l.toArray 195)::rest):=⟨hk,_,.cons rfl hsub hdj (.cons rfl hsub0 hdj0 hr0)⟩
 have hl12:l[12]? =ax (.map (ax bm)):=by
  simp only[VRL,VR]at p2;obtain⟨_,_,rfl,-,_,_,rfl,-,_,_,rfl,-,_,_,rfl,-,_,_,rfl,-,_,_,rfl,-,_,_,rfl,-,_,_,rfl,-,_,_,rfl,-,_,_,rfl,-,_,_,rfl,-,_,_,rfl,-,y,_,rfl,⟨bb,sub,g1,rfl⟩,rfl⟩:=p2;rw[t2]at g1;cases g1;cases q1;rfl
 have hys:ys=[.pointer (ax ⟨b,0,ay⟩)]:=by
  simp only[sids0C,VRL,VR]at hv;obtain⟨y,_,rfl,⟨b',oo,sub,g1,rfl⟩,rfl⟩:=hv;rw[hle.get g1]at t0;cases t0;cases p1;rfl
 subst hys;have hkeys:=z7y q2;have hlen:ents.length=s.wh.length:=by simpa using congrArg aw hkeys
 have hcall:=yAl H (λw' H'=>⟨(H'.swap).get,H'.get⟩) hl12 q3.2 q3.1 (λe he=>by
  have:e.key∈ents.map (·.key):=y6g (f:=(·.key)) he
  rw[hkeys]at this;obtain⟨p,_,hp⟩:=y6n.1 this;exact⟨p.1,hp.symm⟩) (by omega)
 have hdo:=mD (P:=Tryz.prog) (f:=164) (args:= #[.pointer (ax ⟨b,0,ay⟩)]) (w:=w) (K:=λv w'=>z3u k (pt bm (.map ents.toArray ck)::pt b (.cells l.toArray 195)::rest) ents (.returned v) w') (by kernel_rfl) (hcall.mono λe w' h=>by
  have h2:=h;obtain⟨a,n,c,xs,dn,rfl,-⟩:=h2;exact⟨_,rfl,h⟩)
 refine hdo.mono ?_;rintro v w' ⟨a,n,c,xs,dn,hv',rfl,rfl,hperm,H2⟩;cases hv';obtain⟨li,e1,e2⟩:=yCv (xs:=dn.map (·.key)) (m:=s.wh.map (·.1)) (by
  have:=hperm.map (·.key)
  rw[hkeys]at this;rwa [y7q])
 have elen:dn.length=li.length:=by simpa using congrArg aw e1
 rw[e1,elen]at H2;rw[elen];have H3:Hp k w' (slO 2 1 a li.length c (li.map λn=>ak .i64 n)::((zKk s).rows.map (rHP E1)++fz E1.F::L)):=by
  have h1:Hp k w' (rHP E1 (2,.map (yO s.wh))::rHP E1 (0,.cells [sV s.p.code,.own 3,zA s.p.tick,zA s.p.low,zA s.p.high,zA s.p.wide,zA s.p.rule,zA s.p.top,zA s.p.least,zA s.p.part,.own 4,.own 1,.mp 2] 195)::slO 2 1 a li.length c (li.map λn=>ak .i64 n)::rest):=by
   have g0:Hp k w' (pt bm (.map ents.toArray ck)::pt b (.cells l.toArray 195)::slO 2 1 a li.length c (li.map λn=>ak .i64 n)::rest):=
    H2.perm ((ba _ _ _).trans (.cons _ (.swap _ _ _)))
   have g1:=g0.imp (B:=rHP E1 (2,.map (yO s.wh))) λx hx=> .inr ⟨hd2,t2,by simp only[rowHP];exact⟨bm,ents,ck,q1,q2,q3,hx⟩⟩
   have g2:=(g1.swap).imp (B:=rHP E1 (0,.cells [sV s.p.code,.own 3,zA s.p.tick,zA s.p.low,zA s.p.high,zA s.p.wide,zA s.p.rule,zA s.p.top,zA s.p.least,zA s.p.part,.own 4,.own 1,.mp 2] 195)) λx hx=> .inr ⟨hd0,t0,by simp only[rowHP];exact⟨b,l,p1,p2,hx⟩⟩
   exact g2.swap
  subst hrest;refine h1.perm ?_;have p0:=((vD hc0).1.map (rHP E1))
  have p2:=((vD hc2).1.map (rHP E1))
  have p3:=(p0.trans (p2.cons _)).append_right (fz E1.F::L);refine List.Perm.trans ?_ (p3.symm.cons _);exact(ba _ _ _).trans ((bc _ (.swap _ _ _)).trans (.swap _ _ _))
 have hle2:E1.le ⟨E1.F,E1.tab++[((.slice a li.length c,[]):Hd)]⟩:=Ev.le.app _;have hget:(E1.tab++[((.slice a li.length c,[]):Hd)])[(zKk s).nx]? =ax (.slice a li.length c,[]):=by rw[<- R1.nx];simp
 have R2:Rel k L ⟨E1.F,E1.tab++[((.slice a li.length c,[]):Hd)]⟩ ((zKk s).new (.own 2 1 (iE li))) w':=by
  refine⟨by simp[St.new,R1.nx],?_⟩;have g1:Hp k w' ((zKk s).rows.map (rHP E1)++(slO 2 1 a li.length c (li.map λn=>ak .i64 n)::fz E1.F::L)):=H3.perm (y5r (l₁:=(zKk s).rows.map (rHP E1))).symm;have g2:=wE (λr x=>rHP.mono hle2 r) g1;have g3:Hp k w' (slO 2 1 a li.length c (li.map λn=>ak .i64 n)::((zKk s).rows.map (rHP ⟨E1.F,E1.tab++[((.slice a li.length c,[]):Hd)]⟩)++fz E1.F::L)):=g2.perm y5r;exact g3.imp λx hx=> .inr ⟨_,hget,by
   simp only[rowHP];exact⟨a,c,_,by rw[yZ],z7x _ li,λel hel=>by obtain⟨n,_,rfl⟩:=y6n.1 hel;rfl,by rw[yZ];exact hx⟩⟩
 obtain⟨al,ha,hend⟩:=zFa (yMi s li e2);obtain⟨o,o1,E3,o2,o3,o4⟩:=zWl hend hnx (hle.trans hle2) R2 (y:= .slice a li.length c) (by simp only[VR];exact⟨_,hget,_,_,_,rfl⟩);exact⟨al,ha,o,o1,E3,o2,o3,o4⟩
structure MkB where
 m:Mkt
 p:Prd
 B:List (List zH)
 U:List Int
@[reducible] def MkB.ok (i:MkB):Prop:=i.m.Rep i.p i.B i.U/\BOk i.p i.B
def midsC:Con where
 ι:=MkB
 pat:=λ_=>[.nm 0 0]
 pre:=λi=>[jA i.m]
 cnd:=λi=>i.ok
 alts:=λi=>[{o:=List Int,res:=λ_=> .own 1,post:=λl=>[jA i.m,.own 2 1 (iE l)],rel:=λl=>l.Perm ((whL 0 i.B).map (·.1))}]
structure Gt where
 m:Mkt
 W:List (Int×Int)
def xM (W:List (Int×Int)):List (ap×List D):=W.map λx=>(.int .i64 x.1,[.v (.int .i64 x.2)])
def GtU (g:Gt):Nat->AObj
 |0=> .cells [.nm 1 0,.mp 2] 111
 |1=>jA g.m
 |2=> .map (xM g.W)
 |_=> .gone
def GtR (g:Gt):AObj:= .adt Gt 3 GtU g
def k0 (o:Int×Rep):List D:= .v (.int .i64 o.1)::xQ o.2
@[reducible] def z5d:Nat:=67
@[reducible] def z4w (O:List (Int×Rep)):AObj:= .own z5d 9 (O.map k0)
def newGC:Con where
 ι:=Prd
 pat:=λp=>[prdV p]
 pre:=λ_=>[]
 cnd:=λp=>p.small
 alts:=λp=>[{o:=Unit,res:=λ_=> .tup [.nm 0 0,zA 0],post:=λ_=>[GtR ⟨⟨p,aV p,[]⟩,[]⟩],rel:=λ_=>p.check=0},{o:=Unit,res:=λ_=> .tup [.d (.v (.pointer ay)),zA p.check],post:=λ_=>[],rel:=λ_=>p.check≠0}]
structure GrI where
 s:Int
 id:Int
 why:Int
def grejC:Con:=con1 GrI (λi=>[zA i.s,zA i.id,zA i.why]) (λ_=>[]) (λ_=>True) (λ_=> .own 0) (λi=>[z4w [(i.s,⟨2,i.id,0,0,0,0,0,i.why⟩)]])
structure SbI where
 s:Int
 b:List UInt8
def zS (s:Int) (b:List UInt8):Cmd×Int:=if s<0\/8<=s then(zTq,1)else xH b
def greadC:Con:=con1 SbI (λi=>[zA i.s,roV 1 (bE i.b)]) (λ_=>[]) (λi=>i.b.length<=1099511627776) (λi=> .tup [zGd (zS i.s i.b).1,zA (zS i.s i.b).2]) (λ_=>[])
structure GtI where
 g:Gt
 p:Prd
 B:List (List zH)
 U:List Int
 s:Int
@[reducible] def GtI.ok (i:GtI):Prop:=i.g.m.Rep i.p i.B i.U/\BOk i.p i.B
def gopenC:Con:=con1 GtI (λi=>[.nm 0 0,zA i.s]) (λi=>[GtR i.g]) (λi=>i.ok) (λi=>zA (zJy i.B i.g.W i.s)) (λi=>[GtR i.g])
def GtO (g:Gt):List AObj:=[.cells [.nm 1 0,.mp 2] 111,jA g.m,.map (xM g.W)]
def gopenOC:Con:=con1 GtI (λi=>[.nm 0 0,zA i.s]) (λi=>GtO i.g) (λi=>i.ok) (λi=>zA (zJy i.B i.g.W i.s)) (λi=>GtO i.g)
def yUg:List SAnn:=[{ι:=Int×Nat,slots:=λj=>[(5,zA j.1),(14,zA j.2)],rows:=λ_=>[]}]
structure GdI where
 g:Gt
 p:Prd
 B:List (List zH)
 U:List Int
 s:Int
 b:List UInt8
 X:GtX
def gdoC:Con where
 ι:=GdI
 pat:=λi=>[.nm 0 0,zA i.s,roV 1 (bE i.b)]
 pre:=λi=>[GtR i.g]
 cnd:=λi=>(i.g.m.Rep i.p i.B i.U/\BOk i.p i.B)/\i.b.length<=1099511627776/\i.X=lI i.p i.B i.U i.g.W i.s i.b
 alts:=λi=>[{o:=Mkt,res:=λ_=> .own 1,post:=λo=>[GtR ⟨o,i.X.W⟩,z4w i.X.O],rel:=λo=>o.Rep i.p i.X.B i.X.U}]
structure GdJ where
 o:Mkt
 W:List (Int×Int)
 O:List (Int×Rep)
 k:Nat
def GdJ.rows (j:GdJ):List AObj:=[.cells [.nm 1 0,.mp 2] 111,jA j.o,.map (xM j.W),z4w j.O]
def y3d:List SAnn:=[{ι:=GdJ,slots:=λj=>[(0,.nm 0 0),(11,.own 3),(74,zA j.k)],rows:=GdJ.rows}]
def y3q:List (Nat×SAnn):=[(20,bj 36),(28,bj 50),(66,ij 14)]
def yZr (i:MkB):Prop:=
 ∃(i_1:MSt),zD i_1=zD i.m.s/\i_1.wh.length<=1000000/\∀(o:List Int),o.Perm (av (λ(x:Int×Int) ↦ x.fst) i_1.wh)->∃(o_1:List Int),dh (sb i.m.p.code)/\dh i.m.p.tick/\dh i.m.p.low/\dh i.m.p.high/\dh i.m.p.wide/\dh i.m.p.rule/\dh i.m.p.top/\dh i.m.p.least/\dh i.m.p.part/\zD i.m.s=zD i_1/\dh (zV i.m.used)/\dh (af 1 (iE i.m.p.months))/\dh (af 1 (iE i.m.p.settle))/\iE o_1=iE o/\o_1.Perm (av (λ(x:Int×Int) ↦ x.fst) (whL 0 i.B))
def y2l (p:Prd):Prop:=
 ∃(i:Prd),sb i.code=sb p.code/\iE i.months=iE p.months/\i.tick=p.tick/\i.low=p.low/\i.high=p.high/\i.wide=p.wide/\i.rule=p.rule/\i.top=p.top/\i.least=p.least/\i.part=p.part/\iE i.settle=iE p.settle/\(i.code.length<=1099511627776/\i.months.length<=1099511627776/\i.settle.length<=1099511627776)/\(∀(o:Unit),i.check=0->(∃(o:Unit),dh ((0:Int))/\ae Mkt 5 yW (Mkt.mk p (aV p) [])=ae Mkt 5 yW (Mkt.mk i (aV i) [])/\xM []=[]/\p.check=0)\/∃(o:Unit),False)/\∀(o:Unit),i.check≠0->cnd (i.check !=0) ((∃(o:Unit),False)\/∃(o:Unit),True/\p.check=i.check/\(p.check=0->False)) ((∃(o:Unit),dh ((0:Int))/\False)\/∃(o:Unit),False)
def yYj (i:GrI):Prop:=
 ∃(o:Unit),[k0 (i.s,Rep.mk 2 i.id 0 0 0 0 0 i.why)]=[[D.v (.int .i64 i.s),D.v (.int .i64 2),D.v (.int .i64 i.id),D.v (.int .i64 0),D.v (.int .i64 0),D.v (.int .i64 0),D.v (.int .i64 0),D.v (.int .i64 0),D.v (.int .i64 i.why)]]/\True
def yTx (i:SbI):Prop:=
 cnd (decide (i.s<0)) (∃(o:Unit),(zS i.s i.b).fst.kind=0/\(zS i.s i.b).fst.id=0/\(zS i.s i.b).fst.inst=0/\(zS i.s i.b).fst.side=0/\(zS i.s i.b).fst.price=0/\(zS i.s i.b).fst.qty=0/\(zS i.s i.b).fst.least=0/\(zS i.s i.b).fst.time=0/\sb (zS i.s i.b).fst.label=ByteArray.mk #[]/\(zS i.s i.b).snd=1/\True) (cnd (decide (i.s>=8)) (∃(o:Unit),(zS i.s i.b).fst.kind=0/\(zS i.s i.b).fst.id=0/\(zS i.s i.b).fst.inst=0/\(zS i.s i.b).fst.side=0/\(zS i.s i.b).fst.price=0/\(zS i.s i.b).fst.qty=0/\(zS i.s i.b).fst.least=0/\(zS i.s i.b).fst.time=0/\sb (zS i.s i.b).fst.label=ByteArray.mk #[]/\(zS i.s i.b).snd=1/\True) (∃(i_1:List UInt8),bE i_1=bE i.b/\i_1.length<=1099511627776/\∀(o:Unit),True->∃(o:Unit),(zS i.s i.b).fst.kind=(xH i_1).fst.kind/\(zS i.s i.b).fst.id=(xH i_1).fst.id/\(zS i.s i.b).fst.inst=(xH i_1).fst.inst/\(zS i.s i.b).fst.side=(xH i_1).fst.side/\(zS i.s i.b).fst.price=(xH i_1).fst.price/\(zS i.s i.b).fst.qty=(xH i_1).fst.qty/\(zS i.s i.b).fst.least=(xH i_1).fst.least/\(zS i.s i.b).fst.time=(xH i_1).fst.time/\sb (zS i.s i.b).fst.label=sb (xH i_1).fst.label/\(zS i.s i.b).snd=(xH i_1).snd/\True))
def zDo (a:Int×Nat) (b:Int×Nat) (c:Int×Nat->Prop) (d:Int×Nat->Nat) (e:MkB) (f:List Int) (g:GtI):Prop:=(↑a.snd:Int)=aj.wrap ((↑b.snd:Int)+1)/\c a/\d a<d b/\dh (jA e.m)/\dh (ac 2 1 (iE f))/\dh (aa [V.nm 1 0,V.mp 2] (111:ao))/\dh (ab (xM g.g.W))
def yIp (i:GtI):Prop:=
 ∃(a:MkB),jA a.m=jA i.g.m/\(a.m.Rep a.p a.B a.U/\BOk a.p a.B)/\∀(b:List Int),b.Perm (av (λ(x:Int×Int) ↦ x.fst) (whL 0 a.B))->∃(c:Int×Nat),c.fst=0/\(↑c.snd:Int)=0/\∃(d:Int×Nat->Prop),∃(e:Int×Nat->Nat),d c/\∀(f:Int×Nat),d f->cnd (decide ((↑f.snd:Int)<(↑(iE b).length:Int))) ((0<=(↑f.snd:Int)/\(↑f.snd:Int)<(↑(iE b).length:Int))/\∃(g:Int),zE (iE b) (↑f.snd:Int).toNat 0 1=ax [dI g]/\(∀(h:ap×List D),h∈xM i.g.W->like (ak aj g) h.fst=ar)/\∃(h:Bool),∃(j:Int),(kK (ak aj g) (xM i.g.W)=ax [dI j]/\h=ar\/kK (ak aj g) (xM i.g.W)=ay/\[dI j]=[dI 0]/\h=au)/\cnd (j==i.s) (∃(k:Int×Nat),k.fst=aj.wrap (f.fst+1)/\zDo k f d e a b i) (∃(k:Int×Nat),k.fst=f.fst/\zDo k f d e a b i)) (∃(g:Unit),(↑(zJy i.B i.g.W i.s):Int)=f.fst/\jA i.g.m=jA a.m/\dh (xM i.g.W)/\True)
def yNg (i:GtI):Prop:=
 ∃(i_1:MkB),ae Mkt 5 yW i_1.m=jA i.g.m/\(i_1.m.Rep i_1.p i_1.B i_1.U/\BOk i_1.p i_1.B)/\∀(o:List Int),o.Perm (av (λ(x:Int×Int) ↦ x.fst) (whL 0 i_1.B))->∃(i0:Int×Nat),i0.fst=0/\(↑i0.snd:Int)=0/\∃(I:Int×Nat->Prop),∃(μ:Int×Nat->Nat),I i0/\∀(i_2:Int×Nat),I i_2->cnd (decide ((↑i_2.snd:Int)<(↑(iE o).length:Int))) ((0<=(↑i_2.snd:Int)/\(↑i_2.snd:Int)<(↑(iE o).length:Int))/\∃(n:Int),zE (iE o) (↑i_2.snd:Int).toNat 0 1=ax [D.v (.int .i64 n)]/\(∀(p:ap×List D),p∈xM i.g.W->like (ak aj n) p.fst=ar)/\∃(b:Bool),∃(n_1:Int),(kK (ak aj n) (xM i.g.W)=ax [D.v (.int .i64 n_1)]/\b=ar\/kK (ak aj n) (xM i.g.W)=ay/\[D.v (.int .i64 n_1)]=[D.v (.int .i64 0)]/\b=au)/\cnd (n_1==i.s) (∃(i':Int×Nat),i'.fst=aj.wrap (i_2.fst+1)/\(↑i'.snd:Int)=aj.wrap ((↑i_2.snd:Int)+1)/\I i'/\μ i'<μ i_2/\dh (ae Mkt 5 yW i_1.m)/\dh (ac 2 1 (iE o))/\dh (aa [V.nm 1 0,V.mp 2] (111:ao))/\dh (ab (xM i.g.W))) (∃(i':Int×Nat),i'.fst=i_2.fst/\(↑i'.snd:Int)=aj.wrap ((↑i_2.snd:Int)+1)/\I i'/\μ i'<μ i_2/\dh (ae Mkt 5 yW i_1.m)/\dh (ac 2 1 (iE o))/\dh (aa [V.nm 1 0,V.mp 2] (111:ao))/\dh (ab (xM i.g.W)))) (∃(o:Unit),(↑(zJy i.B i.g.W i.s):Int)=i_2.fst/\ae Mkt 5 yW i.g.m=ae Mkt 5 yW i_1.m/\dh (xM i.g.W)/\True)
def eM (a:Int) (b:GdI) (c:GdJ):=(uH (ak aj a) [dI b.s] (xM c.W))
def aZ (a:SbI):=(D.v (Value.string (sb (zS a.s a.b).fst.label)))
def aL (a:SbI):=(dI ((zS a.s a.b).fst.price))
def a8 (a:SbI):=(dI ((zS a.s a.b).fst.least))
def aX (a:SbI):=(dI ((zS a.s a.b).fst.time))
def aO (a:SbI):=(dI ((zS a.s a.b).fst.side))
def aC (a:SbI):=(dI ((zS a.s a.b).fst.kind))
def aM (a:SbI):=(dI ((zS a.s a.b).fst.inst))
def mJ (a:SbI):=(dI ((zS a.s a.b).fst.qty))
def mA (a:SbI):=(dI ((zS a.s a.b).fst.id))
def zVj (a:EnI) (b:SbI):Prop:=ac tRp 8 (av xQ a.X.R)=ac tRp 8 (av xQ a.X.R)/\dh (aa [V.d (aC b),V.d (mA b),V.d (aM b),V.d (aO b),V.d (aL b),V.d (mJ b),V.d (a8 b),V.d (aX b),V.d (aZ b)] 44)
def zVg (a:GdJ) (b:EnI) (c:SbI):Prop:=ac z5d 9 (av k0 a.O)=ac z5d 9 (av k0 a.O)/\zVj b c
def zTp (a:Int->Prop) (b:Int) (c:Int) (d:Int) (e:Int) (f:Int) (g:Int) (h:Int) (j:Int) (k:Int) (l:GdJ) (m:GdI) (n:EnI) (p:SbI):Prop:=a b/\dh (aa [V.d (dI c),V.d (dI d),V.d (dI e),V.d (dI f),V.d (dI g),V.d (dI h),V.d (dI j),V.d (dI k)] 65)/\dh (aa [V.nm 1 0,V.mp 2] (111:ao))/\dh (jA l.o)/\dh (ab (eM d m l))/\zVg l n p
def zVd (a:Int->Prop) (b:Int) (c:Int) (d:Int) (e:Int) (f:Int) (g:Int) (h:Int) (j:Int) (k:Int) (l:GdJ) (m:EnI) (n:SbI):Prop:=a b/\dh (aa [V.d (dI c),V.d (dI d),V.d (dI e),V.d (dI f),V.d (dI g),V.d (dI h),V.d (dI j),V.d (dI k)] 65)/\dh (aa [V.nm 1 0,V.mp 2] (111:ao))/\dh (jA l.o)/\dh (ab (xM l.W))/\zVg l m n
def zUm (a:GdJ) (b:GdJ) (c:Int) (d:Int) (e:Int) (f:Int) (g:Int) (h:Int) (j:Int) (k:Int) (l:Int) (m:GdJ->Prop) (n:GdJ->Nat) (p:EnI) (q:SbI):Prop:=av k0 a.O=av k0 b.O++[[dI c,dI d,dI e,dI f,dI g,dI h,dI j,dI k,dI l]]/\m a/\n a<n b/\zVj p q
def zLh (a:Bool->Prop) (b:Bool) (c:SbI) (d:GdI):Prop:=a b/\dh (aa [V.d (aC c),V.d (mA c),V.d (aM c),V.d (aO c),V.d (aL c),V.d (mJ c),V.d (a8 c),V.d (aX c),V.d (aZ c)] 44)/\dh (aa [V.nm 1 0,V.mp 2] (111:ao))/\dh (jA d.g.m)/\dh (ab (xM d.g.W))
def zTk (a:Bool->Prop) (b:SbI) (c:GdI):Prop:=∃(d:Bool),d=au/\zLh a d b c
def zEd (a:GdI) (b:GrI):Prop:=True/\∀(c:Unit),True->∃(d:Mkt),jA d=jA a.g.m/\xM a.X.W=xM a.g.W/\av k0 a.X.O=[k0 (b.s,Rep.mk 2 b.id 0 0 0 0 0 b.why)]/\d.Rep a.p a.X.B a.X.U
def zFt (a:SbI):=(ak aj (zS a.s a.b).fst.id)
def y0y (i:GdI):Prop:=
 ∃(a:SbI),a.s=i.s/\bE a.b=bE i.b/\a.b.length<=1099511627776/\∀(b:Unit),True->cnd ((zS a.s a.b).snd !=0) (∃(c:GrI),c.s=i.s/\c.id=0/\c.why=(zS a.s a.b).snd/\zEd i c) ((∀(c:ap×List D),c∈xM i.g.W->like (zFt a) c.fst=ar)/\∃(c:Bool),∃(d:Int),(kK (zFt a) (xM i.g.W)=ax [dI d]/\c=ar\/kK (zFt a) (xM i.g.W)=ay/\[dI d]=[dI 0]/\c=au)/\∃(e:Bool),∃(f:Bool->Prop),cnd ((zS a.s a.b).fst.kind==1) (∃(g:GtI),g.s=i.s/\jA g.g.m=jA i.g.m/\xM g.g.W=xM i.g.W/\(g.g.m.Rep g.p g.B g.U/\BOk g.p g.B)/\∀(h:Unit),True->∃(j:Bool),j=decide ((↑(zJy g.B g.g.W g.s):Int)>=64)/\f j/\dh (aa [V.d (aC a),V.d (mA a),V.d (aM a),V.d (aO a),V.d (aL a),V.d (mJ a),V.d (a8 a),V.d (aX a),V.d (aZ a)] 44)/\dh (aa [V.nm 1 0,V.mp 2] (111:ao))/\jA g.g.m=jA i.g.m/\ab (xM g.g.W)=ab (xM i.g.W)) (zTk f a i)/\∀(g:Bool),f g->cnd g (∃(h:GrI),h.s=i.s/\h.id=(zS a.s a.b).fst.id/\h.why=30/\zEd i h) (∃(h:Bool),∃(j:Bool->Prop),cnd ((zS a.s a.b).fst.kind !=1) (cnd (!c) (∃(k:Bool),k=ar/\zLh j k a i) (∃(k:Bool),k=(d !=i.s)/\zLh j k a i)) (zTk j a i)/\∀(k:Bool),j k->cnd k (∃(l:GrI),l.s=i.s/\l.id=(zS a.s a.b).fst.id/\l.why=26/\zEd i l) (∃(l:EnI),l.c.kind=(zS a.s a.b).fst.kind/\l.c.id=(zS a.s a.b).fst.id/\l.c.inst=(zS a.s a.b).fst.inst/\l.c.side=(zS a.s a.b).fst.side/\l.c.price=(zS a.s a.b).fst.price/\l.c.qty=(zS a.s a.b).fst.qty/\l.c.least=(zS a.s a.b).fst.least/\l.c.time=(zS a.s a.b).fst.time/\sb l.c.label=sb (zS a.s a.b).fst.label/\jA l.m=jA i.g.m/\((l.m.Rep l.p l.B l.U/\BOk l.p l.B)/\l.c.label.length<=140737488355328/\((-9223372036854775808)<=l.c.qty/\l.c.qty<=9223372036854775807)/\l.X=doF l.p l.B l.U l.c)/\∀(m:Mkt),m.Rep l.p l.X.B l.X.U->∃(n:GdJ),(↑n.k:Int)=0/\jA n.o=jA m/\xM n.W=xM i.g.W/\av k0 n.O=[]/\∃(p:GdJ->Prop),∃(q:GdJ->Nat),p n/\∀(r:GdJ),p r->cnd (decide ((↑r.k:Int)<(↑(av xQ l.X.R).length:Int))) ((0<=(↑r.k:Int)/\(↑r.k:Int)<(↑(av xQ l.X.R).length:Int))/\∃(s:Int),∃(t:Int),∃(u:Int),∃(v:Int),∃(w:Int),∃(x:Int),∃(y:Int),∃(z:Int),zE (av xQ l.X.R) (↑r.k:Int).toNat 0 8=ax [dI s,dI t,dI u,dI v,dI w,dI x,dI y,dI z]/\cnd (s==1) ((∀(a_1:ap×List D),a_1∈xM r.W->like (ak aj t) a_1.fst=ar)/\(∀(a_1:ap×List D),a_1∈uH (ak aj t) [dI i.s] (xM r.W)->like (ak aj t) a_1.fst=ar)/\∃(a_1:Bool),∃(a_2:Int),(kK (ak aj t) (eM t i r)=ax [dI a_2]/\a_1=ar\/kK (ak aj t) (eM t i r)=ay/\[dI a_2]=[dI 0]/\a_1=au)/\∃(a_3:Int),∃(a_4:Int->Prop),cnd (s==2) (∃(a_5:Int),a_5=i.s/\zTp a_4 a_5 s t u v w x y z r i l a) (∃(a_5:Int),a_5=a_2/\zTp a_4 a_5 s t u v w x y z r i l a)/\∀(a_5:Int),a_4 a_5->((av k0 r.O).length+1)*(72:Nat)<=(140737488355328:Nat)/\∃(a_6:GdJ),(↑a_6.k:Int)=aj.wrap ((↑r.k:Int)+1)/\jA a_6.o=jA r.o/\xM a_6.W=uH (ak aj t) [dI i.s] (xM r.W)/\zUm a_6 r a_5 s t u v w x y z p q l a) ((∀(a_1:ap×List D),a_1∈xM r.W->like (ak aj t) a_1.fst=ar)/\∃(a_1:Bool),∃(a_2:Int),(kK (ak aj t) (xM r.W)=ax [dI a_2]/\a_1=ar\/kK (ak aj t) (xM r.W)=ay/\[dI a_2]=[dI 0]/\a_1=au)/\∃(a_3:Int),∃(a_4:Int->Prop),cnd (s==2) (∃(a_5:Int),a_5=i.s/\zVd a_4 a_5 s t u v w x y z r l a) (∃(a_5:Int),a_5=a_2/\zVd a_4 a_5 s t u v w x y z r l a)/\∀(a_5:Int),a_4 a_5->((av k0 r.O).length+1)*(72:Nat)<=(140737488355328:Nat)/\∃(a_6:GdJ),(↑a_6.k:Int)=aj.wrap ((↑r.k:Int)+1)/\jA a_6.o=jA r.o/\xM a_6.W=xM r.W/\zUm a_6 r a_5 s t u v w x y z p q l a)) (∃(s:Mkt),jA s=jA r.o/\xM i.X.W=xM r.W/\av k0 i.X.O=av k0 r.O/\s.Rep i.p i.X.B i.X.U))))
def yTw {s:MSt} {p:Prd} {B:List (List zH)} (h:s.Rep p B):s.wh.length=zVh B:=by rw[zVh];exact h.wh.length_eq
def z2r:∀{B:List (List zH)} (n:Nat),(∀L∈B,L.length<=250)->(whL n B).length<=250*B.length
 |[],_,_=>y5x _
 |L::B,n,h=>by
  have:=z2r (B:=B) (n+1) λx hx=>h x (y5j _ hx)
  have:=h L y5h;rw[whL,y5a,y5c,y5g];omega
def yLz:midsC.ok Tryz.prog 136:=okw (V:=yZr) mixed (gokc yGr gok0) 0 (λ_=>[]) (λ_=>[]) [0] Tryz.func136 λ(i:MkB) h=>by
 obtain⟨⟨ep,hR,eu⟩,hB⟩:i.m.Rep i.p i.B i.U/\BOk i.p i.B:=h;have hl:i.m.s.wh.length<=1000000:=by
  have hwf:=hR.wf hB;have h1:=z2r (B:=i.B) 0 λL hL=>by
   obtain⟨k,hk⟩:=y7s.1 hL;exact(hwf.od k L hk).2.2
  have:=hB.bl;have:=xK i.p;rw[yTw hR,zVh];omega
 exact⟨i.m.s,rfl,hl,λo ho=>⟨o,rfl,rfl,rfl,rfl,rfl,rfl,rfl,rfl,rfl,rfl,rfl,rfl,by(repeat'(first|exact trivial|exact rfl|apply az)),rfl,ho.trans (hR.wh.map _)⟩⟩
def yMh:newGC.ok Tryz.prog 47:=okw (V:=y2l) mixed (gokc yMt gok0) 0 (λ_=>[]) (λ_=>[]) [] Tryz.func47 λ(p:Prd) h=>by
 refine⟨p,rfl,rfl,rfl,rfl,rfl,rfl,rfl,rfl,rfl,rfl,rfl,h,λ_ c=> .inl ⟨(),rfl,rfl,rfl,c⟩,λ_ c=>Cv.cnd.mk (λe=> .inr ⟨(),trivial,rfl,c⟩) (λe=>absurd (by simpa using e) c)⟩
def yOu:grejC.ok Tryz.prog 96:=okw (V:=yYj) mixed gok0 0 (λ_=>[]) (λ_=>[]) [] Tryz.func96 λ(i:GrI) h=>⟨(),rfl,trivial⟩
def zZy:greadC.ok Tryz.prog 95:=okw (V:=yTx) mixed (gokc yMj gok0) 0 (λ_=>[]) (λ_=>[]) [] Tryz.func95 λ(i:SbI) h=>by
 have h:i.b.length<=1099511627776:=h;have hbad:i.s<0\/8<=i.s->zS i.s i.b=(zTq,1):=λe=>y5d e
 refine zI (λe=> ?_) (λe=>zI (λe2=> ?_) (λe2=> ?_))
 ·rw[hbad (.inl e)];exact⟨(),rfl,rfl,rfl,rfl,rfl,rfl,rfl,rfl,rfl,rfl,trivial⟩
 ·rw[hbad (.inr e2)];exact⟨(),rfl,rfl,rfl,rfl,rfl,rfl,rfl,rfl,rfl,rfl,trivial⟩
 ·have hg:zS i.s i.b=xH i.b:=y5b (by omega);rw[hg];exact⟨i.b,rfl,h,λ_ _=>⟨(),rfl,rfl,rfl,rfl,rfl,rfl,rfl,rfl,rfl,rfl,trivial⟩⟩
def eV (id:Int) (W:List (Int×Int)):∀p∈xM W,like (ak aj id) p.1=ar:=by
 intro p hp;obtain⟨k,_,rfl⟩:=y6n.1 hp;rfl
def zYe (id s:Int):∀W:List (Int×Int),uH (ak aj id) [D.v (.int .i64 s)] (xM W)=xM (zXb W id s)
 |[]=>rfl
 |x::W=>by
  have ih:=zYe id s W;have e:bF (ak aj id) (ak aj x.1)=decide (id=x.1):=by simp[bF,keq]
  show(bif bF (ak aj id) (ak aj x.1)then(ak aj x.1,[D.v (.int .i64 s)])::xM W else(ak aj x.1,[D.v (.int .i64 x.2)])::uH (ak aj id) [D.v (.int .i64 s)] (xM W))=_;rw[e,ih,zXb];by_cases c:id=x.1
  ·rw[y5s c,cond_true,y5d c];rfl
  ·rw[y5q c,cond_false,y5b c];rfl
def zFl (id:Int):∀W:List (Int×Int),kK (ak aj id) (xM W)=ax [D.v (.int .i64 (fY W id).1)]/\(fY W id).2=ar\/kK (ak aj id) (xM W)=ay/\[D.v (.int .i64 (fY W id).1)]=[D.v (.int .i64 0)]/\(fY W id).2=au
 |[]=> .inr ⟨rfl,rfl,rfl⟩
 |x::W=>by
  have ih:=zFl id W;have e:bF (ak aj id) (ak aj x.1)=decide (id=x.1):=by simp[bF,keq]
  have e2:kK (ak aj id) (xM (x::W))=bif bF (ak aj id) (ak aj x.1)then ax [D.v (.int .i64 x.2)]else kK (ak aj id) (xM W):=rfl
  rw[e2,e,yGa];by_cases c:id=x.1
  ·rw[y5s c,cond_true,y5d c];exact .inl ⟨rfl,rfl⟩
  ·rw[y5q c,cond_false,y5b c];exact ih
def yTm {l:List Int} {k:Nat} {n:Int} {f:Int->Bool} (h:l[k]? =ax n):(l.take (k+1)).countP f=(l.take k).countP f+if f n then 1 else 0:=by
 rw[y6m,h,List.countP_append];simp[List.countP_cons]
def yEk (W:List (Int×Int)) (B:List (List zH)) (s:Int) (l:List Int) (h:l.Perm ((whL 0 B).map (·.1))):(zJy B W s:Int)=l.countP λx=>decide ((fY W x).1=s):=by
 rw[h.countP_eq,List.countP_map];rfl
def yCj {l:List Int} {W:List (Int×Int)} {s:Int} (hl:l.length<=1000000):∀{k:Nat} {n:Int},l[k]? =ax n->aj.wrap (((l.take k).countP λx=>decide ((fY W x).1=s):Nat)+1:Int)=((l.take k).countP λx=>decide ((fY W x).1=s):Nat)+1:=by
 intro k n h;have:=List.countP_le_length (p:=λx=>decide ((fY W x).1=s)) (l:=l.take k);rw[y5t]at this;exact w64 (by omega)
def yNu {p:Prd} {B:List (List zH)} (h:BWf p B) {l:List Int} (hl:l.Perm ((whL 0 B).map (·.1))):l.length<=1000000:=by
 have h1:=z2r (B:=B) 0 λL hL=>by
  obtain⟨k,hk⟩:=y7s.1 hL;exact(h.od k L hk).2.2
 have:=h.ok.bl;have:=xK p;have:=hl.length_eq;rw[y5c]at this;omega
def yVb (i:GtI) (h:gopenC.cnd i):yIp i:=by
 obtain⟨⟨m,W⟩,p,B,U,s⟩:=i;have h:m.Rep p B U/\BOk p B:=h;unfold yIp zDo dI;dsimp only;refine⟨⟨m,p,B,U⟩,rfl,h,λl hl=> ?_⟩;have hle:=yNu (h.1.s.wf h.2) hl;refine⟨(0,0),rfl,rfl,λj=>j.2<=l.length/\j.1=((l.take j.2).countP λx=>decide ((fY W x).1=s):Nat),λj=>l.length-j.2,⟨y6i _,rfl⟩,?_⟩;rintro⟨n,k⟩ ⟨j1,j2⟩;dsimp only at j1 j2 ⊢;subst j2;refine zI (λe=> ?_) (λe=> ?_)
 ·rw[yZ]at e;obtain⟨x,hx⟩:=yC (l:=l) (i:=k) (by omega);have hc:=yTm (f:=λx=>decide ((fY W x).1=s)) hx;refine⟨⟨by omega,by rw[yZ];exact e⟩,x,elA hx (by simp) rfl,eV _ _,_,_,zFl x W,Cv.cnd.mk (λe2=>⟨(_,k+1),(yCj hle hx).symm,wjn (by omega),⟨by dsimp only;omega,?_⟩,by dsimp only;omega,by(repeat'(first|exact trivial|exact rfl|apply az))⟩) (λe2=>⟨(_,k+1),rfl,wjn (by omega),⟨by dsimp only;omega,?_⟩,by dsimp only;omega,by(repeat'(first|exact trivial|exact rfl|apply az))⟩)⟩
  ·have e2:(fY W x).1=s:=by simpa using e2
   dsimp only;rw[hc,y5s e2];rfl
  ·have e2:¬(fY W x).1=s:=by simpa using e2
   dsimp only;rw[hc,y5q e2];rfl
 ·rw[yZ]at e;have hk:l.take k=l:=y5n (by omega);rw[hk];exact⟨(),yEk W B s l hl,rfl,rfl,trivial⟩
def yCk:gopenOC.ok Tryz.prog 97:=okw (V:=yNg) mixed (gokc yLz gok0) 0 (λ_=>[]) (λ_=>yUg) [] Tryz.func97 λ(i:GtI) h=>yVb i h
def yBm {b:List UInt8} (h:(xH b).2=0):(xH b).1.right=0:=by
 rw[xH]at h ⊢;dsimp only at h ⊢;split at h
 ·cases h
 ·rename_i h1;rw[y5b h1];split at h
  ·cases h
  ·rename_i h2;rw[y5b h2];split at h
   ·rename_i h3;exact absurd h h3
   ·rename_i h3;rw[y5b h3];simpa using h3
def zLs (n:Int):i64r (aj.wrap n):=by
 rw[IntKind.wrap];simp only[IntKind.bits,IntKind.signed];simp;omega
def z9j:i64r 0:=⟨by decide,by decide⟩
def ySv (k id:Int) (r:RB):i64r (xZ k id r).1.qty:=by
 rw[xZ];split
 ·exact zLs _
 split
 ·exact zLs _
 split
 ·exact zLs _
 ·exact z9j
def yNb (b:List UInt8):i64r (xH b).1.qty:=by
 rw[xH];dsimp only;split
 ·exact z9j
 split
 ·exact z9j
 split
 ·exact z9j
 ·exact ySv _ _ _
def yMl {p:Prd} {B:List (List zH)} (h:BWf p B) (U:List Int) (c:Cmd):(doF p B U c).R.length<=1503000003:=by
 have hbl:=h.ok.bl;have hrj:∀w,(m9 c w).length<=1503000003:=λw=>by simp[m9]
 rw[doF];split
 ·exact hrj _
 rename_i hr;have hr:c.right=0:=by simpa using hr
 split
 ·rename_i hk;obtain⟨_,hq,_⟩:=zQm hr hk;rw[nB];split
  ·exact hrj _
  rename_i hp;have hp:p.price c.inst c.price=0:=by simpa using hp
  have hin:=zNx hp;split
  ·exact hrj _
  split
  ·exact hrj _
  split
  ·exact hrj _
  split
  ·exact hrj _
  have:=zCv h U (c:=c) (by omega) hq;omega
 rename_i hk;split
 ·exact hrj _
 rename_i hf;have hf:(zQ B c.id).2.2=ar:=by simpa using hf
 have hf:zQ B c.id=((zQ B c.id).1,(zQ B c.id).2.1,ar):=by rw[<- hf]
 obtain⟨hin,_⟩:=zUz h hf;split
 ·rename_i h4;have hq:=zIf hr hk (by omega);rw[fZ];split
  ·exact hrj _
  split
  ·simp[bI]
  split
  ·exact hrj _
  have:=zCv (h.take c.id (zQ B c.id).2.1.qty) U (c:=⟨1,c.id,(zQ B c.id).1,(zQ B c.id).2.1.side,c.price,c.qty,0,1,[]⟩) (by dsimp only;rw[pB];exact hin) hq;dsimp only;rw[y5a];have e1:(uN B U c.id (zQ B c.id).1 (zQ B c.id).2.1).R.length=1:=rfl;have e2:(uN B U c.id (zQ B c.id).1 (zQ B c.id).2.1).B=(kI B c.id (zQ B c.id).2.1.qty).1:=rfl;rw[e1,e2];omega
 split
 ·simp[uN]
 ·simp[bI]
def yLf {b:List UInt8} (h:b.length<=1099511627776):(xH b).1.label.length<=255:=by
 have h0:(RB.mk b au).ok:=h;rw[xH];dsimp only;split
 ·exact y6i _
 split
 ·exact y6i _
 split
 ·exact y6i _
 ·exact(yPx (gB (m3 h0))).2
def zSk (p:Prd) (B:List (List zH)) (U:List Int) (W:List (Int×Int)) (s:Int) (b:List UInt8):lI p B U W s b=if(zS s b).2≠0 then yBw B U W s 0 (zS s b).2 else zXh p B U W s (zS s b).1:=by
 rw[lI,zS];by_cases c:s<0\/8<=s
 ·rw[y5d c,y5d c];rfl
 ·rw[y5b c,y5b c]
def yTz {s:Int} {b:List UInt8} (hb:b.length<=1099511627776) (h:(zS s b).2=0):(zS s b).1.right=0/\i64r (zS s b).1.qty/\(zS s b).1.label.length<=255:=by
 rw[zS]at h ⊢;split at h
 ·cases h
 ·rename_i c;rw[y5b c];exact⟨yBm h,yNb b,yLf hb⟩
def wjN {j:Nat} (h:(j:Int)<=9223372036854775806):((j+1:Nat):Int)=aj.wrap ((j:Int)+1):=by rw[w64 (by omega)];rfl
def y2t (i:GdI) (h:gdoC.cnd i):y0y i:=by
 obtain⟨⟨m,W⟩,p,B,U,s,b,X⟩:=i;obtain⟨hMB,hb,hX⟩:(m.Rep p B U/\BOk p B)/\b.length<=1099511627776/\X=lI p B U W s b:=h;rw[zSk]at hX;have hc:= @yTz s b hb;unfold y0y zTk zLh zUm zVd zTp zVg zVj mA mJ aM aC aO aX a8 aL zFt aZ eM zEd dI;dsimp only;generalize hrd:zS s b=y at hX hc;obtain⟨c,why⟩:=y;dsimp only at hX hc;refine⟨⟨s,b⟩,rfl,rfl,hb,λ_ _=> ?_⟩;dsimp only;rw[hrd];dsimp only;refine Cv.cnd.mk (λe=> ?_) (λe=>⟨eV _ _,_,_,zFl c.id W,ar,λx=>x=decide (c.kind=1/\64<=zJy B W s),Cv.cnd.mk (λe1=>⟨⟨⟨m,W⟩,p,B,U,s⟩,rfl,rfl,rfl,hMB,λ_ _=>⟨_,rfl,?_,by(repeat'(first|exact trivial|exact rfl|apply az))⟩⟩) (λe1=>⟨au,rfl,?_,by(repeat'(first|exact trivial|exact rfl|apply az))⟩),?_⟩)
 ·have e:why≠0:=by simpa using e
  rw[y5d e]at hX;subst hX;exact⟨⟨s,0,why⟩,rfl,rfl,rfl,trivial,λ_ _=>⟨m,rfl,rfl,rfl,hMB.1⟩⟩
 ·have e1:c.kind=1:=by simpa using e1
  dsimp only;rw[decide_eq_decide];exact⟨λx=>⟨e1,by omega⟩,λx=>by have:=x.2;omega⟩
 ·have e1:¬c.kind=1:=by simpa using e1
  exact(y5q λx=>e1 x.1).symm
 have e:why=0:=by simpa using e
 obtain⟨hr,hq,hlab⟩:=hc e;rw[y5b (by rw[e];decide),zXh]at hX;rintro _ rfl;refine zI (λe1=> ?_) (λe1=> ?_)
 ·rw[y5d e1]at hX;subst hX;exact⟨⟨s,c.id,30⟩,rfl,rfl,rfl,trivial,λ_ _=>⟨m,rfl,rfl,rfl,hMB.1⟩⟩
 rw[y5b e1]at hX;refine⟨ar,λx=>x=decide (c.kind≠1/\((fY W c.id).2=au\/(fY W c.id).1≠s)),Cv.cnd.mk (λe2=>Cv.cnd.mk (λe3=>⟨ar,rfl,?_,by(repeat'(first|exact trivial|exact rfl|apply az))⟩) (λe3=>⟨_,rfl,?_,by(repeat'(first|exact trivial|exact rfl|apply az))⟩)) (λe2=>⟨au,rfl,?_,by(repeat'(first|exact trivial|exact rfl|apply az))⟩),?_⟩
 ·have e2:¬c.kind=1:=by simpa using e2
  exact(y5s ⟨e2,.inl (by simpa using e3)⟩).symm
 ·have e2:¬c.kind=1:=by simpa using e2
  have e3:(fY W c.id).2=ar:=by simpa using e3
  show((fY W c.id).1 !=s)=decide (c.kind≠1/\((fY W c.id).2=au\/(fY W c.id).1≠s));rw[xBd,y6p,bne_iff_ne];exact⟨λx=>⟨e2,.inr x⟩,λx=>x.2.resolve_left (by rw[e3];decide)⟩
 ·have e2:c.kind=1:=by simpa using e2
  exact(y5q λx=>x.1 e2).symm
 rintro _ rfl;refine zI (λe2=> ?_) (λe2=> ?_)
 ·rw[y5d e2]at hX;subst hX;exact⟨⟨s,c.id,26⟩,rfl,rfl,rfl,trivial,λ_ _=>⟨m,rfl,rfl,rfl,hMB.1⟩⟩
 rw[y5b e2]at hX;have hlen:=yMl (hMB.1.s.wf hMB.2) U c;refine⟨⟨m,p,B,U,c,doF p B U c⟩,rfl,rfl,rfl,rfl,rfl,rfl,rfl,rfl,rfl,rfl,⟨hMB,y7w hlab (by decide),hq,rfl⟩,λo ho=> ?_⟩;dsimp only at ho ⊢;generalize doF p B U c=Y at hX ho hlen ⊢;obtain⟨YB,YU,R⟩:=Y;dsimp only at hX ho hlen ⊢;subst hX;have e4:(R.map xQ).length=R.length:=y5c ..;refine⟨⟨o,W,[],0⟩,rfl,rfl,rfl,rfl,λj=>j.o=o/\j.k<=R.length/\j.O.length=j.k/\(lJ s W R).1=(lJ s j.W (R.drop j.k)).1/\(lJ s W R).2=j.O++(lJ s j.W (R.drop j.k)).2,λj=>R.length-j.k,⟨rfl,y6i _,rfl,rfl,rfl⟩,?_⟩;rintro⟨o',W',O,k⟩ ⟨j1,j2,j3,j4,j5⟩;dsimp only at j1 j2 j3 j4 j5 ⊢;subst j1;have e5:(O.map k0).length=O.length:=y5c ..;refine zI (λe6=> ?_) (λe6=> ?_)
 ·obtain⟨r,hr'⟩:=yC (l:=R) (i:=k) (by omega);have hd:R.drop k=r::R.drop (k+1):=by rw[y7j (by omega),(y5f.1 hr').2]
  rw[hd,lJ]at j4 j5;dsimp only at j4 j5;refine⟨⟨by omega,e6⟩,r.kind,r.id,r.inst,r.side,r.price,r.qty,r.left,r.why,elA hr' (by simp[xQ]) rfl,Cv.cnd.mk (λe7=>⟨eV _ _,?_⟩) (λe7=>⟨eV _ _,_,_,zFl r.id W',?_⟩)⟩
  ·have e7:r.kind=1:=by simpa using e7
   rw[zYe];rw[y5d e7]at j4 j5;refine⟨eV _ _,_,_,zFl r.id (zXb W' r.id s),0,λx=>x=if r.kind=2 then s else(fY (zXb W' r.id s) r.id).1,Cv.cnd.mk (λe8=>⟨_,rfl,(y5d (by simpa using e8)).symm,by(repeat'(first|exact trivial|exact rfl|apply az))⟩) (λe8=>⟨_,rfl,(y5b (by simpa using e8)).symm,by(repeat'(first|exact trivial|exact rfl|apply az))⟩),?_⟩;rintro _ rfl;exact⟨by omega,⟨o',zXb W' r.id s,O++[(if r.kind=2 then s else(fY (zXb W' r.id s) r.id).1,r)],k+1⟩,wjN (by omega),rfl,rfl,by rw[y5l];rfl,⟨rfl,by dsimp only;omega,by rw[y5a];dsimp only;rw[j3];rfl,j4,by rw[j5];simp⟩,by dsimp only;omega,by(repeat'(first|exact trivial|exact rfl|apply az))⟩
  ·have e7:¬r.kind=1:=by simpa using e7
   rw[y5b e7]at j4 j5;refine⟨0,λx=>x=if r.kind=2 then s else(fY W' r.id).1,Cv.cnd.mk (λe8=>⟨_,rfl,(y5d (by simpa using e8)).symm,by(repeat'(first|exact trivial|exact rfl|apply az))⟩) (λe8=>⟨_,rfl,(y5b (by simpa using e8)).symm,by(repeat'(first|exact trivial|exact rfl|apply az))⟩),?_⟩;rintro _ rfl;exact⟨by omega,⟨o',W',O++[(if r.kind=2 then s else(fY W' r.id).1,r)],k+1⟩,wjN (by omega),rfl,rfl,by rw[y5l];rfl,⟨rfl,by dsimp only;omega,by rw[y5a];dsimp only;rw[j3];rfl,j4,by rw[j5];simp⟩,by dsimp only;omega,by(repeat'(first|exact trivial|exact rfl|apply az))⟩
 ·have hk:R.drop k=[]:=List.drop_of_length_le (by omega);rw[hk,lJ]at j4 j5;dsimp only at j4 j5;rw[y6a]at j5;rw[j4,j5];exact⟨o',rfl,rfl,rfl,ho⟩
def yKf:gdoC.ok Tryz.prog 41:=okw mixed (gokc zZy (gokc yOu (gokc yCk (gokc yZk gok0)))) 0 (λ_=>y3q) (λ_=>y3d) [0] Tryz.func41 y2t
def y4b {l:List Cmd} {k:Nat} {c:Cmd} (h:l[k]? =ax c):zE (l.map cmdE) k 0 9=ax [D.v (.int .i64 c.kind),.v (.int .i64 c.id),.v (.int .i64 c.inst),.v (.int .i64 c.side),.v (.int .i64 c.price),.v (.int .i64 c.qty),.v (.int .i64 c.least),.v (.int .i64 c.time),.v (.string (sb c.label))]:=elA h (by simp[cmdE]) rfl
def mk0 (p:Prd):Mkt:=⟨p,aV p,[]⟩
def yOs (p:Prd):(mk0 p).Rep p (List.replicate p.count []) []:=⟨rfl,z2d _,rfl⟩
structure z1c where
 seq:Int
 inst:Int
 side:Int
 price:Int
 qty:Int
 count:Int
 implied:Bool
 deriving DecidableEq
deriving instance DecidableEq for Lv
def yNs (s:Int) (L:List Lv):Prop:=L.Pairwise λa b=>btr s a.price b.price=ar
def vL (s:Int):Nat->List Lv->List Lv->List Lv
 |0,_,_=>[]
 |k+1,[],[]=>[]
 |k+1,x::X,[]=>⟨x.price,0,0⟩::vL s k X []
 |k+1,[],y::Y=>y::vL s k [] Y
 |k+1,x::X,y::Y=>if btr s x.price y.price=ar then⟨x.price,0,0⟩::vL s k X (y::Y)else if btr s y.price x.price=ar then y::vL s k (x::X) Y else(if x=y then[]else[y])++vL s k X Y
def yTl {s x y z:Int} (h:btr s x y=ar) (h2:btr s y z=ar):btr s x z=ar:=by
 rw[btr]at h h2 ⊢;split
 ·rename_i e;rw[y5d e]at h h2;have:=y6b h;have:=y6b h2;exact y5s (by omega)
 ·rename_i e;rw[y5b e]at h h2;have:=y6b h;have:=y6b h2;exact y5s (by omega)
def yNl {s x y:Int} (h:btr s x y=au) (hne:x≠y):btr s y x=ar:=by
 rw[btr]at h ⊢;split
 ·rename_i e;rw[y5d e]at h;have:=y9t h;exact y5s (by omega)
 ·rename_i e;rw[y5b e]at h;have:=y9t h;exact y5s (by omega)
def y4q (L:List Lv):Prop:=∀l∈L,1<=l.qty
def zSj {s:Int}:∀(k:Nat) (A:List Lv),vL s k A A=[]
 |0,_=>rfl
 |k+1,[]=>rfl
 |k+1,x::A=>by
  rw[vL];have:btr s x.price x.price=au:=by rw[btr];split<;>simp
  rw[y5b (by rw[this];decide),y5b (by rw[this];decide),y5d rfl,zSj k A];rfl
open Classical
def Lv.fit (x:Lv):Prop:=i64r x.price/\i64r x.qty/\i64r x.count
def Sd.fit (s:Sd):Prop:=(∀x∈s.levels,x.fit)/\s.imp.fit
def y0e (v:Vw):Prop:=∀b∈v,b.1.fit/\b.2.fit
structure VM where
 inst:Nat
 side:Int
 l:Lv
 imp:Bool
def lv0:Lv:=⟨0,0,0⟩
def yKc (a b:Sd):Bool:=decide (a.imp≠b.imp)||decide (a.has≠b.has)
def yAw (b:Sd):Lv:=if b.has=ar then b.imp else lv0
def j9 (n:Nat) (s:Int) (a b:Sd):List VM:=(vL s (a.levels.length+b.levels.length) a.levels b.levels).map (λl=>⟨n,s,l,au⟩)++if yKc a b=ar then[⟨n,s,yAw b,ar⟩]else[]
def z8f (n:Nat) (s:Int) (a:Sd):j9 n s a a=[]:=by
 rw[j9,zSj];simp[yKc]
def jX (n:Nat):Vw->Vw->List VM
 |a::A,b::B=>j9 n 1 a.1 b.1++j9 n 2 a.2 b.2++jX (n+1) A B
 |_,_=>[]
def z5z:∀(n:Nat) (A:Vw),jX n A A=[]
 |_,[]=>rfl
 |n,a::A=>by rw[jX,z8f,z8f,z5z];rfl
def z6k {s:Int}:∀{F:List zH},z0n s F->yNs s (grp F)
 |[],_=>List.Pairwise.nil
 |o::F,h=>by
  rw[z0n,y8w]at h;have ih:=z6k h.2;rw[grp];cases hg:grp F with
  |nil=>exact List.pairwise_singleton _ _
  |cons v vs=>
   rw[hg]at ih;dsimp only;have hv:=ih;rw[yNs,y8w]at hv;by_cases e:v.price=o.price
   ·rw[y5d e];exact y8w.2 ⟨λw hw=>hv.1 w hw,hv.2⟩
   ·rw[y5b e];obtain⟨o',r,e2,e3⟩:=zNf hg;have hb:btr s o.price v.price=ar:=by
     rw[<- e3];refine yNl (h.1 o' (by rw[e2];exact y5h)) (by rw[e3];exact e)
    refine y8w.2 ⟨λw hw=> ?_,ih⟩;rcases y5w.1 hw with rfl|hw
    ·exact hb
    ·exact yTl hb (hv.1 w hw)
def yLj {p:Prd} {B:List (List zH)} (h:BWf p B) {k:Nat} {L:List zH} (hL:B[k]? =ax L) {s:Int} (hs:s=1\/s=2):yNs s (hU L s)/\y4q (hU L s):=
 ⟨z6k (h.srt k L hL s hs),λl hl=>(z6p (λo ho=>(h.od k L hL).1 o (y7c.1 ho).1) hl).1⟩
def dB (l:List Quote) (b:Quote):Int×Int:=l.foldl (λa q=>if q.price=b.price then(if q.qty>a.1 then q.qty else a.1,a.2+1)else a) (b.qty,0)
def qH (l:List Quote) (s:Int):Lv×Bool:=if(zW l s).2 then(⟨(zW l s).1.price,(dB l (zW l s).1).1,(dB l (zW l s).1).2⟩,ar)else(⟨0,0,0⟩,au)
def showC:Con:=con1 BsI (λi=>[roV 6 (i.l.map zJ),zA i.s]) (λ_=>[]) (λi=>(i.s=1\/i.s=2)/\i.l.length<=1000000) (λi=> .tup [zA (qH i.l i.s).1.price,zA (qH i.l i.s).1.qty,zA (qH i.l i.s).1.count,yP (qH i.l i.s).2]) (λ_=>[])
def yWt (i:BsI):List SAnn:=[{ι:=Nat,slots:=λk=>[(8,.nm 0 0),(10,zA (dB (i.l.take k) (zW i.l i.s).1).1),(11,zA (dB (i.l.take k) (zW i.l i.s).1).2),(26,zA k)],rows:=λ_=>[.cells (zTz (zW i.l i.s).1).cl 172]}]
def zEn (p:Prd) (B:List (List zH)) (n:Nat) (s:Int):Sd:=⟨hU (B.getD n []) s,(qH (xX ⟨p,B.map qW,n⟩ s) s).1,(qH (xX ⟨p,B.map qW,n⟩ s) s).2⟩
def yX (p:Prd) (B:List (List zH)):Vw:=(List.range p.count).map λn=>(zEn p B n 1,zEn p B n 2)
structure LkI where
 s:MSt
 p:Prd
 B:List (List zH)
def y0d (i:LkI):List SAnn:=[
 {ι:=Nat,slots:=λj=>[(5,.nm 0 0),(6,.own 2),(27,zA j)],rows:=λj=>[.cells [.own 1] 71,.own 130 10 (((yX i.p i.B).take j).map yG),.fro 6 ((i.B.map qW).map z6)]},
 {ι:=Unit,slots:=λ_=>[],rows:=λ_=>[],un:=3}]
def xJ (m:z1c):List D:=[.v (.int .i64 m.seq),.v (.int .i64 m.inst),.v (.int .i64 m.side),.v (.int .i64 m.price),.v (.int .i64 m.qty),.v (.int .i64 m.count),.v (.bool m.implied)]
@[reducible] def zVe:Nat:=154
@[reducible] def yBd (l:List z1c):AObj:= .own zVe 7 (l.map xJ)
def wI (seq:Int):List VM->List z1c
 |[]=>[]
 |m::M=>⟨seq+1,m.inst,m.side,m.l.price,m.l.qty,m.l.count,m.imp⟩::wI (seq+1) M
structure Dfr where
 seq:Int
 out:List z1c
@[reducible] def DfO (d:Dfr):List AObj:=[.cells [zA d.seq,.own 1] 230,yBd d.out]
@[reducible] def DfP (d:Dfr):List AObj:=[.cells [zA d.seq,.own 2] 230,.gone,yBd d.out]
def Dfr.add (d:Dfr) (M:List VM):Dfr:=⟨d.seq+M.length,d.out++wI d.seq M⟩
@[reducible] def Dfr.ok (d:Dfr) (n:Nat):Prop:= -4611686018427387904<=d.seq/\d.seq+n<=4611686018427387904/\d.out.length+n<=1000000000
structure DtI where
 d:Dfr
 m:VM
def dtellC:Con:=con1 DtI (λi=>[.nm 0 0,zA i.m.inst,zA i.m.side,lvV i.m.l,yP i.m.imp]) (λi=>DfO i.d) (λi=>i.d.ok 1) (λ_=>mG) (λi=>DfP (i.d.add [i.m]))
structure DsI where
 d:Dfr
 n:Nat
 s:Int
 a:Sd
 b:Sd
def dsideC:Con:=con1 DsI (λi=>[.nm 0 0,zA i.n,zA i.s,sdV i.a,sdV i.b]) (λi=>DfO i.d) (λi=>i.d.ok (i.a.levels.length+i.b.levels.length+1)) (λ_=>mG) (λi=>DfP (i.d.add (j9 i.n i.s i.a i.b)))
structure DsJ where
 x:List Lv
 y:List Lv
 M:List VM
def yWh (i:DsI):List SAnn:=[{ι:=DsJ,slots:=λj=>[(0,.nm 0 0),(10,roV 3 (j.x.map lvE)),(11,roV 3 (j.y.map lvE))],rows:=λj=>DfO (i.d.add j.M)}]
def y2q:SAnn:={ι:=Dfr,slots:=λ_=>[(0,.nm 0 0)],rows:=λd=>DfO d,slots0:=λ_=>[(0,.nm 0 0)],rows0:=λd=>DfO d}
def lvT (t:Nat):SAnn:={ι:=Lv,slots:=λ_=>[(t,.nm 0 0)],rows:=λl=>[.cells [zA l.price,zA l.qty,zA l.count] 127],slots0:=λ_=>[(t,.nm 0 0)],rows0:=λl=>[.cells [zA l.price,zA l.qty,zA l.count] 127]}
def yUn:List (Nat×SAnn):=[(24,bj 41),(36,bj 73),(12,bj 29),(14,y2q),(48,bj 109),(58,lvT 12)]
structure DvI where
 v:Vw
 w:Vw
 seq:Int
def Vw.levs (v:Vw):Nat:=(v.map λb=>b.1.levels.length+b.2.levels.length).sum
def diffC:Con:=con1 DvI (λi=>[vwV i.v,vwV i.w,zA i.seq]) (λ_=>[]) (λi=>i.v.length=i.w.length/\(-4000000000000000000<=i.seq/\i.seq<=4000000000000000000)/\Vw.levs i.v<=100000000/\Vw.levs i.w<=100000000/\i.v.length<=1000000) (λ_=> .own 0) (λi=>[yBd (wI i.seq (jX 0 i.v i.w))])
def y2m (i:DvI):List SAnn:=[
 {ι:=Nat,slots:=λj=>[(7,.nm 0 0),(24,zA j)],rows:=λj=>DfO (Dfr.add ⟨i.seq,[]⟩ (jX 0 (i.v.take j) (i.w.take j)))},
 {ι:=Unit,slots:=λ_=>[],rows:=λ_=>[],un:=3}]
end Sx
