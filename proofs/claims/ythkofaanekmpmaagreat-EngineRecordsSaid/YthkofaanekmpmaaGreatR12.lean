/- Texts of ours. No condition. -/
import Derived.Maps.RangeRun
import Derived.Test.YthkofaanekmpmaaGreatR11
set_option linter.all false
open Sx.AObj renaming cells->aa,map->ab,own->ac,adt->ae,fro->af,objs->ag
open Go.IntKind renaming i64->aj
open Go.Value renaming int->ak
open Go renaming MapEntry->am,TypeId->ao,Value->ap,World->aq
open List renaming map->ar,map_singleton->au,length->av
open Bool renaming true->aw,false->ax
open Option renaming some->ay,none->az
open List.Perm renaming swap->ba,cons->bc
namespace Sx
set_option maxRecDepth 100000
open Go Cv Go.Proofs
def upd (f:Int->Int) (k v:Int):Int->Int:=λx=>if x=k then v else f x
def one (r:Rep) (m:Int):Int:=if r.kind=3/\r.inst=m then(if r.side=1 then r.qty else-r.qty)else 0
def vq (p:Prd) (k s q m:Int):Int:=
 if(p.legs k).2.2=aw then(if(p.legs k).1=m then(if s=1 then q else-q)else 0)-(if(p.legs k).2.1=m then(if s=1 then q else-q)else 0)
 else if k=m then(if s=1 then q else-q)else 0
def zRh {p:Prd} (hc:p.check=0):1<=p.count/\p.count<=21:=by
 have h1:=zGq hc;have h2:=(kE hc).m2;have h3:=xS p;omega
def yOf (c:Cmd):1<=v7 c/\v7 c<=4:=by
 have:=yQ (n:=c.kind) (lo:=0) (hi:=8) oM;rw[v7];split<;>omega
def yAr (t:TmI):(xH t).kind=v7 t.c:=by
 rw[xH];split<;>rfl
def yJp (t:TmI):1<=(xH t).qty/\(xH t).qty<=12:=by
 have:=yQ (n:=t.c.qty) (lo:=0) (hi:=11) oM;have e:(xH t).qty=1+zF t.c.qty 0 11:=by rw[xH];split<;>rfl
 omega
def zDf (t:TmI):(xH t).label=[]:=by
 rw[xH];split<;>rfl
def z0t (x:Prd) (c:Cmd) (i:Int) (hk:v7 c=1):let y:=xH ⟨kprod x,c,i⟩
 (0<=y.inst/\y.inst<(kprod x).count)/\(y.side=1\/y.side=2)/\(1<=y.time/\y.time<=3)/\(0<=y.least/\y.least<=y.qty)/\(-2000000<=y.price/\y.price<=2000000)/\(kprod x).price y.inst y.price=0:=by
 have hc:=mP x;have hcb:=zRh hc;have ht:=zEk x;have wi:=yQ (n:=c.inst) (lo:=0) (hi:=((kprod x).count:Int)-1) oM;have ws:=yQ (n:=c.side) (lo:=0) (hi:=1) oM;have wq:=yQ (n:=c.qty) (lo:=0) (hi:=11) oM;have wp:=yQ (n:=c.price) (lo:=0) (hi:=9) oM;have ww:=yQ (n:=x.wide) (lo:=0) (hi:=60) oM;have wl:=yQ (n:=c.least) (lo:=0) (hi:=1+zF c.qty 0 11) oM;have hm:=lA (a:=zR x) (b:=zF c.price 0 9) (m:=zR x) (n:=9) oM wp;have hw:=lA (a:=zR x) (b:=zF x.wide 0 60) (m:=zR x) (n:=60) oM ww;have hh:(y4 ⟨kprod x,c,i⟩).kind=1:=hk;have e:xH ⟨kprod x,c,i⟩={y4 ⟨kprod x,c,i⟩with id:=i+1,time:=fT c,least:=cD c (1+zF c.qty 0 11),price:=if((kprod x).legs (zF c.inst 0 ((kprod x).count-1))).2.2=aw then zR x*zF c.price 0 9-4*zR x else zR x*zF c.price 0 9+8*zR x}:=by
  rw[xH,y5g hh];rfl
 intro y;have ey:y=_:=e;rw[ey];have htm:1<=fT c/\fT c<=3:=by rw[fT];split;omega;split<;>omega
 have hle:0<=cD c (1+zF c.qty 0 11)/\cD c (1+zF c.qty 0 11)<=1+zF c.qty 0 11:=by rw[cD];split<;>omega
 refine⟨⟨wi.1,by show zF c.inst 0 ((kprod x).count-1)<_;omega⟩,by show 1+zF c.side 0 1=1\/1+zF c.side 0 1=2;omega,htm,hle,?_,?_⟩
 ·dsimp only;split<;>omega
 ·dsimp only;show(kprod x).price (zF c.inst 0 ((kprod x).count-1)) _=0;obtain⟨k,hk2⟩:∃k:Nat,zF c.inst 0 (((kprod x).count:Int)-1)=k:=⟨(zF c.inst 0 (((kprod x).count:Int)-1)).toNat,oM⟩
  rw[hk2]at wi ⊢;have hkc:k<(kprod x).count:=by omega
  have et:(kprod x).tick=zR x:=rfl;have el:(kprod x).low= -20*zR x:=rfl;have eh:(kprod x).high=100*zR x:=rfl;have ew:(kprod x).wide=zR x*(5+zF x.wide 0 60):=rfl;rw[Int.mul_add]at ew;rw[Prd.price,y5e (by omega),y5e (by omega),et,el,eh,ew];rcases g8 hc hkc with⟨h1,_⟩|⟨h1,h2⟩
  ·have hge:((kprod x).months.length:Int)<=k:=by
    rcases y7n k (kprod x).months.length with y|y
    ·rw[Prd.legs,y5e (by omega),y5g (by omega)]at h1;cases h1
    ·omega
   rw[y5g h1,y5g hge,y5g hge,y5e,y5e (by omega)];have:zR x*zF c.price 0 9-4*zR x=zR x*(zF c.price 0 9-4):=by rw[Int.mul_sub,y9o 4]
   rw[this,l6];decide
  ·have hlt:¬((kprod x).months.length:Int)<=k:=by omega
   rw[y5e (show ¬((kprod x).legs k).2.2=aw by rw[h1];decide),y5e hlt,y5e hlt,y5e,y5e (by omega)];have:zR x*zF c.price 0 9+8*zR x=zR x*(zF c.price 0 9+8):=by rw[Int.mul_add,y9o 8]
   rw[this,l6];decide
def zNc (x:Prd) (c:Cmd) (i:Int): -2000000<=(xH ⟨kprod x,c,i⟩).price/\(xH ⟨kprod x,c,i⟩).price<=2000000:=by
 have ht:=zEk x;have wp:=yQ (n:=c.price) (lo:=0) (hi:=9) oM;have hm:=lA (a:=zR x) (b:=zF c.price 0 9) (m:=zR x) (n:=9) oM wp;have et:(kprod x).tick=zR x:=rfl;by_cases h1:v7 c=1
 ·obtain⟨_,_,_,_,h,_⟩:=z0t x c i h1;exact h
 ·have hh:¬(y4 ⟨kprod x,c,i⟩).kind=1:=h1;have e:(xH ⟨kprod x,c,i⟩).price=if(y4 ⟨kprod x,c,i⟩).kind=4 then zR x*zF c.price 0 9+5*zR x else zR x*zF c.price 0 9:=by rw[xH,y5e hh];rfl
  rw[e];split<;>omega
def z3p (x:Prd) (c:Cmd) (i id:Int) (hid:1<=id/\id<=1099511627776):Cmd.right {xH ⟨kprod x,c,i⟩with id:=id}=0:=by
 have hk:=yOf c;have hq:=yJp ⟨kprod x,c,i⟩;have hp:=zNc x c i;have hcb:=zRh (mP x);rw[Cmd.right];dsimp only;rw[yAr];dsimp only;rw[y5e (by omega),y5e (by omega)];have q1:jD (xH ⟨kprod x,c,i⟩).qty=aw:=by rw[jD,y5v (by omega),y5v (by omega)];rfl
 have q2:vS (xH ⟨kprod x,c,i⟩).price=aw:=by rw[vS,y5v (by omega),y5v (by omega)];rfl
 by_cases h1:v7 c=1
 ·obtain⟨a1,a2,a3,a4,a5,a6⟩:=z0t x c i h1;rw[y5g h1,Cmd.orderE];dsimp only;rw[y5e (by omega),y5e (by omega),y5e (by rw[q1];decide),y5e (by omega),y5e (by rw[zDf];simp),y5e (by rw[q2];decide),y5e (by omega)]
 ·rw[y5e h1,y5e (by rw[q1];simp),y5e (by rw[q2];simp)]
def fX (W:List (Int×Int)) (id:Int):Int×Bool:=match W.find? λx=>decide (x.1=id)with
 |some x=>(x.2,aw)
 |none=>(0,ax)
def zZh:List (Int×Int)->Int->Int->List (Int×Int)
 |[],id,s=>[(id,s)]
 |x::W,id,s=>if id=x.1 then(x.1,s)::W else x::zZh W id s
def yJg (x:Int×Int) (W:List (Int×Int)) (id:Int):fX (x::W) id=if id=x.1 then(x.2,aw)else fX W id:=by
 rw[fX,xBh];by_cases c:id=x.1
 ·rw[y5g c,y5v c.symm]
 ·rw[y5e c,y5r (λe=>c e.symm)];rfl
structure GtX where
 B:List (List zI)
 U:List Int
 W:List (Int×Int)
 O:List (Int×Rep)
def yCz (B:List (List zI)) (U:List Int) (W:List (Int×Int)) (s id why:Int):GtX:=⟨B,U,W,[(s,⟨2,id,0,0,0,0,0,why⟩)]⟩
def nO (s:Int):List (Int×Int)->List Rep->List (Int×Int)×List (Int×Rep)
 |W,[]=>(W,[])
 |W,r::R=>
  let W1:=if r.kind=1 then zZh W r.id s else W
  ((nO s W1 R).1,(if r.kind=2 then s else(fX W1 r.id).1,r)::(nO s W1 R).2)
def zKh (B:List (List zI)) (W:List (Int×Int)) (s:Int):Nat:=(whL 0 B).countP λx=>decide ((fX W x.1).1=s)
def zTc (p:Prd) (B:List (List zI)) (U:List Int) (W:List (Int×Int)) (s:Int) (c:Cmd):GtX:=
 if c.kind=1/\64<=zKh B W s then yCz B U W s c.id 30
 else if c.kind≠1/\((fX W c.id).2=ax\/(fX W c.id).1≠s)then yCz B U W s c.id 26
 else⟨(doF p B U c).B,(doF p B U c).U,(nO s W (doF p B U c).R).1,(nO s W (doF p B U c).R).2⟩
def pA (p:Prd) (B:List (List zI)) (U:List Int) (W:List (Int×Int)) (s:Int) (b:List UInt8):GtX:=
 if s<0\/8<=s then yCz B U W s 0 1 else if(xN b).2≠0 then yCz B U W s 0 (xN b).2 else zTc p B U W s (xN b).1
def z7s (p:Prd) (x:j0) {r:Rep} (hr:r.kind=3):∀y∈m9 p x r,y.kind=3:=by
 intro y hy;rw[m9,y5z]at hy;rcases hy with rfl|hy
 ·exact hr
 ·split at hy
  ·rw[zFb]at hy;simp only[y5z,xAu,or_false]at hy;rcases hy with rfl|rfl<;>exact hr
  ·cases hy
def z1r (p:Prd) (c:Cmd):∀(l:List j0) (q:Int),∀y∈aP p c l q,y.kind=3
 |[],_,y,hy=>by cases hy
 |x::l,q,y,hy=>by
  rw[aP,y6j]at hy;rcases hy with hy|hy
  ·rw[mX,y6j]at hy;rcases hy with hy|hy
   ·obtain⟨f,_,hy⟩:=y7y.1 hy;exact z7s p x rfl y hy
   ·exact z7s p x rfl y hy
  ·exact z1r p c l _ y hy
def z0s (p:Prd) (B:List (List zI)) (U:List Int) (c:Cmd):(∀r∈(cU p B U c).R,r.kind=1->r.id=c.id)/\∃r l,(cU p B U c).R=r::l/\r.kind=1/\r.id=c.id:=by
 rw[zAh];dsimp only;refine⟨λr hr hk=> ?_,_,_,rfl,rfl,rfl⟩;rw[y6w,y5z,y6j]at hr;rcases hr with rfl|hr|hr
 ·rfl
 ·have:=z1r _ _ _ _ r hr;omega
 ·split at hr
  ·rw[y6r]at hr;subst hr;rfl
  ·cases hr
def z9o:∀{l m:List Nat},l.Nodup->(∀x∈l,x∈m)->l.length<=m.length
 |[],m,_,_=>y6l _
 |a::l,m,h,hs=>by
  rw[y7v]at h;have ha:=hs a y5k;have:=z9o (l:=l) (m:=m.erase a) h.2 λx hx=>(List.mem_erase_of_ne (λe=>h.1 (by rw[<- e];exact hx))).2 (hs x (y5m _ hx))
  rw[List.length_erase_of_mem ha]at this;have:=List.length_pos_of_mem ha;rw[y5j];omega
structure Handed (ents:List am) (seen:Array Nat) (dn:List am):Prop where
 sn:seen.toList=dn.map (·.born)
 nd:(dn.map (·.born)).Nodup
 sub:∀e∈dn,e∈ents
def Handed.push {ents:List am} {seen:Array Nat} {dn:List am} (h:Handed ents seen dn) {e:am} (he:e∈(leftOf ents.toArray seen).toList):Handed ents (seen.push e.born) (dn++[e]):=by
 simp only[leftOf,Array.toList_filter,y7f,y8r]at he;obtain⟨h1,h2⟩:=he;have h3:e.born∉dn.map (·.born):=by
  rw[<- h.sn];intro hm;have:seen.contains e.born=aw:=by
   rw[Array.contains_iff_mem];exact Array.mem_toList_iff.1 hm
  rw[this]at h2;cases h2
 refine⟨by rw[Array.toList_push,h.sn,y5o];rfl,?_,λx hx=> ?_⟩
 ·rw[y5o,au,y7o];exact⟨h.nd,by simp,λx hx y hy e=>by rw[y6r]at hy;subst hy;subst e;exact h3 hx⟩
 ·rcases y6j.1 hx with hx|hx
  ·exact h.sub x hx
  ·rw[y6r]at hx;subst hx;exact h1
def Handed.len {ents:List am} {seen:Array Nat} {dn:List am} (h:Handed ents seen dn):dn.length<=ents.length:=by
 have:=z9o (m:=ents.map (·.born)) h.nd λx hx=>by
  obtain⟨e,he,rfl⟩:=y6q.1 hx;exact y6i (f:=(·.born)) (h.sub e he)
 simpa using this
def Handed.all {ents:List am} {seen:Array Nat} {dn:List am} (h:Handed ents seen dn) (hn:(ents.map (·.born)).Nodup) (h0:(leftOf ents.toArray seen).size=0):dn.Perm ents:=by
 have inj:∀{l:List am},(l.map (·.born)).Nodup->∀x∈l,∀y∈l,x.born=y.born->x=y:=by
  intro l hl
  induction l with
  |nil=>intro x hx;cases hx
  |cons a l ih=>
   rw[y5t,y7v]at hl;intro x hx y hy e;rcases y5z.1 hx with e1|h1<;>rcases y5z.1 hy with e2|h2
   ·rw[e1,e2]
   ·refine absurd ?_ hl.1;rw[<- e1,e];exact y6i (f:=(·.born)) h2
   ·refine absurd ?_ hl.1;rw[<- e2,<- e];exact y6i (f:=(·.born)) h1
   ·exact ih hl.2 x h1 y h2 e
 have nd:∀{l:List am},(l.map (·.born)).Nodup->l.Nodup:=λhl=>List.Pairwise.imp (λhne e=>hne (by rw[e])) (List.pairwise_map.1 hl)
 refine(List.perm_ext_iff_of_nodup (nd h.nd) (nd hn)).2 λe=>⟨h.sub e,λhe=> ?_⟩
 have:seen.contains e.born=aw:=by
  cases hc:seen.contains e.born with
  |true=>rfl
  |false=>
   have hm:e∈(leftOf ents.toArray seen).toList:=by
    simp only[leftOf,Array.toList_filter,y7f];exact⟨he,by rw[hc];rfl⟩
   have:(leftOf ents.toArray seen).toList=[]:=y6f (by simpa using h0);rw[this]at hm;cases hm
 rw[Array.contains_iff_mem]at this;have:=Array.mem_toList_iff.2 this;rw[h.sn]at this;obtain⟨x,hx,e2⟩:=y6q.1 this;rw[<- inj hn x (h.sub x hx) e he e2];exact hx
def z4f (k:Ko) (LL:List HP) (ents:List am) (e:Ending) (w':aq):Prop:=∃(a:Option Addr) (n c:Nat) (xs:List ap) (dn:List am),e=.returned (.slice a n c)/\xs=dn.map (·.key)/\n=dn.length/\dn.Perm ents/\Hp k w' (slO 2 1 a n c xs::LL)
def yIu (k:Ko) (LL:List HP) (ents:List am) (r bm ck:Nat) (v:ap) (w1:aq):Prop:=∃(a:Option Addr) (n c:Nat) (xs:List ap) (seen:Array Nat) (c0:Nat) (dn:List am),v=.slice a n c/\xs=dn.map (·.key)/\n=dn.length/\ck<=c0/\Handed ents seen dn/\Hp k w1 (slO 2 1 a n c xs::pt r (.mapIter (ay bm) ck seen c0)::LL)
def yGk (ents:List am) (v:ap) (_:aq):Nat:=match v with| .slice _ n _=>ents.length-n|_=>0
def yAv {b bm ck:Nat} {ents:List am} {w:aq} {k:Ko} {LL:List HP} {l:List ap} {T:ao}
 (H:Hp k w LL) (hat:∀w',Hp k w' LL->w'.heap[b]? =ay (.cells l.toArray T)/\w'.heap[bm]? =ay (.map ents.toArray ck)) (hl:l[12]? =ay (.map (ay bm)))
 (hck:∀e∈ents,e.born<ck) (hn:(ents.map (·.born)).Nodup) (hk:∀e∈ents,∃n,e.key= .int .i64 n) (hsz:ents.length<=1000000):
 Calls Tryz.prog 188 #[.pointer (ay ⟨b,0,az⟩)] w (z4f k LL ents):=by
 refine calls_of_cwp (c:=Tryz.f188.body.getD .skip) (args:=[.pointer (ay ⟨b,0,az⟩)]) mixed Tryz.func188 (by kernel_rfl) [{ι:=ap,chg:=λv=>[(3,v)],fix:=[9]}] (by kernel_rfl) (by kernel_rfl) (by kernel_rfl) ?_;obtain⟨h1,h2⟩:=hat w H;have hu:Tryz.prog.underlying 168=ay (.map 2 3):=by kernel_rfl
 refine⟨ay bm,?_,ay ⟨w.heap.size,0,az⟩,w.alloc (.mapIter (ay bm) ck #[] ck),?_,?_⟩
 ·show mZ Tryz.prog 168 ⟨b,12,az⟩ w (.map (ay bm));exact wV (by kernel_rfl) h1 hl
 ·show(Instr.range 168 (.map (ay bm))).run Tryz.prog w=_;exact run_range_map w _ _ _ bm _ ck hu h2
 refine⟨yIu k LL ents w.heap.size bm ck,yGk ents,⟨.slice az 0 0,rfl,az,0,0,[],#[],ck,[],rfl,rfl,rfl,y6a _,⟨rfl,List.nodup_nil,λe he=>by cases he⟩,(H.new _).nil _ _⟩,?_⟩;rintro j v w1 ⟨a,n,c,xs,seen,c0,dn,rfl,hxs,hnl,hc0,hh,H1⟩;have hr:=H1.drop.get;obtain⟨-,g2⟩:=hat w1 H1.drop.drop;rcases run_next_at (P:=Tryz.prog) w1 0 w.heap.size bm ck c0 seen ents.toArray ck hr g2 (λx hx=>hck x (by simpa using hx)) hc0 with⟨e1,e2⟩|⟨e,he,w2,hw2,hrun⟩
 ·refine .inl ⟨w1,e2,?_⟩;show z4f k LL ents (.returned (.slice a n c)) w1;exact⟨a,n,c,xs,dn,rfl,hxs,hnl,hh.all hn e1,(H1.swap).drop⟩
 ·have hmem:e∈ents:=by
   have:=he;simp only[leftOf,Array.toList_filter,y7f]at this;exact this.1
  obtain⟨m,hm⟩:=hk e hmem;have hp:=hh.push he;have H2:Hp k (World.setB w2 w.heap.size (.mapIter (ay bm) ck (seen.push e.born) ck)) (slO 2 1 a n c xs::pt w.heap.size (.mapIter (ay bm) ck (seen.push e.born) ck)::LL):=by
   have H1':Hp k w2 (slO 2 1 a n c xs::pt w.heap.size (.mapIter (ay bm) ck seen c0)::LL):=by
    rcases hw2 with rfl|rfl
    ·exact H1
    ·exact H1.drew
   exact((H1'.swap).upd _).swap
  have hset:Go.ChangeMaps.setBlock w2 w.heap.size (.mapIter (ay bm) ck (seen.push e.born) ck)=World.setB w2 w.heap.size (.mapIter (ay bm) ck (seen.push e.born) ck):=rfl;rw[hset]at hrun;generalize hw3:World.setB w2 w.heap.size (.mapIter (ay bm) ck (seen.push e.born) ck)=w3 at H2 hrun;obtain⟨-,g3⟩:=hat w3 H2.drop.drop;have hent:=run_entry_at (P:=Tryz.prog) w3 w.heap.size bm ck seen ents.toArray ck e H2.drop.get g3 (by simpa using hmem) (by simpa using hn);refine .inr ⟨e.key,e.val,w3,hrun,.tuple #[e.key,e.val],hent,?_⟩;rw[hm];have hlen:=hp.len;rw[y5d,y7h]at hlen;refine Eq.mp (α:=z4x w3 (.cells #[.int .i64 m] 2) λbb w4=>∃(a':Option Addr) (n' c':Nat),∃w5,hJ Tryz.prog (Builtin.append_ #[23,23] 23 #[.slice a n c,.slice (ay ⟨bb,0,az⟩) 1 1]) w4 (.slice a' n' c') w5/\∃i',.slice a' n' c'=i'/\yIu k LL ents w.heap.size bm ck i' w5/\yGk ents i' w5<yGk ents (.slice a n c) w1) (by kernel_rfl) ?_;rintro bb w4 hb hw4;subst hb hw4;have H3:=(H2.new (.cells [ak .i64 m].toArray 2)).lit (sz:=1) (n:=1) rfl;obtain⟨a',c',w5,hap,H5⟩:=(H3.swap).append (P:=Tryz.prog) (t1:=23) (t2:=23) (rt:=23) (e:=2) (sz:=1) (by_:=8) (z:= #[.int .i64 0]) (by kernel_rfl) (by kernel_rfl) (x:= .slice (ay ⟨w3.heap.size,0,az⟩) 1 1) (m:=1) (ys:=[.int .i64 m]) (.inl ⟨_,_,rfl,H3.satR⟩) (by simp[Value.oneC]) rfl Z8 oM;refine⟨a',n+1,c',w5,hap,.slice a' (n+1) c',rfl,⟨a',n+1,c',_,_,ck,dn++[e],rfl,?_,?_,y6a _,hp,(H5.swap).drop⟩,?_⟩
  ·rw[hxs,y5o,au,hm]
  ·rw[y5d,hnl];rfl
  ·show ents.length-(n+1)<ents.length-n;omega
def z8s {F:PH}:∀{l:List (Int×Int)} {ents:List am},MR F (yO l) ents->ents.map (·.key)=l.map (λp=>ak .i64 p.1)
 |[],ents,h=>by
  have h:ents=[]:=h;subst h;rfl
 |p::l,ents,h=>by
  obtain⟨m,ms,rfl,h1,-,h3⟩:=h;rw[y5t,y5t,z8s (l:=l) h3,h1]
def z8c:ap->Int
 | .int _ n=>n
 |_=>0
def yAm {xs:List ap} {m:List Int} (h:xs.Perm (m.map λn=>ak .i64 n)):∃l:List Int,xs=l.map (λn=>ak .i64 n)/\l.Perm m:=by
 refine⟨xs.map z8c,?_,?_⟩
 ·rw[y7t];have:∀x∈xs,((λn=>ak .i64 n)∘z8c) x=x:=by
   intro x hx;obtain⟨n,_,rfl⟩:=y6q.1 (h.mem_iff.1 hx);rfl
  rw[y6o this,List.map_id']
 ·have:=h.map z8c;rw[y7t]at this;have e:(z8c∘λn=>ak .i64 n)=id:=rfl;rw[e,List.map_id]at this;exact this
def z6y (F:PH):∀l:List Int,DRL F (iE l).flatten (l.map λn=>ak .i64 n)
 |[]=>by simp[iE,DRL]
 |n::l=>by
  have ih:=z6y F l;have e:(iE (n::l)).flatten= .v (.int .i64 n)::(iE l).flatten:=rfl;rw[e,DRL];exact⟨.int .i64 n,_,rfl,by simp[DR,Value.oneC],ih⟩
def sids0C:Con where
 ι:=MSt
 pat:=λ_=>[.nm 0 0]
 pre:=λs=>[zD s]
 cnd:=λs=>s.wh.length<=1000000
 alts:=λs=>[{o:=List Int,res:=λ_=> .own 1,post:=λl=>[zD s,.own 2 1 (iE l)],rel:=λl=>l.Perm (s.wh.map (·.1))}]
@[reducible] def zKv (s:MSt):St:=zLl [0] ⟨u7 0 (sids0C.pre s),(sids0C.pre s).length⟩
def yOe (s:MSt) (l:List Int) (hl:l.Perm (s.wh.map (·.1))):yOv 1 (.own 5) ((zKv s).new (.own 2 1 (iE l))) (sids0C.alts s):=by
 refine Eq.mp (α:=∃(o:List Int),sb s.p.code=sb s.p.code/\s.p.tick=s.p.tick/\s.p.low=s.p.low/\s.p.high=s.p.high/\s.p.wide=s.p.wide/\s.p.rule=s.p.rule/\s.p.top=s.p.top/\s.p.least=s.p.least/\s.p.part=s.p.part/\ag 241 Book 6 zP s.books az=ag 241 Book 6 zP s.books az/\yO s.wh=yO s.wh/\af 1 (iE s.p.months)=af 1 (iE s.p.months)/\af 1 (iE s.p.settle)=af 1 (iE s.p.settle)/\iE o=iE l/\o.Perm (s.wh.map (·.1))) (by kernel_rfl) ?_
 exact⟨l,rF8 (rF6 hl)⟩
def yHu:sids0C.ok Tryz.prog 188:=by
 intro s hc k L E w ys R hv;have hc:s.wh.length<=1000000:=hc;have hnx:=R.nx;obtain⟨E1,hle,R1⟩:=zCq [0] R;have R1:Rel k L E1 (zKv s) w:=R1;have hc0:(zKv s).get 0=ay (.cells [sV s.p.code,.own 3,zA s.p.tick,zA s.p.low,zA s.p.high,zA s.p.wide,zA s.p.rule,zA s.p.top,zA s.p.least,zA s.p.part,.own 4,.own 1,.mp 2] 240):=rfl;have hc2:((zKv s).del 0).get 2=ay (.map (yO s.wh)):=rfl;have Ra:=(R1.take hc0).take hc2;have H0:Hp k w (rHP E1 (2,.map (yO s.wh))::rHP E1 (0,.cells [sV s.p.code,.own 3,zA s.p.tick,zA s.p.low,zA s.p.high,zA s.p.wide,zA s.p.rule,zA s.p.top,zA s.p.least,zA s.p.part,.own 4,.own 1,.mp 2] 240)::((((zKv s).del 0).del 2).rows.map (rHP E1)++fz E1.F::L)):=
  Ra.out.perm (.cons _ (((ba _ _ _).append_left _).trans y5u))
 generalize hrest:(((zKv s).del 0).del 2).rows.map (rHP E1)++fz E1.F::L=rest at H0;obtain⟨hk,hs,hh⟩:=H0;cases hh with
 |cons ha hsub hdj hr=>
 cases hr with
 |cons ha0 hsub0 hdj0 hr0=>
 rcases ha with⟨e,_⟩|⟨hd2,t2,r2⟩
 ·cases e
 rcases ha0 with⟨e,_⟩|⟨hd0,t0,r0⟩
 ·cases e
 simp only[rowHP]at r2 r0;obtain⟨bm,ents,ck,q1,q2,q3,rfl⟩:=r2;obtain⟨b,l,p1,p2,rfl⟩:=r0;have H:Hp k w (pt bm (.map ents.toArray ck)::pt b (.cells l.toArray 240)::rest):=⟨hk,_,.cons rfl hsub hdj (.cons rfl hsub0 hdj0 hr0)⟩
 have hl12:l[12]? =ay (.map (ay bm)):=by
  simp only[VRL,VR]at p2;obtain⟨_,_,rfl,-,_,_,rfl,-,_,_,rfl,-,_,_,rfl,-,_,_,rfl,-,_,_,rfl,-,_,_,rfl,-,_,_,rfl,-,_,_,rfl,-,_,_,rfl,-,_,_,rfl,-,_,_,rfl,-,y,_,rfl,⟨bb,sub,g1,rfl⟩,rfl⟩:=p2;rw[t2]at g1;cases g1;cases q1;rfl
 have hys:ys=[.pointer (ay ⟨b,0,az⟩)]:=by
  simp only[sids0C,VRL,VR]at hv;obtain⟨y,_,rfl,⟨b',oo,sub,g1,rfl⟩,rfl⟩:=hv;rw[hle.get g1]at t0;cases t0;cases p1;rfl
 subst hys;have hkeys:=z8s q2;have hlen:ents.length=s.wh.length:=by simpa using congrArg av hkeys
 have hcall:=yAv H (λw' H'=>⟨(H'.swap).get,H'.get⟩) hl12 q3.2 q3.1 (λe he=>by
  have:e.key∈ents.map (·.key):=y6i (f:=(·.key)) he
  rw[hkeys]at this;obtain⟨p,_,hp⟩:=y6q.1 this;exact⟨p.1,hp.symm⟩) oM
 have hdo:=mD (P:=Tryz.prog) (f:=188) (args:= #[.pointer (ay ⟨b,0,az⟩)]) (w:=w) (K:=λv w'=>z4f k (pt bm (.map ents.toArray ck)::pt b (.cells l.toArray 240)::rest) ents (.returned v) w') (by kernel_rfl) (hcall.mono λe w' h=>by
  have h2:=h;obtain⟨a,n,c,xs,dn,rfl,-⟩:=h2;exact⟨_,rfl,h⟩)
 refine hdo.mono ?_;rintro v w' ⟨a,n,c,xs,dn,hv',rfl,rfl,hperm,H2⟩;cases hv';obtain⟨li,e1,e2⟩:=yAm (xs:=dn.map (·.key)) (m:=s.wh.map (·.1)) (by
  have:=hperm.map (·.key)
  rw[hkeys]at this;rwa [y7t])
 have elen:dn.length=li.length:=by simpa using congrArg av e1
 rw[e1,elen]at H2;rw[elen];have H3:Hp k w' (slO 2 1 a li.length c (li.map λn=>ak .i64 n)::((zKv s).rows.map (rHP E1)++fz E1.F::L)):=by
  have h1:Hp k w' (rHP E1 (2,.map (yO s.wh))::rHP E1 (0,.cells [sV s.p.code,.own 3,zA s.p.tick,zA s.p.low,zA s.p.high,zA s.p.wide,zA s.p.rule,zA s.p.top,zA s.p.least,zA s.p.part,.own 4,.own 1,.mp 2] 240)::slO 2 1 a li.length c (li.map λn=>ak .i64 n)::rest):=by
   have g0:Hp k w' (pt bm (.map ents.toArray ck)::pt b (.cells l.toArray 240)::slO 2 1 a li.length c (li.map λn=>ak .i64 n)::rest):=
    H2.perm ((ba _ _ _).trans (.cons _ (.swap _ _ _)))
   have g1:=g0.imp (B:=rHP E1 (2,.map (yO s.wh))) λx hx=> .inr ⟨hd2,t2,by simp only[rowHP];exact⟨bm,ents,ck,q1,q2,q3,hx⟩⟩
   have g2:=(g1.swap).imp (B:=rHP E1 (0,.cells [sV s.p.code,.own 3,zA s.p.tick,zA s.p.low,zA s.p.high,zA s.p.wide,zA s.p.rule,zA s.p.top,zA s.p.least,zA s.p.part,.own 4,.own 1,.mp 2] 240)) λx hx=> .inr ⟨hd0,t0,by simp only[rowHP];exact⟨b,l,p1,p2,hx⟩⟩
   exact g2.swap
  subst hrest;refine h1.perm ?_;have p0:=((vD hc0).1.map (rHP E1))
  have p2:=((vD hc2).1.map (rHP E1))
  have p3:=(p0.trans (p2.cons _)).append_right (fz E1.F::L);refine List.Perm.trans ?_ (p3.symm.cons _);exact(ba _ _ _).trans ((bc _ (.swap _ _ _)).trans (.swap _ _ _))
 have hle2:E1.le ⟨E1.F,E1.tab++[((.slice a li.length c,[]):Hd)]⟩:=Ev.le.app _;have hget:(E1.tab++[((.slice a li.length c,[]):Hd)])[(zKv s).nx]? =ay (.slice a li.length c,[]):=by rw[<- R1.nx];simp
 have R2:Rel k L ⟨E1.F,E1.tab++[((.slice a li.length c,[]):Hd)]⟩ ((zKv s).new (.own 2 1 (iE li))) w':=by
  refine⟨by simp[St.new,R1.nx],?_⟩;have g1:Hp k w' ((zKv s).rows.map (rHP E1)++(slO 2 1 a li.length c (li.map λn=>ak .i64 n)::fz E1.F::L)):=H3.perm (y5u (l₁:=(zKv s).rows.map (rHP E1))).symm;have g2:=wB (λr x=>rHP.mono hle2 r) g1;have g3:Hp k w' (slO 2 1 a li.length c (li.map λn=>ak .i64 n)::((zKv s).rows.map (rHP ⟨E1.F,E1.tab++[((.slice a li.length c,[]):Hd)]⟩)++fz E1.F::L)):=g2.perm y5u;exact g3.imp λx hx=> .inr ⟨_,hget,by
   simp only[rowHP];exact⟨a,c,_,by rw[yZ],z6y _ li,λel hel=>by obtain⟨n,_,rfl⟩:=y6q.1 hel;rfl,by rw[yZ];exact hx⟩⟩
 obtain⟨al,ha,hend⟩:=zFg (yOe s li e2);obtain⟨o,o1,E3,o2,o3,o4⟩:=zWw hend hnx (hle.trans hle2) R2 (y:= .slice a li.length c) (by simp only[VR];exact⟨_,hget,_,_,_,rfl⟩);exact⟨al,ha,o,o1,E3,o2,o3,o4⟩
structure MkB where
 m:Mkt
 p:Prd
 B:List (List zI)
 U:List Int
@[reducible] def MkB.ok (i:MkB):Prop:=i.m.Rep i.p i.B i.U/\BOk i.p i.B
def midsC:Con where
 ι:=MkB
 pat:=λ_=>[.nm 0 0]
 pre:=λi=>[jR i.m]
 cnd:=λi=>i.ok
 alts:=λi=>[{o:=List Int,res:=λ_=> .own 1,post:=λl=>[jR i.m,.own 2 1 (iE l)],rel:=λl=>l.Perm ((whL 0 i.B).map (·.1))}]
structure Gt where
 m:Mkt
 W:List (Int×Int)
def xL (W:List (Int×Int)):List (ap×List D):=W.map λx=>(.int .i64 x.1,[.v (.int .i64 x.2)])
def GtU (g:Gt):Nat->AObj
 |0=> .cells [.nm 1 0,.mp 2] 170
 |1=>jR g.m
 |2=> .map (xL g.W)
 |_=> .gone
def GtR (g:Gt):AObj:= .adt Gt 3 GtU g
def qA (o:Int×Rep):List D:= .v (.int .i64 o.1)::xR o.2
@[reducible] def z3z:Nat:=87
@[reducible] def zWh (O:List (Int×Rep)):AObj:= .own z3z 9 (O.map qA)
def newGC:Con where
 ι:=Prd
 pat:=λp=>[prdV p]
 pre:=λ_=>[]
 cnd:=λp=>p.small
 alts:=λp=>[{o:=Unit,res:=λ_=> .tup [.nm 0 0,zA 0],post:=λ_=>[GtR ⟨⟨p,cV p,[]⟩,[]⟩],rel:=λ_=>p.check=0},{o:=Unit,res:=λ_=> .tup [.d (.v (.pointer az)),zA p.check],post:=λ_=>[],rel:=λ_=>p.check≠0}]
structure GrI where
 s:Int
 id:Int
 why:Int
def grejC:Con:=con1 GrI (λi=>[zA i.s,zA i.id,zA i.why]) (λ_=>[]) (λ_=>True) (λ_=> .own 0) (λi=>[zWh [(i.s,⟨2,i.id,0,0,0,0,0,i.why⟩)]])
structure SbI where
 s:Int
 b:List UInt8
def zS (s:Int) (b:List UInt8):Cmd×Int:=if s<0\/8<=s then(z1n,1)else xN b
def greadC:Con:=con1 SbI (λi=>[zA i.s,roV 1 (bE i.b)]) (λ_=>[]) (λi=>i.b.length<=1099511627776) (λi=> .tup [zGi (zS i.s i.b).1,zA (zS i.s i.b).2]) (λ_=>[])
structure GtI where
 g:Gt
 p:Prd
 B:List (List zI)
 U:List Int
 s:Int
@[reducible] def GtI.ok (i:GtI):Prop:=i.g.m.Rep i.p i.B i.U/\BOk i.p i.B
def gopenC:Con:=con1 GtI (λi=>[.nm 0 0,zA i.s]) (λi=>[GtR i.g]) (λi=>i.ok) (λi=>zA (zKh i.B i.g.W i.s)) (λi=>[GtR i.g])
def GtO (g:Gt):List AObj:=[.cells [.nm 1 0,.mp 2] 170,jR g.m,.map (xL g.W)]
def gopenOC:Con:=con1 GtI (λi=>[.nm 0 0,zA i.s]) (λi=>GtO i.g) (λi=>i.ok) (λi=>zA (zKh i.B i.g.W i.s)) (λi=>GtO i.g)
def ySz:List SAnn:=[{ι:=Int×Nat,slots:=λj=>[(5,zA j.1),(14,zA j.2)],rows:=λ_=>[]}]
structure GdI where
 g:Gt
 p:Prd
 B:List (List zI)
 U:List Int
 s:Int
 b:List UInt8
 X:GtX
def gdoC:Con where
 ι:=GdI
 pat:=λi=>[.nm 0 0,zA i.s,roV 1 (bE i.b)]
 pre:=λi=>[GtR i.g]
 cnd:=λi=>(i.g.m.Rep i.p i.B i.U/\BOk i.p i.B)/\i.b.length<=1099511627776/\i.X=pA i.p i.B i.U i.g.W i.s i.b
 alts:=λi=>[{o:=Mkt,res:=λ_=> .own 1,post:=λo=>[GtR ⟨o,i.X.W⟩,zWh i.X.O],rel:=λo=>o.Rep i.p i.X.B i.X.U}]
structure GdJ where
 o:Mkt
 W:List (Int×Int)
 O:List (Int×Rep)
 k:Nat
def GdJ.rows (j:GdJ):List AObj:=[.cells [.nm 1 0,.mp 2] 170,jR j.o,.map (xL j.W),zWh j.O]
def y4t:List SAnn:=[{ι:=GdJ,slots:=λj=>[(0,.nm 0 0),(11,.own 3),(74,zA j.k)],rows:=GdJ.rows}]
def y4m:List (Nat×SAnn):=[(20,bj 36),(28,bj 50),(66,ij 14)]
def y1r (i:MkB):Prop:=
 ∃(i_1:MSt),zD i_1=zD i.m.s/\i_1.wh.length<=1000000/\∀(o:List Int),o.Perm (ar (λ(x:Int×Int) ↦ x.fst) i_1.wh)->∃(o_1:List Int),dh (sb i.m.p.code)/\dh i.m.p.tick/\dh i.m.p.low/\dh i.m.p.high/\dh i.m.p.wide/\dh i.m.p.rule/\dh i.m.p.top/\dh i.m.p.least/\dh i.m.p.part/\zD i.m.s=zD i_1/\dh (zW i.m.used)/\dh (af 1 (iE i.m.p.months))/\dh (af 1 (iE i.m.p.settle))/\iE o_1=iE o/\o_1.Perm (ar (λ(x:Int×Int) ↦ x.fst) (whL 0 i.B))
def yZe (p:Prd):Prop:=
 ∃(i:Prd),sb i.code=sb p.code/\iE i.months=iE p.months/\i.tick=p.tick/\i.low=p.low/\i.high=p.high/\i.wide=p.wide/\i.rule=p.rule/\i.top=p.top/\i.least=p.least/\i.part=p.part/\iE i.settle=iE p.settle/\(i.code.length<=1099511627776/\i.months.length<=1099511627776/\i.settle.length<=1099511627776)/\(∀(o:Unit),i.check=0->(∃(o:Unit),dh ((0:Int))/\ae Mkt 5 yX (Mkt.mk p (cV p) [])=ae Mkt 5 yX (Mkt.mk i (cV i) [])/\xL []=[]/\p.check=0)\/∃(o:Unit),False)/\∀(o:Unit),i.check≠0->cnd (i.check !=0) ((∃(o:Unit),False)\/∃(o:Unit),True/\p.check=i.check/\(p.check=0->False)) ((∃(o:Unit),dh ((0:Int))/\False)\/∃(o:Unit),False)
def y0z (i:GrI):Prop:=
 ∃(o:Unit),[qA (i.s,Rep.mk 2 i.id 0 0 0 0 0 i.why)]=[[D.v (.int .i64 i.s),D.v (.int .i64 2),D.v (.int .i64 i.id),D.v (.int .i64 0),D.v (.int .i64 0),D.v (.int .i64 0),D.v (.int .i64 0),D.v (.int .i64 0),D.v (.int .i64 i.why)]]/\True
def yTo (i:SbI):Prop:=
 cnd (decide (i.s<0)) (∃(o:Unit),(zS i.s i.b).fst.kind=0/\(zS i.s i.b).fst.id=0/\(zS i.s i.b).fst.inst=0/\(zS i.s i.b).fst.side=0/\(zS i.s i.b).fst.price=0/\(zS i.s i.b).fst.qty=0/\(zS i.s i.b).fst.least=0/\(zS i.s i.b).fst.time=0/\sb (zS i.s i.b).fst.label=ByteArray.mk #[]/\(zS i.s i.b).snd=1/\True) (cnd (decide (i.s>=8)) (∃(o:Unit),(zS i.s i.b).fst.kind=0/\(zS i.s i.b).fst.id=0/\(zS i.s i.b).fst.inst=0/\(zS i.s i.b).fst.side=0/\(zS i.s i.b).fst.price=0/\(zS i.s i.b).fst.qty=0/\(zS i.s i.b).fst.least=0/\(zS i.s i.b).fst.time=0/\sb (zS i.s i.b).fst.label=ByteArray.mk #[]/\(zS i.s i.b).snd=1/\True) (∃(i_1:List UInt8),bE i_1=bE i.b/\i_1.length<=1099511627776/\∀(o:Unit),True->∃(o:Unit),(zS i.s i.b).fst.kind=(xN i_1).fst.kind/\(zS i.s i.b).fst.id=(xN i_1).fst.id/\(zS i.s i.b).fst.inst=(xN i_1).fst.inst/\(zS i.s i.b).fst.side=(xN i_1).fst.side/\(zS i.s i.b).fst.price=(xN i_1).fst.price/\(zS i.s i.b).fst.qty=(xN i_1).fst.qty/\(zS i.s i.b).fst.least=(xN i_1).fst.least/\(zS i.s i.b).fst.time=(xN i_1).fst.time/\sb (zS i.s i.b).fst.label=sb (xN i_1).fst.label/\(zS i.s i.b).snd=(xN i_1).snd/\True))
def zDv (a:Int×Nat) (b:Int×Nat) (c:Int×Nat->Prop) (d:Int×Nat->Nat) (e:MkB) (f:List Int) (g:GtI):Prop:=(↑a.snd:Int)=aj.wrap ((↑b.snd:Int)+1)/\c a/\d a<d b/\dh (jR e.m)/\dh (ac 2 1 (iE f))/\dh (aa [V.nm 1 0,V.mp 2] (170:ao))/\dh (ab (xL g.g.W))
def yFm (i:GtI):Prop:=
 ∃(a:MkB),jR a.m=jR i.g.m/\(a.m.Rep a.p a.B a.U/\BOk a.p a.B)/\∀(b:List Int),b.Perm (ar (λ(x:Int×Int) ↦ x.fst) (whL 0 a.B))->∃(c:Int×Nat),c.fst=0/\(↑c.snd:Int)=0/\∃(d:Int×Nat->Prop),∃(e:Int×Nat->Nat),d c/\∀(f:Int×Nat),d f->cnd (decide ((↑f.snd:Int)<(↑(iE b).length:Int))) ((0<=(↑f.snd:Int)/\(↑f.snd:Int)<(↑(iE b).length:Int))/\∃(g:Int),zE (iE b) (↑f.snd:Int).toNat 0 1=ay [dI g]/\(∀(h:ap×List D),h∈xL i.g.W->like (ak aj g) h.fst=aw)/\∃(h:Bool),∃(j:Int),(kK (ak aj g) (xL i.g.W)=ay [dI j]/\h=aw\/kK (ak aj g) (xL i.g.W)=az/\[dI j]=[dI 0]/\h=ax)/\cnd (j==i.s) (∃(k:Int×Nat),k.fst=aj.wrap (f.fst+1)/\zDv k f d e a b i) (∃(k:Int×Nat),k.fst=f.fst/\zDv k f d e a b i)) (∃(g:Unit),(↑(zKh i.B i.g.W i.s):Int)=f.fst/\jR i.g.m=jR a.m/\dh (xL i.g.W)/\True)
def yMg (i:GtI):Prop:=
 ∃(i_1:MkB),ae Mkt 5 yX i_1.m=jR i.g.m/\(i_1.m.Rep i_1.p i_1.B i_1.U/\BOk i_1.p i_1.B)/\∀(o:List Int),o.Perm (ar (λ(x:Int×Int) ↦ x.fst) (whL 0 i_1.B))->∃(i0:Int×Nat),i0.fst=0/\(↑i0.snd:Int)=0/\∃(I:Int×Nat->Prop),∃(μ:Int×Nat->Nat),I i0/\∀(i_2:Int×Nat),I i_2->cnd (decide ((↑i_2.snd:Int)<(↑(iE o).length:Int))) ((0<=(↑i_2.snd:Int)/\(↑i_2.snd:Int)<(↑(iE o).length:Int))/\∃(n:Int),zE (iE o) (↑i_2.snd:Int).toNat 0 1=ay [D.v (.int .i64 n)]/\(∀(p:ap×List D),p∈xL i.g.W->like (ak aj n) p.fst=aw)/\∃(b:Bool),∃(n_1:Int),(kK (ak aj n) (xL i.g.W)=ay [D.v (.int .i64 n_1)]/\b=aw\/kK (ak aj n) (xL i.g.W)=az/\[D.v (.int .i64 n_1)]=[D.v (.int .i64 0)]/\b=ax)/\cnd (n_1==i.s) (∃(i':Int×Nat),i'.fst=aj.wrap (i_2.fst+1)/\(↑i'.snd:Int)=aj.wrap ((↑i_2.snd:Int)+1)/\I i'/\μ i'<μ i_2/\dh (ae Mkt 5 yX i_1.m)/\dh (ac 2 1 (iE o))/\dh (aa [V.nm 1 0,V.mp 2] (170:ao))/\dh (ab (xL i.g.W))) (∃(i':Int×Nat),i'.fst=i_2.fst/\(↑i'.snd:Int)=aj.wrap ((↑i_2.snd:Int)+1)/\I i'/\μ i'<μ i_2/\dh (ae Mkt 5 yX i_1.m)/\dh (ac 2 1 (iE o))/\dh (aa [V.nm 1 0,V.mp 2] (170:ao))/\dh (ab (xL i.g.W)))) (∃(o:Unit),(↑(zKh i.B i.g.W i.s):Int)=i_2.fst/\ae Mkt 5 yX i.g.m=ae Mkt 5 yX i_1.m/\dh (xL i.g.W)/\True)
def lB (a:Int) (b:GdI) (c:GdJ):=(uH (ak aj a) [dI b.s] (xL c.W))
def mH (a:SbI):=(D.v (Value.string (sb (zS a.s a.b).fst.label)))
def aM (a:SbI):=(dI ((zS a.s a.b).fst.price))
def aK (a:SbI):=(dI ((zS a.s a.b).fst.least))
def aX (a:SbI):=(dI ((zS a.s a.b).fst.time))
def mE (a:SbI):=(dI ((zS a.s a.b).fst.side))
def aR (a:SbI):=(dI ((zS a.s a.b).fst.kind))
def aG (a:SbI):=(dI ((zS a.s a.b).fst.inst))
def aZ (a:SbI):=(dI ((zS a.s a.b).fst.qty))
def aJ (a:SbI):=(dI ((zS a.s a.b).fst.id))
def zVd (a:EnI) (b:SbI):Prop:=ac tRp 8 (ar xR a.X.R)=ac tRp 8 (ar xR a.X.R)/\dh (aa [V.d (aR b),V.d (aJ b),V.d (aG b),V.d (mE b),V.d (aM b),V.d (aZ b),V.d (aK b),V.d (aX b),V.d (mH b)] 80)
def zVo (a:GdJ) (b:EnI) (c:SbI):Prop:=ac z3z 9 (ar qA a.O)=ac z3z 9 (ar qA a.O)/\zVd b c
def zUr (a:Int->Prop) (b:Int) (c:Int) (d:Int) (e:Int) (f:Int) (g:Int) (h:Int) (j:Int) (k:Int) (l:GdJ) (m:GdI) (n:EnI) (p:SbI):Prop:=a b/\dh (aa [V.d (dI c),V.d (dI d),V.d (dI e),V.d (dI f),V.d (dI g),V.d (dI h),V.d (dI j),V.d (dI k)] 85)/\dh (aa [V.nm 1 0,V.mp 2] (170:ao))/\dh (jR l.o)/\dh (ab (lB d m l))/\zVo l n p
def zUa (a:Int->Prop) (b:Int) (c:Int) (d:Int) (e:Int) (f:Int) (g:Int) (h:Int) (j:Int) (k:Int) (l:GdJ) (m:EnI) (n:SbI):Prop:=a b/\dh (aa [V.d (dI c),V.d (dI d),V.d (dI e),V.d (dI f),V.d (dI g),V.d (dI h),V.d (dI j),V.d (dI k)] 85)/\dh (aa [V.nm 1 0,V.mp 2] (170:ao))/\dh (jR l.o)/\dh (ab (xL l.W))/\zVo l m n
def zWc (a:GdJ) (b:GdJ) (c:Int) (d:Int) (e:Int) (f:Int) (g:Int) (h:Int) (j:Int) (k:Int) (l:Int) (m:GdJ->Prop) (n:GdJ->Nat) (p:EnI) (q:SbI):Prop:=ar qA a.O=ar qA b.O++[[dI c,dI d,dI e,dI f,dI g,dI h,dI j,dI k,dI l]]/\m a/\n a<n b/\zVd p q
def zLm (a:Bool->Prop) (b:Bool) (c:SbI) (d:GdI):Prop:=a b/\dh (aa [V.d (aR c),V.d (aJ c),V.d (aG c),V.d (mE c),V.d (aM c),V.d (aZ c),V.d (aK c),V.d (aX c),V.d (mH c)] 80)/\dh (aa [V.nm 1 0,V.mp 2] (170:ao))/\dh (jR d.g.m)/\dh (ab (xL d.g.W))
def zWe (a:Bool->Prop) (b:SbI) (c:GdI):Prop:=∃(d:Bool),d=ax/\zLm a d b c
def zFo (a:GdI) (b:GrI):Prop:=True/\∀(c:Unit),True->∃(d:Mkt),jR d=jR a.g.m/\xL a.X.W=xL a.g.W/\ar qA a.X.O=[qA (b.s,Rep.mk 2 b.id 0 0 0 0 0 b.why)]/\d.Rep a.p a.X.B a.X.U
def zFn (a:SbI):=(ak aj (zS a.s a.b).fst.id)
def yZv (i:GdI):Prop:=
 ∃(a:SbI),a.s=i.s/\bE a.b=bE i.b/\a.b.length<=1099511627776/\∀(b:Unit),True->cnd ((zS a.s a.b).snd !=0) (∃(c:GrI),c.s=i.s/\c.id=0/\c.why=(zS a.s a.b).snd/\zFo i c) ((∀(c:ap×List D),c∈xL i.g.W->like (zFn a) c.fst=aw)/\∃(c:Bool),∃(d:Int),(kK (zFn a) (xL i.g.W)=ay [dI d]/\c=aw\/kK (zFn a) (xL i.g.W)=az/\[dI d]=[dI 0]/\c=ax)/\∃(e:Bool),∃(f:Bool->Prop),cnd ((zS a.s a.b).fst.kind==1) (∃(g:GtI),g.s=i.s/\jR g.g.m=jR i.g.m/\xL g.g.W=xL i.g.W/\(g.g.m.Rep g.p g.B g.U/\BOk g.p g.B)/\∀(h:Unit),True->∃(j:Bool),j=decide ((↑(zKh g.B g.g.W g.s):Int)>=64)/\f j/\dh (aa [V.d (aR a),V.d (aJ a),V.d (aG a),V.d (mE a),V.d (aM a),V.d (aZ a),V.d (aK a),V.d (aX a),V.d (mH a)] 80)/\dh (aa [V.nm 1 0,V.mp 2] (170:ao))/\jR g.g.m=jR i.g.m/\ab (xL g.g.W)=ab (xL i.g.W)) (zWe f a i)/\∀(g:Bool),f g->cnd g (∃(h:GrI),h.s=i.s/\h.id=(zS a.s a.b).fst.id/\h.why=30/\zFo i h) (∃(h:Bool),∃(j:Bool->Prop),cnd ((zS a.s a.b).fst.kind !=1) (cnd (!c) (∃(k:Bool),k=aw/\zLm j k a i) (∃(k:Bool),k=(d !=i.s)/\zLm j k a i)) (zWe j a i)/\∀(k:Bool),j k->cnd k (∃(l:GrI),l.s=i.s/\l.id=(zS a.s a.b).fst.id/\l.why=26/\zFo i l) (∃(l:EnI),l.c.kind=(zS a.s a.b).fst.kind/\l.c.id=(zS a.s a.b).fst.id/\l.c.inst=(zS a.s a.b).fst.inst/\l.c.side=(zS a.s a.b).fst.side/\l.c.price=(zS a.s a.b).fst.price/\l.c.qty=(zS a.s a.b).fst.qty/\l.c.least=(zS a.s a.b).fst.least/\l.c.time=(zS a.s a.b).fst.time/\sb l.c.label=sb (zS a.s a.b).fst.label/\jR l.m=jR i.g.m/\((l.m.Rep l.p l.B l.U/\BOk l.p l.B)/\l.c.label.length<=140737488355328/\((-9223372036854775808)<=l.c.qty/\l.c.qty<=9223372036854775807)/\l.X=doF l.p l.B l.U l.c)/\∀(m:Mkt),m.Rep l.p l.X.B l.X.U->∃(n:GdJ),(↑n.k:Int)=0/\jR n.o=jR m/\xL n.W=xL i.g.W/\ar qA n.O=[]/\∃(p:GdJ->Prop),∃(q:GdJ->Nat),p n/\∀(r:GdJ),p r->cnd (decide ((↑r.k:Int)<(↑(ar xR l.X.R).length:Int))) ((0<=(↑r.k:Int)/\(↑r.k:Int)<(↑(ar xR l.X.R).length:Int))/\∃(s:Int),∃(t:Int),∃(u:Int),∃(v:Int),∃(w:Int),∃(x:Int),∃(y:Int),∃(z:Int),zE (ar xR l.X.R) (↑r.k:Int).toNat 0 8=ay [dI s,dI t,dI u,dI v,dI w,dI x,dI y,dI z]/\cnd (s==1) ((∀(a_1:ap×List D),a_1∈xL r.W->like (ak aj t) a_1.fst=aw)/\(∀(a_1:ap×List D),a_1∈uH (ak aj t) [dI i.s] (xL r.W)->like (ak aj t) a_1.fst=aw)/\∃(a_1:Bool),∃(a_2:Int),(kK (ak aj t) (lB t i r)=ay [dI a_2]/\a_1=aw\/kK (ak aj t) (lB t i r)=az/\[dI a_2]=[dI 0]/\a_1=ax)/\∃(a_3:Int),∃(a_4:Int->Prop),cnd (s==2) (∃(a_5:Int),a_5=i.s/\zUr a_4 a_5 s t u v w x y z r i l a) (∃(a_5:Int),a_5=a_2/\zUr a_4 a_5 s t u v w x y z r i l a)/\∀(a_5:Int),a_4 a_5->((ar qA r.O).length+1)*(72:Nat)<=(140737488355328:Nat)/\∃(a_6:GdJ),(↑a_6.k:Int)=aj.wrap ((↑r.k:Int)+1)/\jR a_6.o=jR r.o/\xL a_6.W=uH (ak aj t) [dI i.s] (xL r.W)/\zWc a_6 r a_5 s t u v w x y z p q l a) ((∀(a_1:ap×List D),a_1∈xL r.W->like (ak aj t) a_1.fst=aw)/\∃(a_1:Bool),∃(a_2:Int),(kK (ak aj t) (xL r.W)=ay [dI a_2]/\a_1=aw\/kK (ak aj t) (xL r.W)=az/\[dI a_2]=[dI 0]/\a_1=ax)/\∃(a_3:Int),∃(a_4:Int->Prop),cnd (s==2) (∃(a_5:Int),a_5=i.s/\zUa a_4 a_5 s t u v w x y z r l a) (∃(a_5:Int),a_5=a_2/\zUa a_4 a_5 s t u v w x y z r l a)/\∀(a_5:Int),a_4 a_5->((ar qA r.O).length+1)*(72:Nat)<=(140737488355328:Nat)/\∃(a_6:GdJ),(↑a_6.k:Int)=aj.wrap ((↑r.k:Int)+1)/\jR a_6.o=jR r.o/\xL a_6.W=xL r.W/\zWc a_6 r a_5 s t u v w x y z p q l a)) (∃(s:Mkt),jR s=jR r.o/\xL i.X.W=xL r.W/\ar qA i.X.O=ar qA r.O/\s.Rep i.p i.X.B i.X.U))))
def yXl {s:MSt} {p:Prd} {B:List (List zI)} (h:s.Rep p B):s.wh.length=zVs B:=by rw[zVs];exact h.wh.length_eq
def z2s:∀{B:List (List zI)} (n:Nat),(∀L∈B,L.length<=250)->(whL n B).length<=250*B.length
 |[],_,_=>y6a _
 |L::B,n,h=>by
  have:=z2s (B:=B) (n+1) λx hx=>h x (y5m _ hx)
  have:=h L y5k;rw[whL,y5d,y5f,y5j];omega
def yNm:midsC.ok Tryz.prog 148:=okw (V:=y1r) mixed (gokc yHu gok0) 0 (λ_=>[]) (λ_=>[]) [0] Tryz.func148 λ(i:MkB) h=>by
 obtain⟨⟨ep,hR,eu⟩,hB⟩:i.m.Rep i.p i.B i.U/\BOk i.p i.B:=h;have hl:i.m.s.wh.length<=1000000:=by
  have hwf:=hR.wf hB;have h1:=z2s (B:=i.B) 0 λL hL=>by
   obtain⟨k,hk⟩:=y7w.1 hL;exact(hwf.od k L hk).2.2
  have:=hB.bl;have:=xS i.p;rw[yXl hR,zVs];omega
 exact⟨i.m.s,rfl,hl,λo ho=>⟨o,rF8 (rF3 ⟨rfl,k0q,rfl,ho.trans (hR.wh.map _)⟩)⟩⟩
def newG_ok:newGC.ok Tryz.prog 41:=okw (V:=yZe) mixed (gokc yNs gok0) 0 (λ_=>[]) (λ_=>[]) [] Tryz.func41 λ(p:Prd) h=>by
 refine⟨p,rF7 (rF3 ⟨rfl,h,λ_ c=> .inl ⟨(),rF3 c⟩,λ_ c=>Cv.cnd.mk (λe=> .inr ⟨(),trivial,rfl,c⟩) (λe=>absurd (by simpa using e) c)⟩)⟩
def yNg:grejC.ok Tryz.prog 100:=okw (V:=y0z) mixed gok0 0 (λ_=>[]) (λ_=>[]) [] Tryz.func100 λ(i:GrI) h=>⟨(),rfl,trivial⟩
def z1t:greadC.ok Tryz.prog 98:=okw (V:=yTo) mixed (gokc yMi gok0) 0 (λ_=>[]) (λ_=>[]) [] Tryz.func98 λ(i:SbI) h=>by
 have h:i.b.length<=1099511627776:=h;have hbad:i.s<0\/8<=i.s->zS i.s i.b=(z1n,1):=λe=>y5g e
 refine zH (λe=> ?_) (λe=>zH (λe2=> ?_) (λe2=> ?_))
 ·rw[hbad (.inl e)];exact⟨(),rF7 (rF3 trivial)⟩
 ·rw[hbad (.inr e2)];exact⟨(),rF7 (rF3 trivial)⟩
 ·have hg:zS i.s i.b=xN i.b:=y5e oM;rw[hg];exact⟨i.b,rfl,h,λ_ _=>⟨(),rF7 (rF3 trivial)⟩⟩
def lP (id:Int) (W:List (Int×Int)):∀p∈xL W,like (ak aj id) p.1=aw:=by
 intro p hp;obtain⟨k,_,rfl⟩:=y6q.1 hp;rfl
def zZy (id s:Int):∀W:List (Int×Int),uH (ak aj id) [D.v (.int .i64 s)] (xL W)=xL (zZh W id s)
 |[]=>rfl
 |x::W=>by
  have ih:=zZy id s W;have e:bG (ak aj id) (ak aj x.1)=decide (id=x.1):=by simp[bG,keq]
  show(bif bG (ak aj id) (ak aj x.1)then(ak aj x.1,[D.v (.int .i64 s)])::xL W else(ak aj x.1,[D.v (.int .i64 x.2)])::uH (ak aj id) [D.v (.int .i64 s)] (xL W))=_;rw[e,ih,zZh];by_cases c:id=x.1
  ·rw[y5v c,cond_true,y5g c];rfl
  ·rw[y5r c,cond_false,y5e c];rfl
def zFa (id:Int):∀W:List (Int×Int),kK (ak aj id) (xL W)=ay [D.v (.int .i64 (fX W id).1)]/\(fX W id).2=aw\/kK (ak aj id) (xL W)=az/\[D.v (.int .i64 (fX W id).1)]=[D.v (.int .i64 0)]/\(fX W id).2=ax
 |[]=> .inr ⟨rfl,rfl,rfl⟩
 |x::W=>by
  have ih:=zFa id W;have e:bG (ak aj id) (ak aj x.1)=decide (id=x.1):=by simp[bG,keq]
  have e2:kK (ak aj id) (xL (x::W))=bif bG (ak aj id) (ak aj x.1)then ay [D.v (.int .i64 x.2)]else kK (ak aj id) (xL W):=rfl
  rw[e2,e,yJg];by_cases c:id=x.1
  ·rw[y5v c,cond_true,y5g c];exact .inl ⟨rfl,rfl⟩
  ·rw[y5r c,cond_false,y5e c];exact ih
def yVm {l:List Int} {k:Nat} {n:Int} {f:Int->Bool} (h:l[k]? =ay n):(l.take (k+1)).countP f=(l.take k).countP f+if f n then 1 else 0:=by
 rw[y6n,h,List.countP_append];simp[List.countP_cons]
def yFo (W:List (Int×Int)) (B:List (List zI)) (s:Int) (l:List Int) (h:l.Perm ((whL 0 B).map (·.1))):(zKh B W s:Int)=l.countP λx=>decide ((fX W x).1=s):=by
 rw[h.countP_eq,List.countP_map];rfl
def yAq {l:List Int} {W:List (Int×Int)} {s:Int} (hl:l.length<=1000000):∀{k:Nat} {n:Int},l[k]? =ay n->aj.wrap (((l.take k).countP λx=>decide ((fX W x).1=s):Nat)+1:Int)=((l.take k).countP λx=>decide ((fX W x).1=s):Nat)+1:=by
 intro k n h;have:=List.countP_le_length (p:=λx=>decide ((fX W x).1=s)) (l:=l.take k);rw[y5w]at this;exact w64 oM
def yMo {p:Prd} {B:List (List zI)} (h:BWf p B) {l:List Int} (hl:l.Perm ((whL 0 B).map (·.1))):l.length<=1000000:=by
 have h1:=z2s (B:=B) 0 λL hL=>by
  obtain⟨k,hk⟩:=y7w.1 hL;exact(h.od k L hk).2.2
 have:=h.ok.bl;have:=xS p;have:=hl.length_eq;rw[y5f]at this;omega
def yVk (i:GtI) (h:gopenC.cnd i):yFm i:=by
 obtain⟨⟨m,W⟩,p,B,U,s⟩:=i;have h:m.Rep p B U/\BOk p B:=h;unfold yFm zDv dI;dsimp only;refine⟨⟨m,p,B,U⟩,rfl,h,λl hl=> ?_⟩;have hle:=yMo (h.1.s.wf h.2) hl;refine⟨(0,0),rfl,rfl,λj=>j.2<=l.length/\j.1=((l.take j.2).countP λx=>decide ((fX W x).1=s):Nat),λj=>l.length-j.2,⟨y6l _,rfl⟩,?_⟩;rintro⟨n,k⟩ ⟨j1,j2⟩;dsimp only at j1 j2 ⊢;subst j2;refine zH (λe=> ?_) (λe=> ?_)
 ·rw[yZ]at e;obtain⟨x,hx⟩:=yD (l:=l) (i:=k) oM;have hc:=yVm (f:=λx=>decide ((fX W x).1=s)) hx;refine⟨⟨oM,by rw[yZ];exact e⟩,x,elA hx (by simp) rfl,lP _ _,_,_,zFa x W,Cv.cnd.mk (λe2=>⟨(_,k+1),(yAq hle hx).symm,wjn oM,⟨Z9,?_⟩,Z9,k0q⟩) (λe2=>⟨(_,k+1),rfl,wjn oM,⟨Z9,?_⟩,Z9,k0q⟩)⟩
  ·have e2:(fX W x).1=s:=by simpa using e2
   dsimp only;rw[hc,y5v e2];rfl
  ·have e2:¬(fX W x).1=s:=by simpa using e2
   dsimp only;rw[hc,y5r e2];rfl
 ·rw[yZ]at e;have hk:l.take k=l:=y5q oM;rw[hk];exact⟨(),yFo W B s l hl,rfl,rfl,trivial⟩
def yCc:gopenOC.ok Tryz.prog 101:=okw (V:=yMg) mixed (gokc yNm gok0) 0 (λ_=>[]) (λ_=>ySz) [] Tryz.func101 λ(i:GtI) h=>yVk i h
def yAl {b:List UInt8} (h:(xN b).2=0):(xN b).1.right=0:=by
 rw[xN]at h ⊢;dsimp only at h ⊢;split at h
 ·cases h
 ·rename_i h1;rw[y5e h1];split at h
  ·cases h
  ·rename_i h2;rw[y5e h2];split at h
   ·rename_i h3;exact absurd h h3
   ·rename_i h3;rw[y5e h3];simpa using h3
def zPv (n:Int):yW (aj.wrap n):=by
 rw[IntKind.wrap];simp only[IntKind.bits,IntKind.signed];simp;omega
def z6c:yW 0:=⟨Z8,Z8⟩
def yVl (k id:Int) (r:RB):yW (qD k id r).1.qty:=by
 rw[qD];split
 ·exact zPv _
 split
 ·exact zPv _
 split
 ·exact zPv _
 ·exact z6c
def yMj (b:List UInt8):yW (xN b).1.qty:=by
 rw[xN];dsimp only;split
 ·exact z6c
 split
 ·exact z6c
 split
 ·exact z6c
 ·exact yVl _ _ _
def z5r {p:Prd} {B:List (List zI)} (h:BWf p B) (U:List Int) (c:Cmd):(doF p B U c).R.length<=1503000003:=by
 have hbl:=h.ok.bl;have hrj:∀w,(nF c w).length<=1503000003:=λw=>by simp[nF]
 rw[doF];split
 ·exact hrj _
 rename_i hr;have hr:c.right=0:=by simpa using hr
 split
 ·rename_i hk;obtain⟨_,hq,_⟩:=zTf hr hk;rw[nC];split
  ·exact hrj _
  rename_i hp;have hp:p.price c.inst c.price=0:=by simpa using hp
  have hin:=zOn hp;split
  ·exact hrj _
  split
  ·exact hrj _
  split
  ·exact hrj _
  split
  ·exact hrj _
  have:=zDm h U (c:=c) oM hq;omega
 rename_i hk;split
 ·exact hrj _
 rename_i hf;have hf:(zZ B c.id).2.2=aw:=by simpa using hf
 have hf:zZ B c.id=((zZ B c.id).1,(zZ B c.id).2.1,aw):=by rw[<- hf]
 obtain⟨hin,_⟩:=zUz h hf;split
 ·rename_i h4;have hq:=zJe hr hk oM;rw[fY];split
  ·exact hrj _
  split
  ·simp[bF]
  split
  ·exact hrj _
  have:=zDm (h.take c.id (zZ B c.id).2.1.qty) U (c:=⟨1,c.id,(zZ B c.id).1,(zZ B c.id).2.1.side,c.price,c.qty,0,1,[]⟩) (by dsimp only;rw[nY];exact hin) hq;dsimp only;rw[y5d];have e1:(uS B U c.id (zZ B c.id).1 (zZ B c.id).2.1).R.length=1:=rfl;have e2:(uS B U c.id (zZ B c.id).1 (zZ B c.id).2.1).B=(kH B c.id (zZ B c.id).2.1.qty).1:=rfl;rw[e1,e2];omega
 split
 ·simp[uS]
 ·simp[bF]
def yOj {b:List UInt8} (h:b.length<=1099511627776):(xN b).1.label.length<=255:=by
 have h0:(RB.mk b ax).ok:=h;rw[xN];dsimp only;split
 ·exact y6l _
 split
 ·exact y6l _
 split
 ·exact y6l _
 ·exact(yRd (gD (mQ h0))).2
def zTr (p:Prd) (B:List (List zI)) (U:List Int) (W:List (Int×Int)) (s:Int) (b:List UInt8):pA p B U W s b=if(zS s b).2≠0 then yCz B U W s 0 (zS s b).2 else zTc p B U W s (zS s b).1:=by
 rw[pA,zS];by_cases c:s<0\/8<=s
 ·rw[y5g c,y5g c];rfl
 ·rw[y5e c,y5e c]
def yYc {s:Int} {b:List UInt8} (hb:b.length<=1099511627776) (h:(zS s b).2=0):(zS s b).1.right=0/\yW (zS s b).1.qty/\(zS s b).1.label.length<=255:=by
 rw[zS]at h ⊢;split at h
 ·cases h
 ·rename_i c;rw[y5e c];exact⟨yAl h,yMj b,yOj hb⟩
def wjN {j:Nat} (h:(j:Int)<=9223372036854775806):((j+1:Nat):Int)=aj.wrap ((j:Int)+1):=by rw[w64 (by omega)];rfl
def y4o (i:GdI) (h:gdoC.cnd i):yZv i:=by
 obtain⟨⟨m,W⟩,p,B,U,s,b,X⟩:=i;obtain⟨hMB,hb,hX⟩:(m.Rep p B U/\BOk p B)/\b.length<=1099511627776/\X=pA p B U W s b:=h;rw[zTr]at hX;have hc:= @yYc s b hb;unfold yZv zWe zLm zWc zUa zUr zVo zVd aJ aZ aG aR mE aX aK aM zFn mH lB zFo dI;dsimp only;generalize hrd:zS s b=y at hX hc;obtain⟨c,why⟩:=y;dsimp only at hX hc;refine⟨⟨s,b⟩,rfl,rfl,hb,λ_ _=> ?_⟩;dsimp only;rw[hrd];dsimp only;refine Cv.cnd.mk (λe=> ?_) (λe=>⟨lP _ _,_,_,zFa c.id W,aw,λx=>x=decide (c.kind=1/\64<=zKh B W s),Cv.cnd.mk (λe1=>⟨⟨⟨m,W⟩,p,B,U,s⟩,rfl,rfl,rfl,hMB,λ_ _=>⟨_,rfl,?_,k0q⟩⟩) (λe1=>⟨ax,rfl,?_,k0q⟩),?_⟩)
 ·have e:why≠0:=by simpa using e
  rw[y5g e]at hX;subst hX;exact⟨⟨s,0,why⟩,rfl,rfl,rfl,trivial,λ_ _=>⟨m,rF3 hMB.1⟩⟩
 ·have e1:c.kind=1:=by simpa using e1
  dsimp only;rw[decide_eq_decide];exact⟨λx=>⟨e1,oM⟩,λx=>by have:=x.2;omega⟩
 ·have e1:¬c.kind=1:=by simpa using e1
  exact(y5r λx=>e1 x.1).symm
 have e:why=0:=by simpa using e
 obtain⟨hr,hq,hlab⟩:=hc e;rw[y5e (by rw[e];decide),zTc]at hX;rintro _ rfl;refine zH (λe1=> ?_) (λe1=> ?_)
 ·rw[y5g e1]at hX;subst hX;exact⟨⟨s,c.id,30⟩,rfl,rfl,rfl,trivial,λ_ _=>⟨m,rF3 hMB.1⟩⟩
 rw[y5e e1]at hX;refine⟨aw,λx=>x=decide (c.kind≠1/\((fX W c.id).2=ax\/(fX W c.id).1≠s)),Cv.cnd.mk (λe2=>Cv.cnd.mk (λe3=>⟨aw,rfl,?_,k0q⟩) (λe3=>⟨_,rfl,?_,k0q⟩)) (λe2=>⟨ax,rfl,?_,k0q⟩),?_⟩
 ·have e2:¬c.kind=1:=by simpa using e2
  exact(y5v ⟨e2,.inl (by simpa using e3)⟩).symm
 ·have e2:¬c.kind=1:=by simpa using e2
  have e3:(fX W c.id).2=aw:=by simpa using e3
  show((fX W c.id).1 !=s)=decide (c.kind≠1/\((fX W c.id).2=ax\/(fX W c.id).1≠s));rw[xBg,y6t,bne_iff_ne];exact⟨λx=>⟨e2,.inr x⟩,λx=>x.2.resolve_left (by rw[e3];decide)⟩
 ·have e2:c.kind=1:=by simpa using e2
  exact(y5r λx=>x.1 e2).symm
 rintro _ rfl;refine zH (λe2=> ?_) (λe2=> ?_)
 ·rw[y5g e2]at hX;subst hX;exact⟨⟨s,c.id,26⟩,rfl,rfl,rfl,trivial,λ_ _=>⟨m,rF3 hMB.1⟩⟩
 rw[y5e e2]at hX;have hlen:=z5r (hMB.1.s.wf hMB.2) U c;refine⟨⟨m,p,B,U,c,doF p B U c⟩,rF6 (rF3 ⟨rfl,⟨hMB,y8a hlab Z8,hq,rfl⟩,λo ho=> ?_⟩)⟩;dsimp only at ho ⊢;generalize doF p B U c=Y at hX ho hlen ⊢;obtain⟨YB,YU,R⟩:=Y;dsimp only at hX ho hlen ⊢;subst hX;have e4:(R.map xR).length=R.length:=y5f ..;refine⟨⟨o,W,[],0⟩,rF3 ⟨rfl,λj=>j.o=o/\j.k<=R.length/\j.O.length=j.k/\(nO s W R).1=(nO s j.W (R.drop j.k)).1/\(nO s W R).2=j.O++(nO s j.W (R.drop j.k)).2,λj=>R.length-j.k,⟨rfl,y6l _,rfl,rfl,rfl⟩,?_⟩⟩;rintro⟨o',W',O,k⟩ ⟨j1,j2,j3,j4,j5⟩;dsimp only at j1 j2 j3 j4 j5 ⊢;subst j1;have e5:(O.map qA).length=O.length:=y5f ..;refine zH (λe6=> ?_) (λe6=> ?_)
 ·obtain⟨r,hr'⟩:=yD (l:=R) (i:=k) oM;have hd:R.drop k=r::R.drop (k+1):=by rw[y7m (by omega),(y5i.1 hr').2]
  rw[hd,nO]at j4 j5;dsimp only at j4 j5;refine⟨⟨oM,e6⟩,r.kind,r.id,r.inst,r.side,r.price,r.qty,r.left,r.why,elA hr' (by simp[xR]) rfl,Cv.cnd.mk (λe7=>⟨lP _ _,?_⟩) (λe7=>⟨lP _ _,_,_,zFa r.id W',?_⟩)⟩
  ·have e7:r.kind=1:=by simpa using e7
   rw[zZy];rw[y5g e7]at j4 j5;refine⟨lP _ _,_,_,zFa r.id (zZh W' r.id s),0,λx=>x=if r.kind=2 then s else(fX (zZh W' r.id s) r.id).1,Cv.cnd.mk (λe8=>⟨_,rfl,(y5g (by simpa using e8)).symm,k0q⟩) (λe8=>⟨_,rfl,(y5e (by simpa using e8)).symm,k0q⟩),?_⟩;rintro _ rfl;exact⟨oM,⟨o',zZh W' r.id s,O++[(if r.kind=2 then s else(fX (zZh W' r.id s) r.id).1,r)],k+1⟩,wjN oM,rfl,rfl,by rw[y5o];rfl,⟨rfl,Z9,by rw[y5d];dsimp only;rw[j3];rfl,j4,by rw[j5];simp⟩,Z9,k0q⟩
  ·have e7:¬r.kind=1:=by simpa using e7
   rw[y5e e7]at j4 j5;refine⟨0,λx=>x=if r.kind=2 then s else(fX W' r.id).1,Cv.cnd.mk (λe8=>⟨_,rfl,(y5g (by simpa using e8)).symm,k0q⟩) (λe8=>⟨_,rfl,(y5e (by simpa using e8)).symm,k0q⟩),?_⟩;rintro _ rfl;exact⟨oM,⟨o',W',O++[(if r.kind=2 then s else(fX W' r.id).1,r)],k+1⟩,wjN oM,rfl,rfl,by rw[y5o];rfl,⟨rfl,Z9,by rw[y5d];dsimp only;rw[j3];rfl,j4,by rw[j5];simp⟩,Z9,k0q⟩
 ·have hk:R.drop k=[]:=List.drop_of_length_le oM;rw[hk,nO]at j4 j5;dsimp only at j4 j5;rw[y6b]at j5;rw[j4,j5];exact⟨o',rF3 ho⟩
def gdo_ok:gdoC.ok Tryz.prog 43:=okw mixed (gokc z1t (gokc yNg (gokc yCc (gokc yYq gok0)))) 0 (λ_=>y4m) (λ_=>y4t) [0] Tryz.func43 y4o
def mk0 (p:Prd):Mkt:=⟨p,cV p,[]⟩
def z5p (p:Prd):(mk0 p).Rep p (List.replicate p.count []) []:=⟨rfl,z4d _,rfl⟩
structure zQq where
 seq:Int
 inst:Int
 side:Int
 price:Int
 qty:Int
 count:Int
 implied:Bool
 deriving DecidableEq
deriving instance DecidableEq for Lv
def yLo (s:Int) (L:List Lv):Prop:=L.Pairwise λa b=>btr s a.price b.price=aw
def vL (s:Int):Nat->List Lv->List Lv->List Lv
 |0,_,_=>[]
 |k+1,[],[]=>[]
 |k+1,x::X,[]=>⟨x.price,0,0⟩::vL s k X []
 |k+1,[],y::Y=>y::vL s k [] Y
 |k+1,x::X,y::Y=>if btr s x.price y.price=aw then⟨x.price,0,0⟩::vL s k X (y::Y)else if btr s y.price x.price=aw then y::vL s k (x::X) Y else(if x=y then[]else[y])++vL s k X Y
def yUz {s x y z:Int} (h:btr s x y=aw) (h2:btr s y z=aw):btr s x z=aw:=by
 rw[btr]at h h2 ⊢;split
 ·rename_i e;rw[y5g e]at h h2;have:=y6d h;have:=y6d h2;exact y5v oM
 ·rename_i e;rw[y5e e]at h h2;have:=y6d h;have:=y6d h2;exact y5v oM
def yOo {s x y:Int} (h:btr s x y=ax) (hne:x≠y):btr s y x=aw:=by
 rw[btr]at h ⊢;split
 ·rename_i e;rw[y5g e]at h;have:=y9t h;exact y5v oM
 ·rename_i e;rw[y5e e]at h;have:=y9t h;exact y5v oM
def y4e (L:List Lv):Prop:=∀l∈L,1<=l.qty
def zSz {s:Int}:∀(k:Nat) (A:List Lv),vL s k A A=[]
 |0,_=>rfl
 |k+1,[]=>rfl
 |k+1,x::A=>by
  rw[vL];have:btr s x.price x.price=ax:=by rw[btr];split<;>simp
  rw[y5e (by rw[this];decide),y5e (by rw[this];decide),y5g rfl,zSz k A];rfl
open Classical
def Lv.fit (x:Lv):Prop:=yW x.price/\yW x.qty/\yW x.count
def Sd.fit (s:Sd):Prop:=(∀x∈s.levels,x.fit)/\s.imp.fit
def yZu (v:Vw):Prop:=∀b∈v,b.1.fit/\b.2.fit
structure VM where
 inst:Nat
 side:Int
 l:Lv
 imp:Bool
def lv0:Lv:=⟨0,0,0⟩
def yHg (a b:Sd):Bool:=decide (a.imp≠b.imp)||decide (a.has≠b.has)
def yCt (b:Sd):Lv:=if b.has=aw then b.imp else lv0
def j9 (n:Nat) (s:Int) (a b:Sd):List VM:=(vL s (a.levels.length+b.levels.length) a.levels b.levels).map (λl=>⟨n,s,l,ax⟩)++if yHg a b=aw then[⟨n,s,yCt b,aw⟩]else[]
def z7g (n:Nat) (s:Int) (a:Sd):j9 n s a a=[]:=by
 rw[j9,zSz];simp[yHg]
def jZ (n:Nat):Vw->Vw->List VM
 |a::A,b::B=>j9 n 1 a.1 b.1++j9 n 2 a.2 b.2++jZ (n+1) A B
 |_,_=>[]
def z7j:∀(n:Nat) (A:Vw),jZ n A A=[]
 |_,[]=>rfl
 |n,a::A=>by rw[jZ,z7g,z7g,z7j];rfl
def z6o {s:Int}:∀{F:List zI},z0e s F->yLo s (grp F)
 |[],_=>List.Pairwise.nil
 |o::F,h=>by
  rw[z0e,y8y]at h;have ih:=z6o h.2;rw[grp];cases hg:grp F with
  |nil=>exact List.pairwise_singleton _ _
  |cons v vs=>
   rw[hg]at ih;dsimp only;have hv:=ih;rw[yLo,y8y]at hv;by_cases e:v.price=o.price
   ·rw[y5g e];exact y8y.2 ⟨λw hw=>hv.1 w hw,hv.2⟩
   ·rw[y5e e];obtain⟨o',r,e2,e3⟩:=zNx hg;have hb:btr s o.price v.price=aw:=by
     rw[<- e3];refine yOo (h.1 o' (by rw[e2];exact y5k)) (by rw[e3];exact e)
    refine y8y.2 ⟨λw hw=> ?_,ih⟩;rcases y5z.1 hw with rfl|hw
    ·exact hb
    ·exact yUz hb (hv.1 w hw)
def yLf {p:Prd} {B:List (List zI)} (h:BWf p B) {k:Nat} {L:List zI} (hL:B[k]? =ay L) {s:Int} (hs:s=1\/s=2):yLo s (gA L s)/\y4e (gA L s):=
 ⟨z6o (h.srt k L hL s hs),λl hl=>(z9k (λo ho=>(h.od k L hL).1 o (y7f.1 ho).1) hl).1⟩
def f9 (l:List Quote) (b:Quote):Int×Int:=l.foldl (λa q=>if q.price=b.price then(if q.qty>a.1 then q.qty else a.1,a.2+1)else a) (b.qty,0)
def qJ (l:List Quote) (s:Int):Lv×Bool:=if(zU l s).2 then(⟨(zU l s).1.price,(f9 l (zU l s).1).1,(f9 l (zU l s).1).2⟩,aw)else(⟨0,0,0⟩,ax)
def showC:Con:=con1 BsI (λi=>[roV 6 (i.l.map zJ),zA i.s]) (λ_=>[]) (λi=>(i.s=1\/i.s=2)/\i.l.length<=1000000) (λi=> .tup [zA (qJ i.l i.s).1.price,zA (qJ i.l i.s).1.qty,zA (qJ i.l i.s).1.count,yR (qJ i.l i.s).2]) (λ_=>[])
def yTx (i:BsI):List SAnn:=[{ι:=Nat,slots:=λk=>[(8,.nm 0 0),(10,zA (f9 (i.l.take k) (zU i.l i.s).1).1),(11,zA (f9 (i.l.take k) (zU i.l i.s).1).2),(26,zA k)],rows:=λ_=>[.cells (zUp (zU i.l i.s).1).cl 259]}]
def zGd (p:Prd) (B:List (List zI)) (n:Nat) (s:Int):Sd:=⟨gA (B.getD n []) s,(qJ (xY ⟨p,B.map qZ,n⟩ s) s).1,(qJ (xY ⟨p,B.map qZ,n⟩ s) s).2⟩
def y6 (p:Prd) (B:List (List zI)):Vw:=(List.range p.count).map λn=>(zGd p B n 1,zGd p B n 2)
structure LkI where
 s:MSt
 p:Prd
 B:List (List zI)
def y2d (i:LkI):List SAnn:=[
 {ι:=Nat,slots:=λj=>[(5,.nm 0 0),(6,.own 2),(27,zA j)],rows:=λj=>[.cells [.own 1] 34,.own 44 10 (((y6 i.p i.B).take j).map yI),.fro 6 ((i.B.map qZ).map z5)]},
 {ι:=Unit,slots:=λ_=>[],rows:=λ_=>[],un:=3}]
def xG (m:zQq):List D:=[.v (.int .i64 m.seq),.v (.int .i64 m.inst),.v (.int .i64 m.side),.v (.int .i64 m.price),.v (.int .i64 m.qty),.v (.int .i64 m.count),.v (.bool m.implied)]
@[reducible] def zVa:Nat:=28
@[reducible] def z2e (l:List zQq):AObj:= .own zVa 7 (l.map xG)
def wZ (seq:Int):List VM->List zQq
 |[]=>[]
 |m::M=>⟨seq+1,m.inst,m.side,m.l.price,m.l.qty,m.l.count,m.imp⟩::wZ (seq+1) M
structure Dfr where
 seq:Int
 out:List zQq
@[reducible] def DfO (d:Dfr):List AObj:=[.cells [zA d.seq,.own 1] 120,z2e d.out]
@[reducible] def DfP (d:Dfr):List AObj:=[.cells [zA d.seq,.own 2] 120,.gone,z2e d.out]
def Dfr.add (d:Dfr) (M:List VM):Dfr:=⟨d.seq+M.length,d.out++wZ d.seq M⟩
@[reducible] def Dfr.ok (d:Dfr) (n:Nat):Prop:= -4611686018427387904<=d.seq/\d.seq+n<=4611686018427387904/\d.out.length+n<=1000000000
structure DtI where
 d:Dfr
 m:VM
def dtellC:Con:=con1 DtI (λi=>[.nm 0 0,zA i.m.inst,zA i.m.side,lvV i.m.l,yR i.m.imp]) (λi=>DfO i.d) (λi=>i.d.ok 1) (λ_=>mR) (λi=>DfP (i.d.add [i.m]))
structure DsI where
 d:Dfr
 n:Nat
 s:Int
 a:Sd
 b:Sd
def dsideC:Con:=con1 DsI (λi=>[.nm 0 0,zA i.n,zA i.s,sdV i.a,sdV i.b]) (λi=>DfO i.d) (λi=>i.d.ok (i.a.levels.length+i.b.levels.length+1)) (λ_=>mR) (λi=>DfP (i.d.add (j9 i.n i.s i.a i.b)))
structure DsJ where
 x:List Lv
 y:List Lv
 M:List VM
def ySp (i:DsI):List SAnn:=[{ι:=DsJ,slots:=λj=>[(0,.nm 0 0),(10,roV 3 (j.x.map lvE)),(11,roV 3 (j.y.map lvE))],rows:=λj=>DfO (i.d.add j.M)}]
def y4u:SAnn:={ι:=Dfr,slots:=λ_=>[(0,.nm 0 0)],rows:=λd=>DfO d,slots0:=λ_=>[(0,.nm 0 0)],rows0:=λd=>DfO d}
def lvT (t:Nat):SAnn:={ι:=Lv,slots:=λ_=>[(t,.nm 0 0)],rows:=λl=>[.cells [zA l.price,zA l.qty,zA l.count] 41],slots0:=λ_=>[(t,.nm 0 0)],rows0:=λl=>[.cells [zA l.price,zA l.qty,zA l.count] 41]}
def yUf:List (Nat×SAnn):=[(24,bj 41),(36,bj 73),(12,bj 29),(14,y4u),(48,bj 109),(58,lvT 12)]
structure DvI where
 v:Vw
 w:Vw
 seq:Int
def Vw.levs (v:Vw):Nat:=(v.map λb=>b.1.levels.length+b.2.levels.length).sum
def diffC:Con:=con1 DvI (λi=>[vwV i.v,vwV i.w,zA i.seq]) (λ_=>[]) (λi=>i.v.length=i.w.length/\(-4000000000000000000<=i.seq/\i.seq<=4000000000000000000)/\Vw.levs i.v<=100000000/\Vw.levs i.w<=100000000/\i.v.length<=1000000) (λ_=> .own 0) (λi=>[z2e (wZ i.seq (jZ 0 i.v i.w))])
def yZc (i:DvI):List SAnn:=[
 {ι:=Nat,slots:=λj=>[(7,.nm 0 0),(24,zA j)],rows:=λj=>DfO (Dfr.add ⟨i.seq,[]⟩ (jZ 0 (i.v.take j) (i.w.take j)))},
 {ι:=Unit,slots:=λ_=>[],rows:=λ_=>[],un:=3}]
end Sx
