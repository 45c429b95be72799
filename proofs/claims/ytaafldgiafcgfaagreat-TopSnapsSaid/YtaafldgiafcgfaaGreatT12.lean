/- Texts of ours. No condition. -/
import Derived.Maps.RangeRun
import Derived.Test.YtaafldgiafcgfaaGreatT11
set_option linter.all false
open Sx.AObj renaming cells->aa,map->ab,fro->ac,adt->ae,own->af,objs->ag
open Go.IntKind renaming i64->aj
open Go.Value renaming int->ak
open Go renaming MapEntry->am,Value->ao,TypeId->ap,World->aq
open Bool renaming false->ar,true->au
open List renaming map->av,map_singleton->aw,drop_length->ax,length->ay
open Option renaming some->az,none->ba
open List.Perm renaming swap->bc,cons->be
namespace Sx
set_option maxRecDepth 100000
open Go Cv Go.Proofs
def upd (f:Int->Int) (k v:Int):Int->Int:=λx=>if x=k then v else f x
def one (r:Rep) (m:Int):Int:=if r.kind=3/\r.inst=m then(if r.side=1 then r.qty else-r.qty)else 0
def vq (p:Prd) (k s q m:Int):Int:=
 if(p.legs k).2.2=au then(if(p.legs k).1=m then(if s=1 then q else-q)else 0)-(if(p.legs k).2.1=m then(if s=1 then q else-q)else 0)
 else if k=m then(if s=1 then q else-q)else 0
def zTi {p:Prd} (hc:p.check=0):1<=p.count/\p.count<=21:=by
 have h1:=zEx hc;have h2:=(kK hc).m2;have h3:=xJ p;omega
def yNy (c:Cmd):1<=uF c/\uF c<=4:=by
 have:=yV (n:=c.kind) (lo:=0) (hi:=8) oM;rw[uF];split<;>omega
def yCk (t:TmI):(xE t).kind=uF t.c:=by
 rw[xE];split<;>rfl
def yJw (t:TmI):1<=(xE t).qty/\(xE t).qty<=12:=by
 have:=yV (n:=t.c.qty) (lo:=0) (hi:=11) oM;have e:(xE t).qty=1+zG t.c.qty 0 11:=by rw[xE];split<;>rfl
 omega
def zCs (t:TmI):(xE t).label=[]:=by
 rw[xE];split<;>rfl
def z2d (x:Prd) (c:Cmd) (i:Int) (hk:uF c=1):let y:=xE ⟨kprod x,c,i⟩
 (0<=y.inst/\y.inst<(kprod x).count)/\(y.side=1\/y.side=2)/\(1<=y.time/\y.time<=3)/\(0<=y.least/\y.least<=y.qty)/\(-2000000<=y.price/\y.price<=2000000)/\(kprod x).price y.inst y.price=0:=by
 have hc:=m4 x;have hcb:=zTi hc;have ht:=zGe x;have wi:=yV (n:=c.inst) (lo:=0) (hi:=((kprod x).count:Int)-1) oM;have ws:=yV (n:=c.side) (lo:=0) (hi:=1) oM;have wq:=yV (n:=c.qty) (lo:=0) (hi:=11) oM;have wp:=yV (n:=c.price) (lo:=0) (hi:=9) oM;have ww:=yV (n:=x.wide) (lo:=0) (hi:=60) oM;have wl:=yV (n:=c.least) (lo:=0) (hi:=1+zG c.qty 0 11) oM;have hm:=lQ (a:=zV x) (b:=zG c.price 0 9) (m:=zV x) (n:=9) oM wp;have hw:=lQ (a:=zV x) (b:=zG x.wide 0 60) (m:=zV x) (n:=60) oM ww;have hh:(y4 ⟨kprod x,c,i⟩).kind=1:=hk;have e:xE ⟨kprod x,c,i⟩={y4 ⟨kprod x,c,i⟩with id:=i+1,time:=f8 c,least:=cU c (1+zG c.qty 0 11),price:=if((kprod x).legs (zG c.inst 0 ((kprod x).count-1))).2.2=au then zV x*zG c.price 0 9-4*zV x else zV x*zG c.price 0 9+8*zV x}:=by
  rw[xE,y8c hh];rfl
 intro y;have ey:y=_:=e;rw[ey];have htm:1<=f8 c/\f8 c<=3:=by rw[f8];split;omega;split<;>omega
 have hle:0<=cU c (1+zG c.qty 0 11)/\cU c (1+zG c.qty 0 11)<=1+zG c.qty 0 11:=by rw[cU];split<;>omega
 refine⟨⟨wi.1,by show zG c.inst 0 ((kprod x).count-1)<_;omega⟩,by show 1+zG c.side 0 1=1\/1+zG c.side 0 1=2;omega,htm,hle,?_,?_⟩
 ·dsimp only;split<;>omega
 ·dsimp only;show(kprod x).price (zG c.inst 0 ((kprod x).count-1)) _=0;obtain⟨k,hk2⟩:∃k:Nat,zG c.inst 0 (((kprod x).count:Int)-1)=k:=⟨(zG c.inst 0 (((kprod x).count:Int)-1)).toNat,oM⟩
  rw[hk2]at wi ⊢;have hkc:k<(kprod x).count:=by omega
  have et:(kprod x).tick=zV x:=rfl;have el:(kprod x).low= -20*zV x:=rfl;have eh:(kprod x).high=100*zV x:=rfl;have ew:(kprod x).wide=zV x*(5+zG x.wide 0 60):=rfl;rw[Int.mul_add]at ew;rw[Prd.price,y7z (by omega),y7z (by omega),et,el,eh,ew];rcases fT hc hkc with⟨h1,_⟩|⟨h1,h2⟩
  ·have hge:((kprod x).months.length:Int)<=k:=by
    rcases xAj k (kprod x).months.length with y|y
    ·rw[Prd.legs,y7z (by omega),y8c (by omega)]at h1;cases h1
    ·omega
   rw[y8c h1,y8c hge,y8c hge,y7z,y7z (by omega)];have:zV x*zG c.price 0 9-4*zV x=zV x*(zG c.price 0 9-4):=by rw[Int.mul_sub,xCk 4]
   rw[this,zAp];decide
  ·have hlt:¬((kprod x).months.length:Int)<=k:=by omega
   rw[y7z (show ¬((kprod x).legs k).2.2=au by rw[h1];decide),y7z hlt,y7z hlt,y7z,y7z (by omega)];have:zV x*zG c.price 0 9+8*zV x=zV x*(zG c.price 0 9+8):=by rw[Int.mul_add,xCk 8]
   rw[this,zAp];decide
def zNl (x:Prd) (c:Cmd) (i:Int): -2000000<=(xE ⟨kprod x,c,i⟩).price/\(xE ⟨kprod x,c,i⟩).price<=2000000:=by
 have ht:=zGe x;have wp:=yV (n:=c.price) (lo:=0) (hi:=9) oM;have hm:=lQ (a:=zV x) (b:=zG c.price 0 9) (m:=zV x) (n:=9) oM wp;have et:(kprod x).tick=zV x:=rfl;by_cases h1:uF c=1
 ·obtain⟨_,_,_,_,h,_⟩:=z2d x c i h1;exact h
 ·have hh:¬(y4 ⟨kprod x,c,i⟩).kind=1:=h1;have e:(xE ⟨kprod x,c,i⟩).price=if(y4 ⟨kprod x,c,i⟩).kind=4 then zV x*zG c.price 0 9+5*zV x else zV x*zG c.price 0 9:=by rw[xE,y7z hh];rfl
  rw[e];split<;>omega
def z4j (x:Prd) (c:Cmd) (i id:Int) (hid:1<=id/\id<=1099511627776):Cmd.right {xE ⟨kprod x,c,i⟩with id:=id}=0:=by
 have hk:=yNy c;have hq:=yJw ⟨kprod x,c,i⟩;have hp:=zNl x c i;have hcb:=zTi (m4 x);rw[Cmd.right];dsimp only;rw[yCk];dsimp only;rw[y7z (by omega),y7z (by omega)];have q1:kO (xE ⟨kprod x,c,i⟩).qty=au:=by rw[kO,y8r (by omega),y8r (by omega)];rfl
 have q2:vT (xE ⟨kprod x,c,i⟩).price=au:=by rw[vT,y8r (by omega),y8r (by omega)];rfl
 by_cases h1:uF c=1
 ·obtain⟨a1,a2,a3,a4,a5,a6⟩:=z2d x c i h1;rw[y8c h1,Cmd.orderE];dsimp only;rw[y7z (by omega),y7z (by omega),y7z (by rw[q1];decide),y7z (by omega),y7z (by rw[zCs];simp),y7z (by rw[q2];decide),y7z (by omega)]
 ·rw[y7z h1,y7z (by rw[q1];simp),y7z (by rw[q2];simp)]
def dH (W:List (Int×Int)) (id:Int):Int×Bool:=match W.find? λx=>decide (x.1=id)with
 |some x=>(x.2,au)
 |none=>(0,ar)
def z1t:List (Int×Int)->Int->Int->List (Int×Int)
 |[],id,s=>[(id,s)]
 |x::W,id,s=>if id=x.1 then(x.1,s)::W else x::z1t W id s
def yHn (x:Int×Int) (W:List (Int×Int)) (id:Int):dH (x::W) id=if id=x.1 then(x.2,au)else dH W id:=by
 rw[dH,xEe];by_cases c:id=x.1
 ·rw[y8c c,y8r c.symm]
 ·rw[y7z c,y8n (λe=>c e.symm)];rfl
structure GtX where
 B:List (List zH)
 U:List Int
 W:List (Int×Int)
 O:List (Int×Rep)
def yBx (B:List (List zH)) (U:List Int) (W:List (Int×Int)) (s id why:Int):GtX:=⟨B,U,W,[(s,⟨2,id,0,0,0,0,0,why⟩)]⟩
def eL (s:Int):List (Int×Int)->List Rep->List (Int×Int)×List (Int×Rep)
 |W,[]=>(W,[])
 |W,r::R=>
  let W1:=if r.kind=1 then z1t W r.id s else W
  ((eL s W1 R).1,(if r.kind=2 then s else(dH W1 r.id).1,r)::(eL s W1 R).2)
def zKt (B:List (List zH)) (W:List (Int×Int)) (s:Int):Nat:=(whL 0 B).countP λx=>decide ((dH W x.1).1=s)
def z0d (p:Prd) (B:List (List zH)) (U:List Int) (W:List (Int×Int)) (s:Int) (c:Cmd):GtX:=
 if c.kind=1/\64<=zKt B W s then yBx B U W s c.id 30
 else if c.kind≠1/\((dH W c.id).2=ar\/(dH W c.id).1≠s)then yBx B U W s c.id 26
 else⟨(doF p B U c).B,(doF p B U c).U,(eL s W (doF p B U c).R).1,(eL s W (doF p B U c).R).2⟩
def lO (p:Prd) (B:List (List zH)) (U:List Int) (W:List (Int×Int)) (s:Int) (b:List UInt8):GtX:=
 if s<0\/8<=s then yBx B U W s 0 1 else if(xN b).2≠0 then yBx B U W s 0 (xN b).2 else z0d p B U W s (xN b).1
def yBf (p:Prd) (x:wA) {r:Rep} (hr:r.kind=3):∀y∈mX p x r,y.kind=3:=by
 intro y hy;rw[mX,y8v]at hy;rcases hy with rfl|hy
 ·exact hr
 ·split at hy
  ·rw[zGw]at hy;simp only[y8v,xDs,or_false]at hy;rcases hy with rfl|rfl<;>exact hr
  ·cases hy
def zYb (p:Prd) (c:Cmd):∀(l:List wA) (q:Int),∀y∈mK p c l q,y.kind=3
 |[],_,y,hy=>by cases hy
 |x::l,q,y,hy=>by
  rw[mK,y9f]at hy;rcases hy with hy|hy
  ·rw[nG,y9f]at hy;rcases hy with hy|hy
   ·obtain⟨f,_,hy⟩:=xAt.1 hy;exact yBf p x rfl y hy
   ·exact yBf p x rfl y hy
  ·exact zYb p c l _ y hy
def z2m (p:Prd) (B:List (List zH)) (U:List Int) (c:Cmd):(∀r∈(bK p B U c).R,r.kind=1->r.id=c.id)/\∃r l,(bK p B U c).R=r::l/\r.kind=1/\r.id=c.id:=by
 rw[zAb];dsimp only;refine⟨λr hr hk=> ?_,_,_,rfl,rfl,rfl⟩;rw[y9q,y8v,y9f]at hr;rcases hr with rfl|hr|hr
 ·rfl
 ·have:=zYb _ _ _ _ r hr;omega
 ·split at hr
  ·rw[y9u]at hr;subst hr;rfl
  ·cases hr
def yAm:∀{l m:List Nat},l.Nodup->(∀x∈l,x∈m)->l.length<=m.length
 |[],m,_,_=>y9c _
 |a::l,m,h,hs=>by
  rw[xAq]at h;have ha:=hs a y8h;have:=yAm (l:=l) (m:=m.erase a) h.2 λx hx=>(List.mem_erase_of_ne (λe=>h.1 (by rw[<- e];exact hx))).2 (hs x (y8i _ hx))
  rw[List.length_erase_of_mem ha]at this;have:=List.length_pos_of_mem ha;rw[y8f];omega
structure Handed (ents:List am) (seen:Array Nat) (dn:List am):Prop where
 sn:seen.toList=dn.map (·.born)
 nd:(dn.map (·.born)).Nodup
 sub:∀e∈dn,e∈ents
def Handed.push {ents:List am} {seen:Array Nat} {dn:List am} (h:Handed ents seen dn) {e:am} (he:e∈(leftOf ents.toArray seen).toList):Handed ents (seen.push e.born) (dn++[e]):=by
 simp only[leftOf,Array.toList_filter,xAa,xBa]at he;obtain⟨h1,h2⟩:=he;have h3:e.born∉dn.map (·.born):=by
  rw[<- h.sn];intro hm;have:seen.contains e.born=au:=by
   rw[Array.contains_iff_mem];exact Array.mem_toList_iff.1 hm
  rw[this]at h2;cases h2
 refine⟨by rw[Array.toList_push,h.sn,y8k];rfl,?_,λx hx=> ?_⟩
 ·rw[y8k,aw,xAk];exact⟨h.nd,by simp,λx hx y hy e=>by rw[y9u]at hy;subst hy;subst e;exact h3 hx⟩
 ·rcases y9f.1 hx with hx|hx
  ·exact h.sub x hx
  ·rw[y9u]at hx;subst hx;exact h1
def Handed.len {ents:List am} {seen:Array Nat} {dn:List am} (h:Handed ents seen dn):dn.length<=ents.length:=by
 have:=yAm (m:=ents.map (·.born)) h.nd λx hx=>by
  obtain⟨e,he,rfl⟩:=y9m.1 hx;exact y9e (f:=(·.born)) (h.sub e he)
 simpa using this
def Handed.all {ents:List am} {seen:Array Nat} {dn:List am} (h:Handed ents seen dn) (hn:(ents.map (·.born)).Nodup) (h0:(leftOf ents.toArray seen).size=0):dn.Perm ents:=by
 have inj:∀{l:List am},(l.map (·.born)).Nodup->∀x∈l,∀y∈l,x.born=y.born->x=y:=by
  intro l hl
  induction l with
  |nil=>intro x hx;cases hx
  |cons a l ih=>
   rw[y8p,xAq]at hl;intro x hx y hy e;rcases y8v.1 hx with e1|h1<;>rcases y8v.1 hy with e2|h2
   ·rw[e1,e2]
   ·refine absurd ?_ hl.1;rw[<- e1,e];exact y9e (f:=(·.born)) h2
   ·refine absurd ?_ hl.1;rw[<- e2,<- e];exact y9e (f:=(·.born)) h1
   ·exact ih hl.2 x h1 y h2 e
 have nd:∀{l:List am},(l.map (·.born)).Nodup->l.Nodup:=λhl=>List.Pairwise.imp (λhne e=>hne (by rw[e])) (List.pairwise_map.1 hl)
 refine(List.perm_ext_iff_of_nodup (nd h.nd) (nd hn)).2 λe=>⟨h.sub e,λhe=> ?_⟩
 have:seen.contains e.born=au:=by
  cases hc:seen.contains e.born with
  |true=>rfl
  |false=>
   have hm:e∈(leftOf ents.toArray seen).toList:=by
    simp only[leftOf,Array.toList_filter,xAa];exact⟨he,by rw[hc];rfl⟩
   have:(leftOf ents.toArray seen).toList=[]:=y9a (by simpa using h0);rw[this]at hm;cases hm
 rw[Array.contains_iff_mem]at this;have:=Array.mem_toList_iff.2 this;rw[h.sn]at this;obtain⟨x,hx,e2⟩:=y9m.1 this;rw[<- inj hn x (h.sub x hx) e he e2];exact hx
def z6k (k:Ko) (LL:List HP) (ents:List am) (e:Ending) (w':aq):Prop:=∃(a:Option Addr) (n c:Nat) (xs:List ao) (dn:List am),e=.returned (.slice a n c)/\xs=dn.map (·.key)/\n=dn.length/\dn.Perm ents/\Hp k w' (slO 2 1 a n c xs::LL)
def yFv (k:Ko) (LL:List HP) (ents:List am) (r bm ck:Nat) (v:ao) (w1:aq):Prop:=∃(a:Option Addr) (n c:Nat) (xs:List ao) (seen:Array Nat) (c0:Nat) (dn:List am),v=.slice a n c/\xs=dn.map (·.key)/\n=dn.length/\ck<=c0/\Handed ents seen dn/\Hp k w1 (slO 2 1 a n c xs::pt r (.mapIter (az bm) ck seen c0)::LL)
def yIy (ents:List am) (v:ao) (_:aq):Nat:=match v with| .slice _ n _=>ents.length-n|_=>0
def yDr {b bm ck:Nat} {ents:List am} {w:aq} {k:Ko} {LL:List HP} {l:List ao} {T:ap}
 (H:Hp k w LL) (hat:∀w',Hp k w' LL->w'.heap[b]? =az (.cells l.toArray T)/\w'.heap[bm]? =az (.map ents.toArray ck)) (hl:l[12]? =az (.map (az bm)))
 (hck:∀e∈ents,e.born<ck) (hn:(ents.map (·.born)).Nodup) (hk:∀e∈ents,∃n,e.key= .int .i64 n) (hsz:ents.length<=1000000):
 Calls Tryz.prog 164 #[.pointer (az ⟨b,0,ba⟩)] w (z6k k LL ents):=by
 refine calls_of_cwp (c:=Tryz.f164.body.getD .skip) (args:=[.pointer (az ⟨b,0,ba⟩)]) mixed Tryz.func164 (by kernel_rfl) [{ι:=ao,chg:=λv=>[(3,v)],fix:=[9]}] (by kernel_rfl) (by kernel_rfl) (by kernel_rfl) ?_;obtain⟨h1,h2⟩:=hat w H;have hu:Tryz.prog.underlying 109=az (.map 2 3):=by kernel_rfl
 refine⟨az bm,?_,az ⟨w.heap.size,0,ba⟩,w.alloc (.mapIter (az bm) ck #[] ck),?_,?_⟩
 ·show nF Tryz.prog 109 ⟨b,12,ba⟩ w (.map (az bm));exact vE (by kernel_rfl) h1 hl
 ·show(Instr.range 109 (.map (az bm))).run Tryz.prog w=_;exact run_range_map w _ _ _ bm _ ck hu h2
 refine⟨yFv k LL ents w.heap.size bm ck,yIy ents,⟨.slice ba 0 0,rfl,ba,0,0,[],#[],ck,[],rfl,rfl,rfl,y8w _,⟨rfl,List.nodup_nil,λe he=>by cases he⟩,(H.new _).nil _ _⟩,?_⟩;rintro j v w1 ⟨a,n,c,xs,seen,c0,dn,rfl,hxs,hnl,hc0,hh,H1⟩;have hr:=H1.drop.get;obtain⟨-,g2⟩:=hat w1 H1.drop.drop;rcases run_next_at (P:=Tryz.prog) w1 0 w.heap.size bm ck c0 seen ents.toArray ck hr g2 (λx hx=>hck x (by simpa using hx)) hc0 with⟨e1,e2⟩|⟨e,he,w2,hw2,hrun⟩
 ·refine .inl ⟨w1,e2,?_⟩;show z6k k LL ents (.returned (.slice a n c)) w1;exact⟨a,n,c,xs,dn,rfl,hxs,hnl,hh.all hn e1,(H1.swap).drop⟩
 ·have hmem:e∈ents:=by
   have:=he;simp only[leftOf,Array.toList_filter,xAa]at this;exact this.1
  obtain⟨m,hm⟩:=hk e hmem;have hp:=hh.push he;have H2:Hp k (World.setB w2 w.heap.size (.mapIter (az bm) ck (seen.push e.born) ck)) (slO 2 1 a n c xs::pt w.heap.size (.mapIter (az bm) ck (seen.push e.born) ck)::LL):=by
   have H1':Hp k w2 (slO 2 1 a n c xs::pt w.heap.size (.mapIter (az bm) ck seen c0)::LL):=by
    rcases hw2 with rfl|rfl
    ·exact H1
    ·exact H1.drew
   exact((H1'.swap).upd _).swap
  have hset:Go.ChangeMaps.setBlock w2 w.heap.size (.mapIter (az bm) ck (seen.push e.born) ck)=World.setB w2 w.heap.size (.mapIter (az bm) ck (seen.push e.born) ck):=rfl;rw[hset]at hrun;generalize hw3:World.setB w2 w.heap.size (.mapIter (az bm) ck (seen.push e.born) ck)=w3 at H2 hrun;obtain⟨-,g3⟩:=hat w3 H2.drop.drop;have hent:=run_entry_at (P:=Tryz.prog) w3 w.heap.size bm ck seen ents.toArray ck e H2.drop.get g3 (by simpa using hmem) (by simpa using hn);refine .inr ⟨e.key,e.val,w3,hrun,.tuple #[e.key,e.val],hent,?_⟩;rw[hm];have hlen:=hp.len;rw[y8a,xAc]at hlen;refine Eq.mp (α:=z5j w3 (.cells #[.int .i64 m] 2) λbb w4=>∃(a':Option Addr) (n' c':Nat),∃w5,gE Tryz.prog (Builtin.append_ #[23,23] 23 #[.slice a n c,.slice (az ⟨bb,0,ba⟩) 1 1]) w4 (.slice a' n' c') w5/\∃i',.slice a' n' c'=i'/\yFv k LL ents w.heap.size bm ck i' w5/\yIy ents i' w5<yIy ents (.slice a n c) w1) (by kernel_rfl) ?_;rintro bb w4 hb hw4;subst hb hw4;have H3:=(H2.new (.cells [ak .i64 m].toArray 2)).lit (sz:=1) (n:=1) rfl;obtain⟨a',c',w5,hap,H5⟩:=(H3.swap).append (P:=Tryz.prog) (t1:=23) (t2:=23) (rt:=23) (e:=2) (sz:=1) (by_:=8) (z:= #[.int .i64 0]) (by kernel_rfl) (by kernel_rfl) (x:= .slice (az ⟨w3.heap.size,0,ba⟩) 1 1) (m:=1) (ys:=[.int .i64 m]) (.inl ⟨_,_,rfl,H3.satR⟩) (by simp[Value.oneC]) rfl Z8 oM;refine⟨a',n+1,c',w5,hap,.slice a' (n+1) c',rfl,⟨a',n+1,c',_,_,ck,dn++[e],rfl,?_,?_,y8w _,hp,(H5.swap).drop⟩,?_⟩
  ·rw[hxs,y8k,aw,hm]
  ·rw[y8a,hnl];rfl
  ·show ents.length-(n+1)<ents.length-n;omega
def z9p {F:PH}:∀{l:List (Int×Int)} {ents:List am},MR F (yR l) ents->ents.map (·.key)=l.map (λp=>ak .i64 p.1)
 |[],ents,h=>by
  have h:ents=[]:=h;subst h;rfl
 |p::l,ents,h=>by
  obtain⟨m,ms,rfl,h1,-,h3⟩:=h;rw[y8p,y8p,z9p (l:=l) h3,h1]
def yBe:ao->Int
 | .int _ n=>n
 |_=>0
def yCl {xs:List ao} {m:List Int} (h:xs.Perm (m.map λn=>ak .i64 n)):∃l:List Int,xs=l.map (λn=>ak .i64 n)/\l.Perm m:=by
 refine⟨xs.map yBe,?_,?_⟩
 ·rw[xAp];have:∀x∈xs,((λn=>ak .i64 n)∘yBe) x=x:=by
   intro x hx;obtain⟨n,_,rfl⟩:=y9m.1 (h.mem_iff.1 hx);rfl
  rw[y9k this,List.map_id']
 ·have:=h.map yBe;rw[xAp]at this;have e:(yBe∘λn=>ak .i64 n)=id:=rfl;rw[e,List.map_id]at this;exact this
def z9j (F:PH):∀l:List Int,DRL F (iE l).flatten (l.map λn=>ak .i64 n)
 |[]=>by simp[iE,DRL]
 |n::l=>by
  have ih:=z9j F l;have e:(iE (n::l)).flatten= .v (.int .i64 n)::(iE l).flatten:=rfl;rw[e,DRL];exact⟨.int .i64 n,_,rfl,by simp[DR,Value.oneC],ih⟩
def sids0C:Con where
 ι:=MSt
 pat:=λ_=>[.nm 0 0]
 pre:=λs=>[zC s]
 cnd:=λs=>s.wh.length<=1000000
 alts:=λs=>[{o:=List Int,res:=λ_=> .own 1,post:=λl=>[zC s,.own 2 1 (iE l)],rel:=λl=>l.Perm (s.wh.map (·.1))}]
@[reducible] def zLn (s:MSt):St:=zMl [0] ⟨gC 0 (sids0C.pre s),(sids0C.pre s).length⟩
def yPm (s:MSt) (l:List Int) (hl:l.Perm (s.wh.map (·.1))):yPv 1 (.own 5) ((zLn s).new (.own 2 1 (iE l))) (sids0C.alts s):=by
 refine Eq.mp (α:=∃(o:List Int),sb s.p.code=sb s.p.code/\s.p.tick=s.p.tick/\s.p.low=s.p.low/\s.p.high=s.p.high/\s.p.wide=s.p.wide/\s.p.rule=s.p.rule/\s.p.top=s.p.top/\s.p.least=s.p.least/\s.p.part=s.p.part/\ag 197 Book 6 zQ s.books ba=ag 197 Book 6 zQ s.books ba/\yR s.wh=yR s.wh/\ac 1 (iE s.p.months)=ac 1 (iE s.p.months)/\ac 1 (iE s.p.settle)=ac 1 (iE s.p.settle)/\iE o=iE l/\o.Perm (s.wh.map (·.1))) (by kernel_rfl) ?_
 exact⟨l,rF8 (rF6 hl)⟩
def yLc:sids0C.ok Tryz.prog 164:=by
 intro s hc k L E w ys R hv;have hc:s.wh.length<=1000000:=hc;have hnx:=R.nx;obtain⟨E1,hle,R1⟩:=zDs [0] R;have R1:Rel k L E1 (zLn s) w:=R1;have hc0:(zLn s).get 0=az (.cells [sV s.p.code,.own 3,zA s.p.tick,zA s.p.low,zA s.p.high,zA s.p.wide,zA s.p.rule,zA s.p.top,zA s.p.least,zA s.p.part,.own 4,.own 1,.mp 2] 195):=rfl;have hc2:((zLn s).del 0).get 2=az (.map (yR s.wh)):=rfl;have Ra:=(R1.take hc0).take hc2;have H0:Hp k w (rHP E1 (2,.map (yR s.wh))::rHP E1 (0,.cells [sV s.p.code,.own 3,zA s.p.tick,zA s.p.low,zA s.p.high,zA s.p.wide,zA s.p.rule,zA s.p.top,zA s.p.least,zA s.p.part,.own 4,.own 1,.mp 2] 195)::((((zLn s).del 0).del 2).rows.map (rHP E1)++fz E1.F::L)):=
  Ra.out.perm (.cons _ (((bc _ _ _).append_left _).trans y8q))
 generalize hrest:(((zLn s).del 0).del 2).rows.map (rHP E1)++fz E1.F::L=rest at H0;obtain⟨hk,hs,hh⟩:=H0;cases hh with
 |cons ha hsub hdj hr=>
 cases hr with
 |cons ha0 hsub0 hdj0 hr0=>
 rcases ha with⟨e,_⟩|⟨hd2,t2,r2⟩
 ·cases e
 rcases ha0 with⟨e,_⟩|⟨hd0,t0,r0⟩
 ·cases e
 simp only[rowHP]at r2 r0;obtain⟨bm,ents,ck,q1,q2,q3,rfl⟩:=r2;obtain⟨b,l,p1,p2,rfl⟩:=r0;have H:Hp k w (pt bm (.map ents.toArray ck)::pt b (.cells l.toArray 195)::rest):=⟨hk,_,.cons rfl hsub hdj (.cons rfl hsub0 hdj0 hr0)⟩
 have hl12:l[12]? =az (.map (az bm)):=by
  simp only[VRL,VR]at p2;obtain⟨_,_,rfl,-,_,_,rfl,-,_,_,rfl,-,_,_,rfl,-,_,_,rfl,-,_,_,rfl,-,_,_,rfl,-,_,_,rfl,-,_,_,rfl,-,_,_,rfl,-,_,_,rfl,-,_,_,rfl,-,y,_,rfl,⟨bb,sub,g1,rfl⟩,rfl⟩:=p2;rw[t2]at g1;cases g1;cases q1;rfl
 have hys:ys=[.pointer (az ⟨b,0,ba⟩)]:=by
  simp only[sids0C,VRL,VR]at hv;obtain⟨y,_,rfl,⟨b',oo,sub,g1,rfl⟩,rfl⟩:=hv;rw[hle.get g1]at t0;cases t0;cases p1;rfl
 subst hys;have hkeys:=z9p q2;have hlen:ents.length=s.wh.length:=by simpa using congrArg ay hkeys
 have hcall:=yDr H (λw' H'=>⟨(H'.swap).get,H'.get⟩) hl12 q3.2 q3.1 (λe he=>by
  have:e.key∈ents.map (·.key):=y9e (f:=(·.key)) he
  rw[hkeys]at this;obtain⟨p,_,hp⟩:=y9m.1 this;exact⟨p.1,hp.symm⟩) oM
 have hdo:=mL (P:=Tryz.prog) (f:=164) (args:= #[.pointer (az ⟨b,0,ba⟩)]) (w:=w) (K:=λv w'=>z6k k (pt bm (.map ents.toArray ck)::pt b (.cells l.toArray 195)::rest) ents (.returned v) w') (by kernel_rfl) (hcall.mono λe w' h=>by
  have h2:=h;obtain⟨a,n,c,xs,dn,rfl,-⟩:=h2;exact⟨_,rfl,h⟩)
 refine hdo.mono ?_;rintro v w' ⟨a,n,c,xs,dn,hv',rfl,rfl,hperm,H2⟩;cases hv';obtain⟨li,e1,e2⟩:=yCl (xs:=dn.map (·.key)) (m:=s.wh.map (·.1)) (by
  have:=hperm.map (·.key)
  rw[hkeys]at this;rwa [xAp])
 have elen:dn.length=li.length:=by simpa using congrArg ay e1
 rw[e1,elen]at H2;rw[elen];have H3:Hp k w' (slO 2 1 a li.length c (li.map λn=>ak .i64 n)::((zLn s).rows.map (rHP E1)++fz E1.F::L)):=by
  have h1:Hp k w' (rHP E1 (2,.map (yR s.wh))::rHP E1 (0,.cells [sV s.p.code,.own 3,zA s.p.tick,zA s.p.low,zA s.p.high,zA s.p.wide,zA s.p.rule,zA s.p.top,zA s.p.least,zA s.p.part,.own 4,.own 1,.mp 2] 195)::slO 2 1 a li.length c (li.map λn=>ak .i64 n)::rest):=by
   have g0:Hp k w' (pt bm (.map ents.toArray ck)::pt b (.cells l.toArray 195)::slO 2 1 a li.length c (li.map λn=>ak .i64 n)::rest):=
    H2.perm ((bc _ _ _).trans (.cons _ (.swap _ _ _)))
   have g1:=g0.imp (B:=rHP E1 (2,.map (yR s.wh))) λx hx=> .inr ⟨hd2,t2,by simp only[rowHP];exact⟨bm,ents,ck,q1,q2,q3,hx⟩⟩
   have g2:=(g1.swap).imp (B:=rHP E1 (0,.cells [sV s.p.code,.own 3,zA s.p.tick,zA s.p.low,zA s.p.high,zA s.p.wide,zA s.p.rule,zA s.p.top,zA s.p.least,zA s.p.part,.own 4,.own 1,.mp 2] 195)) λx hx=> .inr ⟨hd0,t0,by simp only[rowHP];exact⟨b,l,p1,p2,hx⟩⟩
   exact g2.swap
  subst hrest;refine h1.perm ?_;have p0:=((vR hc0).1.map (rHP E1))
  have p2:=((vR hc2).1.map (rHP E1))
  have p3:=(p0.trans (p2.cons _)).append_right (fz E1.F::L);refine List.Perm.trans ?_ (p3.symm.cons _);exact(bc _ _ _).trans ((be _ (.swap _ _ _)).trans (.swap _ _ _))
 have hle2:E1.le ⟨E1.F,E1.tab++[((.slice a li.length c,[]):Hd)]⟩:=Ev.le.app _;have hget:(E1.tab++[((.slice a li.length c,[]):Hd)])[(zLn s).nx]? =az (.slice a li.length c,[]):=by rw[<- R1.nx];simp
 have R2:Rel k L ⟨E1.F,E1.tab++[((.slice a li.length c,[]):Hd)]⟩ ((zLn s).new (.own 2 1 (iE li))) w':=by
  refine⟨by simp[St.new,R1.nx],?_⟩;have g1:Hp k w' ((zLn s).rows.map (rHP E1)++(slO 2 1 a li.length c (li.map λn=>ak .i64 n)::fz E1.F::L)):=H3.perm (y8q (l₁:=(zLn s).rows.map (rHP E1))).symm;have g2:=wK (λr x=>rHP.mono hle2 r) g1;have g3:Hp k w' (slO 2 1 a li.length c (li.map λn=>ak .i64 n)::((zLn s).rows.map (rHP ⟨E1.F,E1.tab++[((.slice a li.length c,[]):Hd)]⟩)++fz E1.F::L)):=g2.perm y8q;exact g3.imp λx hx=> .inr ⟨_,hget,by
   simp only[rowHP];exact⟨a,c,_,by rw[yZ],z9j _ li,λel hel=>by obtain⟨n,_,rfl⟩:=y9m.1 hel;rfl,by rw[yZ];exact hx⟩⟩
 obtain⟨al,ha,hend⟩:=zFl (yPm s li e2);obtain⟨o,o1,E3,o2,o3,o4⟩:=zWx hend hnx (hle.trans hle2) R2 (y:= .slice a li.length c) (by simp only[VR];exact⟨_,hget,_,_,_,rfl⟩);exact⟨al,ha,o,o1,E3,o2,o3,o4⟩
structure MkB where
 m:Mkt
 p:Prd
 B:List (List zH)
 U:List Int
@[reducible] def MkB.ok (i:MkB):Prop:=i.m.Rep i.p i.B i.U/\BOk i.p i.B
def midsC:Con where
 ι:=MkB
 pat:=λ_=>[.nm 0 0]
 pre:=λi=>[qT i.m]
 cnd:=λi=>i.ok
 alts:=λi=>[{o:=List Int,res:=λ_=> .own 1,post:=λl=>[qT i.m,.own 2 1 (iE l)],rel:=λl=>l.Perm ((whL 0 i.B).map (·.1))}]
def clUsC:Con:=zWk 2
def mcopyC:Con:=con1 MkB (λ_=>[.nm 0 0]) (λi=>[qT i.m]) (λi=>i.ok) (λ_=> .nm 1 0) (λi=>[qT i.m,qT i.m])
structure Gt where
 m:Mkt
 W:List (Int×Int)
def xH (W:List (Int×Int)):List (ao×List D):=W.map λx=>(.int .i64 x.1,[.v (.int .i64 x.2)])
def GtU (g:Gt):Nat->AObj
 |0=> .cells [.nm 1 0,.mp 2] 111
 |1=>qT g.m
 |2=> .map (xH g.W)
 |_=> .gone
def GtR (g:Gt):AObj:= .adt Gt 3 GtU g
def jH (o:Int×Rep):List D:= .v (.int .i64 o.1)::xU o.2
@[reducible] def z6v:Nat:=67
@[reducible] def z4i (O:List (Int×Rep)):AObj:= .own z6v 9 (O.map jH)
def newGC:Con where
 ι:=Prd
 pat:=λp=>[prdV p]
 pre:=λ_=>[]
 cnd:=λp=>p.small
 alts:=λp=>[{o:=Unit,res:=λ_=> .tup [.nm 0 0,zA 0],post:=λ_=>[GtR ⟨⟨p,mO p,[]⟩,[]⟩],rel:=λ_=>p.check=0},{o:=Unit,res:=λ_=> .tup [.d (.v (.pointer ba)),zA p.check],post:=λ_=>[],rel:=λ_=>p.check≠0}]
structure GrI where
 s:Int
 id:Int
 why:Int
def grejC:Con:=con1 GrI (λi=>[zA i.s,zA i.id,zA i.why]) (λ_=>[]) (λ_=>True) (λ_=> .own 0) (λi=>[z4i [(i.s,⟨2,i.id,0,0,0,0,0,i.why⟩)]])
structure SbI where
 s:Int
 b:List UInt8
def zT (s:Int) (b:List UInt8):Cmd×Int:=if s<0\/8<=s then(zVb,1)else xN b
def greadC:Con:=con1 SbI (λi=>[zA i.s,roV 1 (bE i.b)]) (λ_=>[]) (λi=>i.b.length<=1099511627776) (λi=> .tup [zGp (zT i.s i.b).1,zA (zT i.s i.b).2]) (λ_=>[])
structure GtI where
 g:Gt
 p:Prd
 B:List (List zH)
 U:List Int
 s:Int
@[reducible] def GtI.ok (i:GtI):Prop:=i.g.m.Rep i.p i.B i.U/\BOk i.p i.B
def gopenC:Con:=con1 GtI (λi=>[.nm 0 0,zA i.s]) (λi=>[GtR i.g]) (λi=>i.ok) (λi=>zA (zKt i.B i.g.W i.s)) (λi=>[GtR i.g])
def GtO (g:Gt):List AObj:=[.cells [.nm 1 0,.mp 2] 111,qT g.m,.map (xH g.W)]
def gopenOC:Con:=con1 GtI (λi=>[.nm 0 0,zA i.s]) (λi=>GtO i.g) (λi=>i.ok) (λi=>zA (zKt i.B i.g.W i.s)) (λi=>GtO i.g)
def yVc:List SAnn:=[{ι:=Int×Nat,slots:=λj=>[(5,zA j.1),(14,zA j.2)],rows:=λ_=>[]}]
def gmktC:Con:=con1 GtI (λ_=>[.nm 0 0]) (λi=>[GtR i.g]) (λi=>i.ok) (λ_=> .nm 1 0) (λi=>[GtR i.g,qT i.g.m])
structure GdI where
 g:Gt
 p:Prd
 B:List (List zH)
 U:List Int
 s:Int
 b:List UInt8
 X:GtX
def gdoC:Con where
 ι:=GdI
 pat:=λi=>[.nm 0 0,zA i.s,roV 1 (bE i.b)]
 pre:=λi=>[GtR i.g]
 cnd:=λi=>(i.g.m.Rep i.p i.B i.U/\BOk i.p i.B)/\i.b.length<=1099511627776/\i.X=lO i.p i.B i.U i.g.W i.s i.b
 alts:=λi=>[{o:=Mkt,res:=λ_=> .own 1,post:=λo=>[GtR ⟨o,i.X.W⟩,z4i i.X.O],rel:=λo=>o.Rep i.p i.X.B i.X.U}]
structure GdJ where
 o:Mkt
 W:List (Int×Int)
 O:List (Int×Rep)
 k:Nat
def GdJ.rows (j:GdJ):List AObj:=[.cells [.nm 1 0,.mp 2] 111,qT j.o,.map (xH j.W),z4i j.O]
def y6n:List SAnn:=[{ι:=GdJ,slots:=λj=>[(0,.nm 0 0),(11,.own 3),(74,zA j.k)],rows:=GdJ.rows}]
def y5r:List (Nat×SAnn):=[(20,bj 36),(28,bj 50),(66,ij 14)]
def yGr (es:List (ao×List D)):Prop:=
 ∃(a:List (ao×List D)),a=es/\True/\∀(b:Unit),True->∃(c:Unit),es=a/\es=a/\True
def y0i (es:List (ao×List D)):yGr es=walk Tryz.prog ([(146,vD 112)]) 0 ([]) ([]) [] Tryz.f110 (Tryz.f110.body.getD .skip) (clUsC.pat es) (clUsC.pre es) (clUsC.alts es):=by kernel_rfl
def yYk (hG:GOk Tryz.prog ([(146,vD 112)])) (h:∀(es:List (ao×List D)),clUsC.cnd es->yGr es):clUsC.ok Tryz.prog 110:=vA mixed ([(146,vD 112)]) hG 0 (λ(es:List (ao×List D))=>[]) (λ(es:List (ao×List D))=>[]) [] Tryz.func110 (by kernel_rfl) (by kernel_rfl) (by kernel_rfl) (λ_=>by kernel_rfl) (λ(es:List (ao×List D)) hc=>Eq.mp (y0i es) (h es hc))
def y1n (i:MkB):Prop:=
 ∃(i_1:MSt),zC i_1=zC i.m.s/\i_1.wh.length<=1000000/\∀(o:List Int),o.Perm (av (λ(x:Int×Int) ↦ x.fst) i_1.wh)->∃(o_1:List Int),dh (sb i.m.p.code)/\dh i.m.p.tick/\dh i.m.p.low/\dh i.m.p.high/\dh i.m.p.wide/\dh i.m.p.rule/\dh i.m.p.top/\dh i.m.p.least/\dh i.m.p.part/\zC i.m.s=zC i_1/\dh (zU i.m.used)/\dh (ac 1 (iE i.m.p.months))/\dh (ac 1 (iE i.m.p.settle))/\iE o_1=iE o/\o_1.Perm (av (λ(x:Int×Int) ↦ x.fst) (whL 0 i.B))
def yUn (i:MkB):Prop:=
 ∃(i_1:MSt),zC i_1=zC i.m.s/\(i_1.books.length<=1000000/\∀(b:Book),b∈i_1.books->(b.a.slots.length<=1000000/\b.a.queues.length<=1000000)/\b.buys.length<=1000000/\b.sells.length<=1000000/\b.spare.length<=1000000)/\∀(o:Unit),True->True/\(dh (sb i.m.p.code)/\True/\dh i.m.p.tick/\dh i.m.p.low/\dh i.m.p.high/\dh i.m.p.wide/\dh i.m.p.rule/\dh i.m.p.top/\dh i.m.p.least/\dh i.m.p.part/\True/\True)/\∃(i_2:List (ao×List D)),i_2=zU i.m.used/\True/\∀(o:Unit),True->(dh (sb i.m.p.code)/\True/\dh i.m.p.tick/\dh i.m.p.low/\dh i.m.p.high/\dh i.m.p.wide/\dh i.m.p.rule/\dh i.m.p.top/\dh i.m.p.least/\dh i.m.p.part/\True/\True)/\∃(o:Unit),dh (sb i.m.p.code)/\dh i.m.p.tick/\dh i.m.p.low/\dh i.m.p.high/\dh i.m.p.wide/\dh i.m.p.rule/\dh i.m.p.top/\dh i.m.p.least/\dh i.m.p.part/\zC i.m.s=zC i_1/\zU i.m.used=i_2/\dh (ac 1 (iE i.m.p.months))/\dh (ac 1 (iE i.m.p.settle))/\dh (sb i.m.p.code)/\dh i.m.p.tick/\dh i.m.p.low/\dh i.m.p.high/\dh i.m.p.wide/\dh i.m.p.rule/\dh i.m.p.top/\dh i.m.p.least/\dh i.m.p.part/\zC i.m.s=zC i_1/\zU i.m.used=i_2/\dh (ac 1 (iE i.m.p.months))/\dh (ac 1 (iE i.m.p.settle))/\True
def y4p (p:Prd):Prop:=
 ∃(i:Prd),sb i.code=sb p.code/\iE i.months=iE p.months/\i.tick=p.tick/\i.low=p.low/\i.high=p.high/\i.wide=p.wide/\i.rule=p.rule/\i.top=p.top/\i.least=p.least/\i.part=p.part/\iE i.settle=iE p.settle/\(i.code.length<=1099511627776/\i.months.length<=1099511627776/\i.settle.length<=1099511627776)/\(∀(o:Unit),i.check=0->(∃(o:Unit),dh ((0:Int))/\ae Mkt 5 yL (Mkt.mk p (mO p) [])=ae Mkt 5 yL (Mkt.mk i (mO i) [])/\xH []=[]/\p.check=0)\/∃(o:Unit),False)/\∀(o:Unit),i.check≠0->cnd (i.check !=0) ((∃(o:Unit),False)\/∃(o:Unit),True/\p.check=i.check/\(p.check=0->False)) ((∃(o:Unit),dh ((0:Int))/\False)\/∃(o:Unit),False)
def y4e (i:GrI):Prop:=
 ∃(o:Unit),[jH (i.s,Rep.mk 2 i.id 0 0 0 0 0 i.why)]=[[D.v (.int .i64 i.s),D.v (.int .i64 2),D.v (.int .i64 i.id),D.v (.int .i64 0),D.v (.int .i64 0),D.v (.int .i64 0),D.v (.int .i64 0),D.v (.int .i64 0),D.v (.int .i64 i.why)]]/\True
def yVy (i:SbI):Prop:=
 cnd (decide (i.s<0)) (∃(o:Unit),(zT i.s i.b).fst.kind=0/\(zT i.s i.b).fst.id=0/\(zT i.s i.b).fst.inst=0/\(zT i.s i.b).fst.side=0/\(zT i.s i.b).fst.price=0/\(zT i.s i.b).fst.qty=0/\(zT i.s i.b).fst.least=0/\(zT i.s i.b).fst.time=0/\sb (zT i.s i.b).fst.label=ByteArray.mk #[]/\(zT i.s i.b).snd=1/\True) (cnd (decide (i.s>=8)) (∃(o:Unit),(zT i.s i.b).fst.kind=0/\(zT i.s i.b).fst.id=0/\(zT i.s i.b).fst.inst=0/\(zT i.s i.b).fst.side=0/\(zT i.s i.b).fst.price=0/\(zT i.s i.b).fst.qty=0/\(zT i.s i.b).fst.least=0/\(zT i.s i.b).fst.time=0/\sb (zT i.s i.b).fst.label=ByteArray.mk #[]/\(zT i.s i.b).snd=1/\True) (∃(i_1:List UInt8),bE i_1=bE i.b/\i_1.length<=1099511627776/\∀(o:Unit),True->∃(o:Unit),(zT i.s i.b).fst.kind=(xN i_1).fst.kind/\(zT i.s i.b).fst.id=(xN i_1).fst.id/\(zT i.s i.b).fst.inst=(xN i_1).fst.inst/\(zT i.s i.b).fst.side=(xN i_1).fst.side/\(zT i.s i.b).fst.price=(xN i_1).fst.price/\(zT i.s i.b).fst.qty=(xN i_1).fst.qty/\(zT i.s i.b).fst.least=(xN i_1).fst.least/\(zT i.s i.b).fst.time=(xN i_1).fst.time/\sb (zT i.s i.b).fst.label=sb (xN i_1).fst.label/\(zT i.s i.b).snd=(xN i_1).snd/\True))
def zCz (a:Int×Nat) (b:Int×Nat) (c:Int×Nat->Prop) (d:Int×Nat->Nat) (e:MkB) (f:List Int) (g:GtI):Prop:=(↑a.snd:Int)=aj.wrap ((↑b.snd:Int)+1)/\c a/\d a<d b/\dh (qT e.m)/\dh (af 2 1 (iE f))/\dh (aa [V.nm 1 0,V.mp 2] (111:ap))/\dh (ab (xH g.g.W))
def yKj (i:GtI):Prop:=
 ∃(a:MkB),qT a.m=qT i.g.m/\(a.m.Rep a.p a.B a.U/\BOk a.p a.B)/\∀(b:List Int),b.Perm (av (λ(x:Int×Int) ↦ x.fst) (whL 0 a.B))->∃(c:Int×Nat),c.fst=0/\(↑c.snd:Int)=0/\∃(d:Int×Nat->Prop),∃(e:Int×Nat->Nat),d c/\∀(f:Int×Nat),d f->cnd (decide ((↑f.snd:Int)<(↑(iE b).length:Int))) ((0<=(↑f.snd:Int)/\(↑f.snd:Int)<(↑(iE b).length:Int))/\∃(g:Int),zE (iE b) (↑f.snd:Int).toNat 0 1=az [dI g]/\(∀(h:ao×List D),h∈xH i.g.W->like (ak aj g) h.fst=au)/\∃(h:Bool),∃(j:Int),(kW (ak aj g) (xH i.g.W)=az [dI j]/\h=au\/kW (ak aj g) (xH i.g.W)=ba/\[dI j]=[dI 0]/\h=ar)/\cnd (j==i.s) (∃(k:Int×Nat),k.fst=aj.wrap (f.fst+1)/\zCz k f d e a b i) (∃(k:Int×Nat),k.fst=f.fst/\zCz k f d e a b i)) (∃(g:Unit),(↑(zKt i.B i.g.W i.s):Int)=f.fst/\qT i.g.m=qT a.m/\dh (xH i.g.W)/\True)
def yQe (i:GtI):Prop:=
 ∃(i_1:MkB),ae Mkt 5 yL i_1.m=qT i.g.m/\(i_1.m.Rep i_1.p i_1.B i_1.U/\BOk i_1.p i_1.B)/\∀(o:List Int),o.Perm (av (λ(x:Int×Int) ↦ x.fst) (whL 0 i_1.B))->∃(i0:Int×Nat),i0.fst=0/\(↑i0.snd:Int)=0/\∃(I:Int×Nat->Prop),∃(μ:Int×Nat->Nat),I i0/\∀(i_2:Int×Nat),I i_2->cnd (decide ((↑i_2.snd:Int)<(↑(iE o).length:Int))) ((0<=(↑i_2.snd:Int)/\(↑i_2.snd:Int)<(↑(iE o).length:Int))/\∃(n:Int),zE (iE o) (↑i_2.snd:Int).toNat 0 1=az [D.v (.int .i64 n)]/\(∀(p:ao×List D),p∈xH i.g.W->like (ak aj n) p.fst=au)/\∃(b:Bool),∃(n_1:Int),(kW (ak aj n) (xH i.g.W)=az [D.v (.int .i64 n_1)]/\b=au\/kW (ak aj n) (xH i.g.W)=ba/\[D.v (.int .i64 n_1)]=[D.v (.int .i64 0)]/\b=ar)/\cnd (n_1==i.s) (∃(i':Int×Nat),i'.fst=aj.wrap (i_2.fst+1)/\(↑i'.snd:Int)=aj.wrap ((↑i_2.snd:Int)+1)/\I i'/\μ i'<μ i_2/\dh (ae Mkt 5 yL i_1.m)/\dh (af 2 1 (iE o))/\dh (aa [V.nm 1 0,V.mp 2] (111:ap))/\dh (ab (xH i.g.W))) (∃(i':Int×Nat),i'.fst=i_2.fst/\(↑i'.snd:Int)=aj.wrap ((↑i_2.snd:Int)+1)/\I i'/\μ i'<μ i_2/\dh (ae Mkt 5 yL i_1.m)/\dh (af 2 1 (iE o))/\dh (aa [V.nm 1 0,V.mp 2] (111:ap))/\dh (ab (xH i.g.W)))) (∃(o:Unit),(↑(zKt i.B i.g.W i.s):Int)=i_2.fst/\ae Mkt 5 yL i.g.m=ae Mkt 5 yL i_1.m/\dh (xH i.g.W)/\True)
def y2t (i:GtI):Prop:=
 ∃(i_1:MkB),ae Mkt 5 yL i_1.m=ae Mkt 5 yL i.g.m/\(i_1.m.Rep i_1.p i_1.B i_1.U/\BOk i_1.p i_1.B)/\∀(o:Unit),True->∃(o:Unit),ae Mkt 5 yL i.g.m=ae Mkt 5 yL i_1.m/\dh (xH i.g.W)/\ae Mkt 5 yL i.g.m=ae Mkt 5 yL i_1.m/\True
def lW (a:Int) (b:GdI) (c:GdJ):=(hP (ak aj a) [dI b.s] (xH c.W))
def aX (a:SbI):=(D.v (Value.string (sb (zT a.s a.b).fst.label)))
def mH (a:SbI):=(dI ((zT a.s a.b).fst.price))
def aJ (a:SbI):=(dI ((zT a.s a.b).fst.least))
def mE (a:SbI):=(dI ((zT a.s a.b).fst.time))
def mA (a:SbI):=(dI ((zT a.s a.b).fst.side))
def aP (a:SbI):=(dI ((zT a.s a.b).fst.kind))
def aL (a:SbI):=(dI ((zT a.s a.b).fst.inst))
def aV (a:SbI):=(dI ((zT a.s a.b).fst.qty))
def mB (a:SbI):=(dI ((zT a.s a.b).fst.id))
def zYa (a:EnI) (b:SbI):Prop:=af tRp 8 (av xU a.X.R)=af tRp 8 (av xU a.X.R)/\dh (aa [V.d (aP b),V.d (mB b),V.d (aL b),V.d (mA b),V.d (mH b),V.d (aV b),V.d (aJ b),V.d (mE b),V.d (aX b)] 44)
def zWd (a:GdJ) (b:EnI) (c:SbI):Prop:=af z6v 9 (av jH a.O)=af z6v 9 (av jH a.O)/\zYa b c
def zXd (a:Int->Prop) (b:Int) (c:Int) (d:Int) (e:Int) (f:Int) (g:Int) (h:Int) (j:Int) (k:Int) (l:GdJ) (m:GdI) (n:EnI) (p:SbI):Prop:=a b/\dh (aa [V.d (dI c),V.d (dI d),V.d (dI e),V.d (dI f),V.d (dI g),V.d (dI h),V.d (dI j),V.d (dI k)] 65)/\dh (aa [V.nm 1 0,V.mp 2] (111:ap))/\dh (qT l.o)/\dh (ab (lW d m l))/\zWd l n p
def zVf (a:Int->Prop) (b:Int) (c:Int) (d:Int) (e:Int) (f:Int) (g:Int) (h:Int) (j:Int) (k:Int) (l:GdJ) (m:EnI) (n:SbI):Prop:=a b/\dh (aa [V.d (dI c),V.d (dI d),V.d (dI e),V.d (dI f),V.d (dI g),V.d (dI h),V.d (dI j),V.d (dI k)] 65)/\dh (aa [V.nm 1 0,V.mp 2] (111:ap))/\dh (qT l.o)/\dh (ab (xH l.W))/\zWd l m n
def zWr (a:GdJ) (b:GdJ) (c:Int) (d:Int) (e:Int) (f:Int) (g:Int) (h:Int) (j:Int) (k:Int) (l:Int) (m:GdJ->Prop) (n:GdJ->Nat) (p:EnI) (q:SbI):Prop:=av jH a.O=av jH b.O++[[dI c,dI d,dI e,dI f,dI g,dI h,dI j,dI k,dI l]]/\m a/\n a<n b/\zYa p q
def zLs (a:Bool->Prop) (b:Bool) (c:SbI) (d:GdI):Prop:=a b/\dh (aa [V.d (aP c),V.d (mB c),V.d (aL c),V.d (mA c),V.d (mH c),V.d (aV c),V.d (aJ c),V.d (mE c),V.d (aX c)] 44)/\dh (aa [V.nm 1 0,V.mp 2] (111:ap))/\dh (qT d.g.m)/\dh (ab (xH d.g.W))
def zXg (a:Bool->Prop) (b:SbI) (c:GdI):Prop:=∃(d:Bool),d=ar/\zLs a d b c
def zGo (a:GdI) (b:GrI):Prop:=True/\∀(c:Unit),True->∃(d:Mkt),qT d=qT a.g.m/\xH a.X.W=xH a.g.W/\av jH a.X.O=[jH (b.s,Rep.mk 2 b.id 0 0 0 0 0 b.why)]/\d.Rep a.p a.X.B a.X.U
def zFr (a:SbI):=(ak aj (zT a.s a.b).fst.id)
def y4k (i:GdI):Prop:=
 ∃(a:SbI),a.s=i.s/\bE a.b=bE i.b/\a.b.length<=1099511627776/\∀(b:Unit),True->cnd ((zT a.s a.b).snd !=0) (∃(c:GrI),c.s=i.s/\c.id=0/\c.why=(zT a.s a.b).snd/\zGo i c) ((∀(c:ao×List D),c∈xH i.g.W->like (zFr a) c.fst=au)/\∃(c:Bool),∃(d:Int),(kW (zFr a) (xH i.g.W)=az [dI d]/\c=au\/kW (zFr a) (xH i.g.W)=ba/\[dI d]=[dI 0]/\c=ar)/\∃(e:Bool),∃(f:Bool->Prop),cnd ((zT a.s a.b).fst.kind==1) (∃(g:GtI),g.s=i.s/\qT g.g.m=qT i.g.m/\xH g.g.W=xH i.g.W/\(g.g.m.Rep g.p g.B g.U/\BOk g.p g.B)/\∀(h:Unit),True->∃(j:Bool),j=decide ((↑(zKt g.B g.g.W g.s):Int)>=64)/\f j/\dh (aa [V.d (aP a),V.d (mB a),V.d (aL a),V.d (mA a),V.d (mH a),V.d (aV a),V.d (aJ a),V.d (mE a),V.d (aX a)] 44)/\dh (aa [V.nm 1 0,V.mp 2] (111:ap))/\qT g.g.m=qT i.g.m/\ab (xH g.g.W)=ab (xH i.g.W)) (zXg f a i)/\∀(g:Bool),f g->cnd g (∃(h:GrI),h.s=i.s/\h.id=(zT a.s a.b).fst.id/\h.why=30/\zGo i h) (∃(h:Bool),∃(j:Bool->Prop),cnd ((zT a.s a.b).fst.kind !=1) (cnd (!c) (∃(k:Bool),k=au/\zLs j k a i) (∃(k:Bool),k=(d !=i.s)/\zLs j k a i)) (zXg j a i)/\∀(k:Bool),j k->cnd k (∃(l:GrI),l.s=i.s/\l.id=(zT a.s a.b).fst.id/\l.why=26/\zGo i l) (∃(l:EnI),l.c.kind=(zT a.s a.b).fst.kind/\l.c.id=(zT a.s a.b).fst.id/\l.c.inst=(zT a.s a.b).fst.inst/\l.c.side=(zT a.s a.b).fst.side/\l.c.price=(zT a.s a.b).fst.price/\l.c.qty=(zT a.s a.b).fst.qty/\l.c.least=(zT a.s a.b).fst.least/\l.c.time=(zT a.s a.b).fst.time/\sb l.c.label=sb (zT a.s a.b).fst.label/\qT l.m=qT i.g.m/\((l.m.Rep l.p l.B l.U/\BOk l.p l.B)/\l.c.label.length<=140737488355328/\((-9223372036854775808)<=l.c.qty/\l.c.qty<=9223372036854775807)/\l.X=doF l.p l.B l.U l.c)/\∀(m:Mkt),m.Rep l.p l.X.B l.X.U->∃(n:GdJ),(↑n.k:Int)=0/\qT n.o=qT m/\xH n.W=xH i.g.W/\av jH n.O=[]/\∃(p:GdJ->Prop),∃(q:GdJ->Nat),p n/\∀(r:GdJ),p r->cnd (decide ((↑r.k:Int)<(↑(av xU l.X.R).length:Int))) ((0<=(↑r.k:Int)/\(↑r.k:Int)<(↑(av xU l.X.R).length:Int))/\∃(s:Int),∃(t:Int),∃(u:Int),∃(v:Int),∃(w:Int),∃(x:Int),∃(y:Int),∃(z:Int),zE (av xU l.X.R) (↑r.k:Int).toNat 0 8=az [dI s,dI t,dI u,dI v,dI w,dI x,dI y,dI z]/\cnd (s==1) ((∀(a_1:ao×List D),a_1∈xH r.W->like (ak aj t) a_1.fst=au)/\(∀(a_1:ao×List D),a_1∈hP (ak aj t) [dI i.s] (xH r.W)->like (ak aj t) a_1.fst=au)/\∃(a_1:Bool),∃(a_2:Int),(kW (ak aj t) (lW t i r)=az [dI a_2]/\a_1=au\/kW (ak aj t) (lW t i r)=ba/\[dI a_2]=[dI 0]/\a_1=ar)/\∃(a_3:Int),∃(a_4:Int->Prop),cnd (s==2) (∃(a_5:Int),a_5=i.s/\zXd a_4 a_5 s t u v w x y z r i l a) (∃(a_5:Int),a_5=a_2/\zXd a_4 a_5 s t u v w x y z r i l a)/\∀(a_5:Int),a_4 a_5->((av jH r.O).length+1)*(72:Nat)<=(140737488355328:Nat)/\∃(a_6:GdJ),(↑a_6.k:Int)=aj.wrap ((↑r.k:Int)+1)/\qT a_6.o=qT r.o/\xH a_6.W=hP (ak aj t) [dI i.s] (xH r.W)/\zWr a_6 r a_5 s t u v w x y z p q l a) ((∀(a_1:ao×List D),a_1∈xH r.W->like (ak aj t) a_1.fst=au)/\∃(a_1:Bool),∃(a_2:Int),(kW (ak aj t) (xH r.W)=az [dI a_2]/\a_1=au\/kW (ak aj t) (xH r.W)=ba/\[dI a_2]=[dI 0]/\a_1=ar)/\∃(a_3:Int),∃(a_4:Int->Prop),cnd (s==2) (∃(a_5:Int),a_5=i.s/\zVf a_4 a_5 s t u v w x y z r l a) (∃(a_5:Int),a_5=a_2/\zVf a_4 a_5 s t u v w x y z r l a)/\∀(a_5:Int),a_4 a_5->((av jH r.O).length+1)*(72:Nat)<=(140737488355328:Nat)/\∃(a_6:GdJ),(↑a_6.k:Int)=aj.wrap ((↑r.k:Int)+1)/\qT a_6.o=qT r.o/\xH a_6.W=xH r.W/\zWr a_6 r a_5 s t u v w x y z p q l a)) (∃(s:Mkt),qT s=qT r.o/\xH i.X.W=xH r.W/\av jH i.X.O=av jH r.O/\s.Rep i.p i.X.B i.X.U))))
def yQw:clUsC.ok Tryz.prog 110:=yYk (gokc (zAk _) gok0) λes _=>by
 unfold yGr;refine⟨es,?_⟩;exact kp
def yXs {s:MSt} {p:Prd} {B:List (List zH)} (h:s.Rep p B):s.wh.length=zWb B:=by rw[zWb];exact h.wh.length_eq
def z3c:∀{B:List (List zH)} (n:Nat),(∀L∈B,L.length<=250)->(whL n B).length<=250*B.length
 |[],_,_=>y8w _
 |L::B,n,h=>by
  have:=z3c (B:=B) (n+1) λx hx=>h x (y8i _ hx)
  have:=h L y8h;rw[whL,y8a,y8b,y8f];omega
def yQd:midsC.ok Tryz.prog 136:=okw (V:=y1n) mixed (gokc yLc gok0) 0 (λ_=>[]) (λ_=>[]) [0] Tryz.func136 λ(i:MkB) h=>by
 obtain⟨⟨ep,hR,eu⟩,hB⟩:i.m.Rep i.p i.B i.U/\BOk i.p i.B:=h;have hl:i.m.s.wh.length<=1000000:=by
  have hwf:=hR.wf hB;have h1:=z3c (B:=i.B) 0 λL hL=>by
   obtain⟨k,hk⟩:=xAr.1 hL;exact(hwf.od k L hk).2.2
  have:=hB.bl;have:=xJ i.p;rw[yXs hR,zWb];omega
 exact⟨i.m.s,rfl,hl,λo ho=>⟨o,rF8 (rF3 ⟨rfl,k0q,rfl,ho.trans (hR.wh.map _)⟩)⟩⟩
def zYw:mcopyC.ok Tryz.prog 55:=okw (V:=yUn) mixed (gokc eN (gokc yQw gok0)) 0 (λ_=>[]) (λ_=>[]) [0] Tryz.func55 λ(i:MkB) h=>by
 obtain⟨⟨ep,hR,eu⟩,hB⟩:i.m.Rep i.p i.B i.U/\BOk i.p i.B:=h;have hs:=hR.small hB;exact⟨i.m.s,rfl,hs,λ_ _=>⟨trivial,k0q,zU i.m.used,rfl,trivial,λ_ _=>⟨k0q,(),k0q⟩⟩⟩
def yMw:newGC.ok Tryz.prog 47:=okw (V:=y4p) mixed (gokc yOf gok0) 0 (λ_=>[]) (λ_=>[]) [] Tryz.func47 λ(p:Prd) h=>by
 refine⟨p,rF7 (rF3 ⟨rfl,h,λ_ c=> .inl ⟨(),rF3 c⟩,λ_ c=>Cv.cnd.mk (λe=> .inr ⟨(),trivial,rfl,c⟩) (λe=>absurd (by simpa using e) c)⟩)⟩
def yPi:grejC.ok Tryz.prog 96:=okw (V:=y4e) mixed gok0 0 (λ_=>[]) (λ_=>[]) [] Tryz.func96 λ(i:GrI) h=>⟨(),rfl,trivial⟩
def z2k:greadC.ok Tryz.prog 95:=okw (V:=yVy) mixed (gokc yPw gok0) 0 (λ_=>[]) (λ_=>[]) [] Tryz.func95 λ(i:SbI) h=>by
 have h:i.b.length<=1099511627776:=h;have hbad:i.s<0\/8<=i.s->zT i.s i.b=(zVb,1):=λe=>y8c e
 refine zI (λe=> ?_) (λe=>zI (λe2=> ?_) (λe2=> ?_))
 ·rw[hbad (.inl e)];exact⟨(),rF7 (rF3 trivial)⟩
 ·rw[hbad (.inr e2)];exact⟨(),rF7 (rF3 trivial)⟩
 ·have hg:zT i.s i.b=xN i.b:=y7z oM;rw[hg];exact⟨i.b,rfl,h,λ_ _=>⟨(),rF7 (rF3 trivial)⟩⟩
def eD (id:Int) (W:List (Int×Int)):∀p∈xH W,like (ak aj id) p.1=au:=by
 intro p hp;obtain⟨k,_,rfl⟩:=y9m.1 hp;rfl
def zZt (id s:Int):∀W:List (Int×Int),hP (ak aj id) [D.v (.int .i64 s)] (xH W)=xH (z1t W id s)
 |[]=>rfl
 |x::W=>by
  have ih:=zZt id s W;have e:bW (ak aj id) (ak aj x.1)=decide (id=x.1):=by simp[bW,keq]
  show(bif bW (ak aj id) (ak aj x.1)then(ak aj x.1,[D.v (.int .i64 s)])::xH W else(ak aj x.1,[D.v (.int .i64 x.2)])::hP (ak aj id) [D.v (.int .i64 s)] (xH W))=_;rw[e,ih,z1t];by_cases c:id=x.1
  ·rw[y8r c,cond_true,y8c c];rfl
  ·rw[y8n c,cond_false,y7z c];rfl
def zFc (id:Int):∀W:List (Int×Int),kW (ak aj id) (xH W)=az [D.v (.int .i64 (dH W id).1)]/\(dH W id).2=au\/kW (ak aj id) (xH W)=ba/\[D.v (.int .i64 (dH W id).1)]=[D.v (.int .i64 0)]/\(dH W id).2=ar
 |[]=> .inr ⟨rfl,rfl,rfl⟩
 |x::W=>by
  have ih:=zFc id W;have e:bW (ak aj id) (ak aj x.1)=decide (id=x.1):=by simp[bW,keq]
  have e2:kW (ak aj id) (xH (x::W))=bif bW (ak aj id) (ak aj x.1)then az [D.v (.int .i64 x.2)]else kW (ak aj id) (xH W):=rfl
  rw[e2,e,yHn];by_cases c:id=x.1
  ·rw[y8r c,cond_true,y8c c];exact .inl ⟨rfl,rfl⟩
  ·rw[y8n c,cond_false,y7z c];exact ih
def gmkt_ok:gmktC.ok Tryz.prog 22:=okw (V:=y2t) mixed (gokc zYw gok0) 0 (λ_=>[]) (λ_=>[]) [0] Tryz.func22 λ(i:GtI) h=>⟨⟨i.g.m,i.p,i.B,i.U⟩,rfl,h,λ_ _=>⟨(),rF3 trivial⟩⟩
def yWj {l:List Int} {k:Nat} {n:Int} {f:Int->Bool} (h:l[k]? =az n):(l.take (k+1)).countP f=(l.take k).countP f+if f n then 1 else 0:=by
 rw[y9g,h,List.countP_append];simp[List.countP_cons]
def yJm (W:List (Int×Int)) (B:List (List zH)) (s:Int) (l:List Int) (h:l.Perm ((whL 0 B).map (·.1))):(zKt B W s:Int)=l.countP λx=>decide ((dH W x).1=s):=by
 rw[h.countP_eq,List.countP_map];rfl
def yDk {l:List Int} {W:List (Int×Int)} {s:Int} (hl:l.length<=1000000):∀{k:Nat} {n:Int},l[k]? =az n->aj.wrap (((l.take k).countP λx=>decide ((dH W x).1=s):Nat)+1:Int)=((l.take k).countP λx=>decide ((dH W x).1=s):Nat)+1:=by
 intro k n h;have:=List.countP_le_length (p:=λx=>decide ((dH W x).1=s)) (l:=l.take k);rw[y8t]at this;exact w64 oM
def yRu {p:Prd} {B:List (List zH)} (h:BWf p B) {l:List Int} (hl:l.Perm ((whL 0 B).map (·.1))):l.length<=1000000:=by
 have h1:=z3c (B:=B) 0 λL hL=>by
  obtain⟨k,hk⟩:=xAr.1 hL;exact(h.od k L hk).2.2
 have:=h.ok.bl;have:=xJ p;have:=hl.length_eq;rw[y8b]at this;omega
def yWl (i:GtI) (h:gopenC.cnd i):yKj i:=by
 obtain⟨⟨m,W⟩,p,B,U,s⟩:=i;have h:m.Rep p B U/\BOk p B:=h;unfold yKj zCz dI;dsimp only;refine⟨⟨m,p,B,U⟩,rfl,h,λl hl=> ?_⟩;have hle:=yRu (h.1.s.wf h.2) hl;refine⟨(0,0),rfl,rfl,λj=>j.2<=l.length/\j.1=((l.take j.2).countP λx=>decide ((dH W x).1=s):Nat),λj=>l.length-j.2,⟨y9c _,rfl⟩,?_⟩;rintro⟨n,k⟩ ⟨j1,j2⟩;dsimp only at j1 j2 ⊢;subst j2;refine zI (λe=> ?_) (λe=> ?_)
 ·rw[yZ]at e;obtain⟨x,hx⟩:=yC (l:=l) (i:=k) oM;have hc:=yWj (f:=λx=>decide ((dH W x).1=s)) hx;refine⟨⟨oM,by rw[yZ];exact e⟩,x,elA hx (by simp) rfl,eD _ _,_,_,zFc x W,Cv.cnd.mk (λe2=>⟨(_,k+1),(yDk hle hx).symm,wjn oM,⟨Z9,?_⟩,Z9,k0q⟩) (λe2=>⟨(_,k+1),rfl,wjn oM,⟨Z9,?_⟩,Z9,k0q⟩)⟩
  ·have e2:(dH W x).1=s:=by simpa using e2
   dsimp only;rw[hc,y8r e2];rfl
  ·have e2:¬(dH W x).1=s:=by simpa using e2
   dsimp only;rw[hc,y8n e2];rfl
 ·rw[yZ]at e;have hk:l.take k=l:=y8l oM;rw[hk];exact⟨(),yJm W B s l hl,rfl,rfl,trivial⟩
def yDh:gopenOC.ok Tryz.prog 97:=okw (V:=yQe) mixed (gokc yQd gok0) 0 (λ_=>[]) (λ_=>yVc) [] Tryz.func97 λ(i:GtI) h=>yWl i h
def yDp {b:List UInt8} (h:(xN b).2=0):(xN b).1.right=0:=by
 rw[xN]at h ⊢;dsimp only at h ⊢;split at h
 ·cases h
 ·rename_i h1;rw[y7z h1];split at h
  ·cases h
  ·rename_i h2;rw[y7z h2];split at h
   ·rename_i h3;exact absurd h h3
   ·rename_i h3;rw[y7z h3];simpa using h3
def zPc (n:Int):i64r (aj.wrap n):=by
 rw[IntKind.wrap];simp only[IntKind.bits,IntKind.signed];simp;omega
def z8o:i64r 0:=⟨Z8,Z8⟩
def yWg (k id:Int) (r:RB):i64r (x7 k id r).1.qty:=by
 rw[x7];split
 ·exact zPc _
 split
 ·exact zPc _
 split
 ·exact zPc _
 ·exact z8o
def yNo (b:List UInt8):i64r (xN b).1.qty:=by
 rw[xN];dsimp only;split
 ·exact z8o
 split
 ·exact z8o
 split
 ·exact z8o
 ·exact yWg _ _ _
def yPh {p:Prd} {B:List (List zH)} (h:BWf p B) (U:List Int) (c:Cmd):(doF p B U c).R.length<=1503000003:=by
 have hbl:=h.ok.bl;have hrj:∀w,(nI c w).length<=1503000003:=λw=>by simp[nI]
 rw[doF];split
 ·exact hrj _
 rename_i hr;have hr:c.right=0:=by simpa using hr
 split
 ·rename_i hk;obtain⟨_,hq,_⟩:=zTe hr hk;rw[nJ];split
  ·exact hrj _
  rename_i hp;have hp:p.price c.inst c.price=0:=by simpa using hp
  have hin:=zQv hp;split
  ·exact hrj _
  split
  ·exact hrj _
  split
  ·exact hrj _
  split
  ·exact hrj _
  have:=zDw h U (c:=c) oM hq;omega
 rename_i hk;split
 ·exact hrj _
 rename_i hf;have hf:(zR B c.id).2.2=au:=by simpa using hf
 have hf:zR B c.id=((zR B c.id).1,(zR B c.id).2.1,au):=by rw[<- hf]
 obtain⟨hin,_⟩:=zVl h hf;split
 ·rename_i h4;have hq:=zHg hr hk oM;rw[dD];split
  ·exact hrj _
  split
  ·simp[bN]
  split
  ·exact hrj _
  have:=zDw (h.take c.id (zR B c.id).2.1.qty) U (c:=⟨1,c.id,(zR B c.id).1,(zR B c.id).2.1.side,c.price,c.qty,0,1,[]⟩) (by dsimp only;rw[nO];exact hin) hq;dsimp only;rw[y8a];have e1:(uR B U c.id (zR B c.id).1 (zR B c.id).2.1).R.length=1:=rfl;have e2:(uR B U c.id (zR B c.id).1 (zR B c.id).2.1).B=(kU B c.id (zR B c.id).2.1.qty).1:=rfl;rw[e1,e2];omega
 split
 ·simp[uR]
 ·simp[bN]
def yNp {b:List UInt8} (h:b.length<=1099511627776):(xN b).1.label.length<=255:=by
 have h0:(RB.mk b ar).ok:=h;rw[xN];dsimp only;split
 ·exact y9c _
 split
 ·exact y9c _
 split
 ·exact y9c _
 ·exact(yUh (qY (vY h0))).2
def zTt (p:Prd) (B:List (List zH)) (U:List Int) (W:List (Int×Int)) (s:Int) (b:List UInt8):lO p B U W s b=if(zT s b).2≠0 then yBx B U W s 0 (zT s b).2 else z0d p B U W s (zT s b).1:=by
 rw[lO,zT];by_cases c:s<0\/8<=s
 ·rw[y8c c,y8c c];rfl
 ·rw[y7z c,y7z c]
def yZc {s:Int} {b:List UInt8} (hb:b.length<=1099511627776) (h:(zT s b).2=0):(zT s b).1.right=0/\i64r (zT s b).1.qty/\(zT s b).1.label.length<=255:=by
 rw[zT]at h ⊢;split at h
 ·cases h
 ·rename_i c;rw[y7z c];exact⟨yDp h,yNo b,yNp hb⟩
def wjN {j:Nat} (h:(j:Int)<=9223372036854775806):((j+1:Nat):Int)=aj.wrap ((j:Int)+1):=by rw[w64 (by omega)];rfl
def y6a (i:GdI) (h:gdoC.cnd i):y4k i:=by
 obtain⟨⟨m,W⟩,p,B,U,s,b,X⟩:=i;obtain⟨hMB,hb,hX⟩:(m.Rep p B U/\BOk p B)/\b.length<=1099511627776/\X=lO p B U W s b:=h;rw[zTt]at hX;have hc:= @yZc s b hb;unfold y4k zXg zLs zWr zVf zXd zWd zYa mB aV aL aP mA mE aJ mH zFr aX lW zGo dI;dsimp only;generalize hrd:zT s b=y at hX hc;obtain⟨c,why⟩:=y;dsimp only at hX hc;refine⟨⟨s,b⟩,rfl,rfl,hb,λ_ _=> ?_⟩;dsimp only;rw[hrd];dsimp only;refine Cv.cnd.mk (λe=> ?_) (λe=>⟨eD _ _,_,_,zFc c.id W,au,λx=>x=decide (c.kind=1/\64<=zKt B W s),Cv.cnd.mk (λe1=>⟨⟨⟨m,W⟩,p,B,U,s⟩,rfl,rfl,rfl,hMB,λ_ _=>⟨_,rfl,?_,k0q⟩⟩) (λe1=>⟨ar,rfl,?_,k0q⟩),?_⟩)
 ·have e:why≠0:=by simpa using e
  rw[y8c e]at hX;subst hX;exact⟨⟨s,0,why⟩,rfl,rfl,rfl,trivial,λ_ _=>⟨m,rF3 hMB.1⟩⟩
 ·have e1:c.kind=1:=by simpa using e1
  dsimp only;rw[decide_eq_decide];exact⟨λx=>⟨e1,oM⟩,λx=>by have:=x.2;omega⟩
 ·have e1:¬c.kind=1:=by simpa using e1
  exact(y8n λx=>e1 x.1).symm
 have e:why=0:=by simpa using e
 obtain⟨hr,hq,hlab⟩:=hc e;rw[y7z (by rw[e];decide),z0d]at hX;rintro _ rfl;refine zI (λe1=> ?_) (λe1=> ?_)
 ·rw[y8c e1]at hX;subst hX;exact⟨⟨s,c.id,30⟩,rfl,rfl,rfl,trivial,λ_ _=>⟨m,rF3 hMB.1⟩⟩
 rw[y7z e1]at hX;refine⟨au,λx=>x=decide (c.kind≠1/\((dH W c.id).2=ar\/(dH W c.id).1≠s)),Cv.cnd.mk (λe2=>Cv.cnd.mk (λe3=>⟨au,rfl,?_,k0q⟩) (λe3=>⟨_,rfl,?_,k0q⟩)) (λe2=>⟨ar,rfl,?_,k0q⟩),?_⟩
 ·have e2:¬c.kind=1:=by simpa using e2
  exact(y8r ⟨e2,.inl (by simpa using e3)⟩).symm
 ·have e2:¬c.kind=1:=by simpa using e2
  have e3:(dH W c.id).2=au:=by simpa using e3
  show((dH W c.id).1 !=s)=decide (c.kind≠1/\((dH W c.id).2=ar\/(dH W c.id).1≠s));rw[xCv,y9o,bne_iff_ne];exact⟨λx=>⟨e2,.inr x⟩,λx=>x.2.resolve_left (by rw[e3];decide)⟩
 ·have e2:c.kind=1:=by simpa using e2
  exact(y8n λx=>x.1 e2).symm
 rintro _ rfl;refine zI (λe2=> ?_) (λe2=> ?_)
 ·rw[y8c e2]at hX;subst hX;exact⟨⟨s,c.id,26⟩,rfl,rfl,rfl,trivial,λ_ _=>⟨m,rF3 hMB.1⟩⟩
 rw[y7z e2]at hX;have hlen:=yPh (hMB.1.s.wf hMB.2) U c;refine⟨⟨m,p,B,U,c,doF p B U c⟩,rF6 (rF3 ⟨rfl,⟨hMB,xAw hlab Z8,hq,rfl⟩,λo ho=> ?_⟩)⟩;dsimp only at ho ⊢;generalize doF p B U c=Y at hX ho hlen ⊢;obtain⟨YB,YU,R⟩:=Y;dsimp only at hX ho hlen ⊢;subst hX;have e4:(R.map xU).length=R.length:=y8b ..;refine⟨⟨o,W,[],0⟩,rF3 ⟨rfl,λj=>j.o=o/\j.k<=R.length/\j.O.length=j.k/\(eL s W R).1=(eL s j.W (R.drop j.k)).1/\(eL s W R).2=j.O++(eL s j.W (R.drop j.k)).2,λj=>R.length-j.k,⟨rfl,y9c _,rfl,rfl,rfl⟩,?_⟩⟩;rintro⟨o',W',O,k⟩ ⟨j1,j2,j3,j4,j5⟩;dsimp only at j1 j2 j3 j4 j5 ⊢;subst j1;have e5:(O.map jH).length=O.length:=y8b ..;refine zI (λe6=> ?_) (λe6=> ?_)
 ·obtain⟨r,hr'⟩:=yC (l:=R) (i:=k) oM;have hd:R.drop k=r::R.drop (k+1):=by rw[xAe (by omega),(y8e.1 hr').2]
  rw[hd,eL]at j4 j5;dsimp only at j4 j5;refine⟨⟨oM,e6⟩,r.kind,r.id,r.inst,r.side,r.price,r.qty,r.left,r.why,elA hr' (by simp[xU]) rfl,Cv.cnd.mk (λe7=>⟨eD _ _,?_⟩) (λe7=>⟨eD _ _,_,_,zFc r.id W',?_⟩)⟩
  ·have e7:r.kind=1:=by simpa using e7
   rw[zZt];rw[y8c e7]at j4 j5;refine⟨eD _ _,_,_,zFc r.id (z1t W' r.id s),0,λx=>x=if r.kind=2 then s else(dH (z1t W' r.id s) r.id).1,Cv.cnd.mk (λe8=>⟨_,rfl,(y8c (by simpa using e8)).symm,k0q⟩) (λe8=>⟨_,rfl,(y7z (by simpa using e8)).symm,k0q⟩),?_⟩;rintro _ rfl;exact⟨oM,⟨o',z1t W' r.id s,O++[(if r.kind=2 then s else(dH (z1t W' r.id s) r.id).1,r)],k+1⟩,wjN oM,rfl,rfl,by rw[y8k];rfl,⟨rfl,Z9,by rw[y8a];dsimp only;rw[j3];rfl,j4,by rw[j5];simp⟩,Z9,k0q⟩
  ·have e7:¬r.kind=1:=by simpa using e7
   rw[y7z e7]at j4 j5;refine⟨0,λx=>x=if r.kind=2 then s else(dH W' r.id).1,Cv.cnd.mk (λe8=>⟨_,rfl,(y8c (by simpa using e8)).symm,k0q⟩) (λe8=>⟨_,rfl,(y7z (by simpa using e8)).symm,k0q⟩),?_⟩;rintro _ rfl;exact⟨oM,⟨o',W',O++[(if r.kind=2 then s else(dH W' r.id).1,r)],k+1⟩,wjN oM,rfl,rfl,by rw[y8k];rfl,⟨rfl,Z9,by rw[y8a];dsimp only;rw[j3];rfl,j4,by rw[j5];simp⟩,Z9,k0q⟩
 ·have hk:R.drop k=[]:=List.drop_of_length_le oM;rw[hk,eL]at j4 j5;dsimp only at j4 j5;rw[y8x]at j5;rw[j4,j5];exact⟨o',rF3 ho⟩
def yHd:gdoC.ok Tryz.prog 41:=okw mixed (gokc z2k (gokc yPi (gokc yDh (gokc y3u gok0)))) 0 (λ_=>y5r) (λ_=>y6n) [0] Tryz.func41 y6a
def y7c {l:List Cmd} {k:Nat} {c:Cmd} (h:l[k]? =az c):zE (l.map cmdE) k 0 9=az [D.v (.int .i64 c.kind),.v (.int .i64 c.id),.v (.int .i64 c.inst),.v (.int .i64 c.side),.v (.int .i64 c.price),.v (.int .i64 c.qty),.v (.int .i64 c.least),.v (.int .i64 c.time),.v (.string (sb c.label))]:=elA h (by simp[cmdE]) rfl
def mk0 (p:Prd):Mkt:=⟨p,mO p,[]⟩
def yPe (p:Prd):(mk0 p).Rep p (List.replicate p.count []) []:=⟨rfl,z6d _,rfl⟩
structure z1s where
 seq:Int
 inst:Int
 side:Int
 price:Int
 qty:Int
 count:Int
 implied:Bool
 deriving DecidableEq
deriving instance DecidableEq for Lv
def yNk (s:Int) (L:List Lv):Prop:=L.Pairwise λa b=>btr s a.price b.price=au
def vW (s:Int):Nat->List Lv->List Lv->List Lv
 |0,_,_=>[]
 |k+1,[],[]=>[]
 |k+1,x::X,[]=>⟨x.price,0,0⟩::vW s k X []
 |k+1,[],y::Y=>y::vW s k [] Y
 |k+1,x::X,y::Y=>if btr s x.price y.price=au then⟨x.price,0,0⟩::vW s k X (y::Y)else if btr s y.price x.price=au then y::vW s k (x::X) Y else(if x=y then[]else[y])++vW s k X Y
def yVo {s x y z:Int} (h:btr s x y=au) (h2:btr s y z=au):btr s x z=au:=by
 rw[btr]at h h2 ⊢;split
 ·rename_i e;rw[y8c e]at h h2;have:=y9i h;have:=y9i h2;exact y8r oM
 ·rename_i e;rw[y7z e]at h h2;have:=y9i h;have:=y9i h2;exact y8r oM
def yNi {s x y:Int} (h:btr s x y=ar) (hne:x≠y):btr s y x=au:=by
 rw[btr]at h ⊢;split
 ·rename_i e;rw[y8c e]at h;have:=xCp h;exact y8r oM
 ·rename_i e;rw[y7z e]at h;have:=xCp h;exact y8r oM
def y6i (L:List Lv):Prop:=∀l∈L,1<=l.qty
def zTf {s:Int}:∀(k:Nat) (A:List Lv),vW s k A A=[]
 |0,_=>rfl
 |k+1,[]=>rfl
 |k+1,x::A=>by
  rw[vW];have:btr s x.price x.price=ar:=by rw[btr];split<;>simp
  rw[y7z (by rw[this];decide),y7z (by rw[this];decide),y8c rfl,zTf k A];rfl
open Classical
def Lv.fit (x:Lv):Prop:=i64r x.price/\i64r x.qty/\i64r x.count
def Sd.fit (s:Sd):Prop:=(∀x∈s.levels,x.fit)/\s.imp.fit
def yGz (v:Vw):Prop:=∀b∈v,b.1.fit/\b.2.fit
def z5s {α:Type}:∀(l:List α) {k:Nat} (h:k<l.length),l.take k++[l[k]]=l.take (k+1)
 |[],_,h=>absurd h (by simp)
 |a::l,0,_=>rfl
 |a::l,k+1,h=>by
  have:=z5s l (k:=k) (by simpa using h);rw[y9l,y9l,<- this];rfl
def yMd {x:Lv} (h:x.fit) (l:List UInt8):RB.lv ⟨x4 x++l,ar⟩=(x,⟨l,ar⟩):=by
 obtain⟨h1,h2,h3⟩:=h;rw[RB.lv,x4,y8g,y8g,cT h1];dsimp only;rw[cT h2];dsimp only;rw[cT h3]
def z8j {L:List Lv} (h:∀x∈L,x.fit) (l:List UInt8):∀k,k<=L.length->RB.lvs ⟨L.flatMap x4++l,ar⟩ k=(L.take k,⟨(L.drop k).flatMap x4++l,ar⟩)
 |0,_=>by simp[RB.lvs]
 |k+1,hk=>by
  have hk':k<L.length:=hk;rw[RB.lvs,z8j h l k (by omega),xAe hk',y9s,y8g];dsimp only;rw[yMd (h _ (List.getElem_mem hk'))];dsimp only;rw[z5s L hk']
def zZe {s:Sd} (h:s.fit) (hl:s.levels.length<=255) (h0:s.has=ar->s.imp=⟨0,0,0⟩) (l:List UInt8):RB.side ⟨nY s++l,ar⟩=((s,au),⟨l,ar⟩):=by
 have hp:RB.part ⟨nY s++l,ar⟩=(s.levels,⟨(if s.has then[lob 1]++x4 s.imp else[lob 0])++l,ar⟩):=by
  have e:nY s++l=lob s.levels.length::(s.levels.flatMap x4++((if s.has then[lob 1]++x4 s.imp else[lob 0])++l)):=by simp[nY,y8g]
  rw[e,RB.part,uN];dsimp only;rw[zEv (by omega),y8s,z8j h.1 _ _ (y8w _),xAx,ax];rfl
 rw[RB.side,hp];dsimp only;cases hh:s.has with
 |true=>
  rw[y8c rfl,y8g];have e:[lob 1]++(x4 s.imp++l)=lob 1::(x4 s.imp++l):=rfl;rw[e,uN];dsimp only;rw[zEv (by omega),y8c rfl,yMd h.2];cases s;cases hh;rfl
 |false=>
  have e:(if ar=au then[lob 1]++x4 s.imp else[lob 0])++l=lob 0::l:=rfl;rw[e,uN];dsimp only;rw[zEv (by omega),y7z (by decide)];have:=h0 hh;cases s;cases hh;cases this;rfl
def zSi {v:Vw} (h:yGz v) (hr:wC v) (l:List UInt8):∀k,k<=v.length->RB.views ⟨v.flatMap qR++l,ar⟩ k=((v.take k,au),⟨(v.drop k).flatMap qR++l,ar⟩)
 |0,_=>by simp[RB.views]
 |k+1,hk=>by
  have hk':k<v.length:=hk;have hm:=List.getElem_mem hk';obtain⟨f1,f2⟩:=h _ hm;obtain⟨⟨_,a1,_,a2⟩,⟨_,b1,_,b2⟩⟩:=hr.1 _ hm;rw[RB.views,zSi h hr l k (by omega),xAe hk',y9s,qR,y8g,y8g];dsimp only;rw[zZe f1 a1 a2];dsimp only;rw[zZe f2 b1 b2];dsimp only;rw[<- z5s v hk'];rfl
def yRi {v:Vw} (h:yGz v) (hr:wC v) {seq:Int} (hs:i64r seq):RB.all ⟨kB v seq,ar⟩=((v,au),⟨[],ar⟩)/\(RB.mk (kB v seq) ar).long.1=seq:=by
 have hl:=hr.2;have e:kB v seq=le seq 8++(lob v.length::v.flatMap qR):=by simp[kB,y8g]
 have e2:RB.long ⟨kB v seq,ar⟩=(seq,⟨lob v.length::v.flatMap qR,ar⟩):=by rw[e,cT hs]
 have e3:RB.head ⟨kB v seq,ar⟩=((v.length:Int),⟨v.flatMap qR,ar⟩):=by
  rw[RB.head,e2];dsimp only;rw[uN,zEv (by omega)]
 refine⟨?_,by rw[e2]⟩;have:=zSi h hr [] v.length (y8w _);rw[y8x,y8x,xAx,ax]at this;rw[RB.all,e3];dsimp only;rw[y8s,this];rfl
def yMh {v:Vw} (hr:wC v) (seq:Int):yG (xQ v seq)=⟨kB v seq,ar⟩/\m9 (xQ v seq):=by
 have hl:(xQ v seq).length-4=(kB v seq).length:=by rw[xQ,y8c hr,y8a,xK];omega
 have h4:4<=(xQ v seq).length:=by rw[xQ,y8c hr,y8a,xK];omega
 have ht:(xQ v seq).take ((xQ v seq).length-4)=kB v seq:=by rw[hl,xQ,y8c hr,xDp]
 have hd:(xQ v seq).drop ((xQ v seq).length-4)=le (fH (kB v seq)) 4:=by rw[hl,xQ,y8c hr,List.drop_left]
 exact⟨by rw[yG,ht],h4,by rw[ht,hd]⟩
def yBl {v:Vw} (h:yGz v) (hr:wC v) {seq:Int} (hs:i64r seq):nX (xQ v seq)=v/\zBx (xQ v seq)=seq/\zEd (xQ v seq)=0:=by
 obtain⟨b1,b2⟩:=yMh hr seq;obtain⟨a1,a2⟩:=yRi h hr hs;have hf:cW (xQ v seq):=by rw[cW,b1,a1];exact⟨rfl,rfl,hr⟩
 refine⟨?_,?_,?_⟩
 ·rw[nX,y8c ⟨b2,hf⟩,b1,a1]
 ·rw[zBx,y8c ⟨b2,hf⟩,b1,a2]
 ·rw[zEd,y8c b2,y8c hf]
structure VM where
 inst:Nat
 side:Int
 l:Lv
 imp:Bool
def lv0:Lv:=⟨0,0,0⟩
def yIq (a b:Sd):Bool:=decide (a.imp≠b.imp)||decide (a.has≠b.has)
def yEb (b:Sd):Lv:=if b.has=au then b.imp else lv0
def wE (n:Nat) (s:Int) (a b:Sd):List VM:=(vW s (a.levels.length+b.levels.length) a.levels b.levels).map (λl=>⟨n,s,l,ar⟩)++if yIq a b=au then[⟨n,s,yEb b,au⟩]else[]
def z7h (n:Nat) (s:Int) (a:Sd):wE n s a a=[]:=by
 rw[wE,zTf];simp[yIq]
def j9 (n:Nat):Vw->Vw->List VM
 |a::A,b::B=>wE n 1 a.1 b.1++wE n 2 a.2 b.2++j9 (n+1) A B
 |_,_=>[]
def z9k:∀(n:Nat) (A:Vw),j9 n A A=[]
 |_,[]=>rfl
 |n,a::A=>by rw[j9,z7h,z7h,z9k];rfl
def z8h {s:Int}:∀{F:List zH},z2h s F->yNk s (grp F)
 |[],_=>List.Pairwise.nil
 |o::F,h=>by
  rw[z2h,xBu]at h;have ih:=z8h h.2;rw[grp];cases hg:grp F with
  |nil=>exact List.pairwise_singleton _ _
  |cons v vs=>
   rw[hg]at ih;dsimp only;have hv:=ih;rw[yNk,xBu]at hv;by_cases e:v.price=o.price
   ·rw[y8c e];exact xBu.2 ⟨λw hw=>hv.1 w hw,hv.2⟩
   ·rw[y7z e];obtain⟨o',r,e2,e3⟩:=zPr hg;have hb:btr s o.price v.price=au:=by
     rw[<- e3];refine yNi (h.1 o' (by rw[e2];exact y8h)) (by rw[e3];exact e)
    refine xBu.2 ⟨λw hw=> ?_,ih⟩;rcases y8v.1 hw with rfl|hw
    ·exact hb
    ·exact yVo hb (hv.1 w hw)
def yRk {p:Prd} {B:List (List zH)} (h:BWf p B) {k:Nat} {L:List zH} (hL:B[k]? =az L) {s:Int} (hs:s=1\/s=2):yNk s (gK L s)/\y6i (gK L s):=
 ⟨z8h (h.srt k L hL s hs),λl hl=>(yBj (λo ho=>(h.od k L hL).1 o (xAa.1 ho).1) hl).1⟩
def dN (l:List Quote) (b:Quote):Int×Int:=l.foldl (λa q=>if q.price=b.price then(if q.qty>a.1 then q.qty else a.1,a.2+1)else a) (b.qty,0)
def qM (l:List Quote) (s:Int):Lv×Bool:=if(zY l s).2 then(⟨(zY l s).1.price,(dN l (zY l s).1).1,(dN l (zY l s).1).2⟩,au)else(⟨0,0,0⟩,ar)
def showC:Con:=con1 BsI (λi=>[roV 6 (i.l.map zJ),zA i.s]) (λ_=>[]) (λi=>(i.s=1\/i.s=2)/\i.l.length<=1000000) (λi=> .tup [zA (qM i.l i.s).1.price,zA (qM i.l i.s).1.qty,zA (qM i.l i.s).1.count,yK (qM i.l i.s).2]) (λ_=>[])
def yXy (i:BsI):List SAnn:=[{ι:=Nat,slots:=λk=>[(8,.nm 0 0),(10,zA (dN (i.l.take k) (zY i.l i.s).1).1),(11,zA (dN (i.l.take k) (zY i.l i.s).1).2),(26,zA k)],rows:=λ_=>[.cells (zWt (zY i.l i.s).1).cl 172]}]
def zHc (p:Prd) (B:List (List zH)) (n:Nat) (s:Int):Sd:=⟨gK (B.getD n []) s,(qM (xL ⟨p,B.map qH,n⟩ s) s).1,(qM (xL ⟨p,B.map qH,n⟩ s) s).2⟩
def yY (p:Prd) (B:List (List zH)):Vw:=(List.range p.count).map λn=>(zHc p B n 1,zHc p B n 2)
structure LkI where
 s:MSt
 p:Prd
 B:List (List zH)
def lookC:Con:=con1 LkI (λi=>[prdV i.p,.nm 0 0]) (λi=>[zC i.s]) (λi=>i.s.Rep i.p i.B/\BOk i.p i.B) (λi=>vwV (yY i.p i.B)) (λi=>[zC i.s])
def yRv (i:LkI):List SAnn:=[
 {ι:=Nat,slots:=λj=>[(5,.nm 0 0),(6,.own 2),(27,zA j)],rows:=λj=>[.cells [.own 1] 71,.own 130 10 (((yY i.p i.B).take j).map zP),.fro 6 ((i.B.map qH).map z7)]},
 {ι:=Unit,slots:=λ_=>[],rows:=λ_=>[],un:=3}]
noncomputable def yHa (a b:List Lv):Bool:=decide (a=b)
noncomputable def yEe (a b:Sd):Bool:=decide (a=b)
noncomputable def zRq (a b:Vw):Bool:=decide (a=b)
structure yPc where
 x:List Lv
 y:List Lv
noncomputable def eqLvC:Con:=con1 yPc (λi=>[roV 3 (i.x.map lvE),roV 3 (i.y.map lvE)]) (λ_=>[]) (λi=>i.x.length<=1099511627776/\i.y.length<=1099511627776) (λi=>yK (yHa i.x i.y)) (λ_=>[])
def y4v:List SAnn:=[{ι:=Nat,slots:=λk=>[(13,zA k)],rows:=λ_=>[]}]
def y1v:List (Nat×SAnn):=[(24,bj 24)]
structure yJk where
 a:Sd
 b:Sd
noncomputable def fsdC:Con:=con1 yJk (λi=>[sdV i.a,sdV i.b]) (λ_=>[]) (λi=>i.a.levels.length<=1099511627776/\i.b.levels.length<=1099511627776) (λi=>yK (yEe i.a i.b)) (λ_=>[])
structure zUt where
 v:Vw
 w:Vw
noncomputable def eqFC:Con:=con1 zUt (λi=>[roV 10 (i.v.map zP),roV 10 (i.w.map zP),.fn 73 [] []]) (λ_=>[]) (λi=>gR i.v/\gR i.w) (λi=>yK (zRq i.v i.w)) (λ_=>[])
def y6k:List SAnn:=[{ι:=Nat,slots:=λk=>[(17,zA k)],rows:=λ_=>[]}]
def y7q:List (Nat×SAnn):=[(28,bj 30)]
noncomputable def fsameC:Con:=con1 zUt (λi=>[vwV i.v,vwV i.w]) (λ_=>[]) (λi=>gR i.v/\gR i.w) (λi=>yK (zRq i.v i.w)) (λ_=>[])
def xP (m:z1s):List D:=[.v (.int .i64 m.seq),.v (.int .i64 m.inst),.v (.int .i64 m.side),.v (.int .i64 m.price),.v (.int .i64 m.qty),.v (.int .i64 m.count),.v (.bool m.implied)]
@[reducible] def zVt:Nat:=154
@[reducible] def yCg (l:List z1s):AObj:= .own zVt 7 (l.map xP)
def wQ (seq:Int):List VM->List z1s
 |[]=>[]
 |m::M=>⟨seq+1,m.inst,m.side,m.l.price,m.l.qty,m.l.count,m.imp⟩::wQ (seq+1) M
structure Dfr where
 seq:Int
 out:List z1s
@[reducible] def DfO (d:Dfr):List AObj:=[.cells [zA d.seq,.own 1] 230,yCg d.out]
@[reducible] def DfP (d:Dfr):List AObj:=[.cells [zA d.seq,.own 2] 230,.gone,yCg d.out]
def Dfr.add (d:Dfr) (M:List VM):Dfr:=⟨d.seq+M.length,d.out++wQ d.seq M⟩
@[reducible] def Dfr.ok (d:Dfr) (n:Nat):Prop:= -4611686018427387904<=d.seq/\d.seq+n<=4611686018427387904/\d.out.length+n<=1000000000
structure DtI where
 d:Dfr
 m:VM
def dtellC:Con:=con1 DtI (λi=>[.nm 0 0,zA i.m.inst,zA i.m.side,lvV i.m.l,yK i.m.imp]) (λi=>DfO i.d) (λi=>i.d.ok 1) (λ_=>tU) (λi=>DfP (i.d.add [i.m]))
structure DsI where
 d:Dfr
 n:Nat
 s:Int
 a:Sd
 b:Sd
def dsideC:Con:=con1 DsI (λi=>[.nm 0 0,zA i.n,zA i.s,sdV i.a,sdV i.b]) (λi=>DfO i.d) (λi=>i.d.ok (i.a.levels.length+i.b.levels.length+1)) (λ_=>tU) (λi=>DfP (i.d.add (wE i.n i.s i.a i.b)))
structure DsJ where
 x:List Lv
 y:List Lv
 M:List VM
def yVi (i:DsI):List SAnn:=[{ι:=DsJ,slots:=λj=>[(0,.nm 0 0),(10,roV 3 (j.x.map lvE)),(11,roV 3 (j.y.map lvE))],rows:=λj=>DfO (i.d.add j.M)}]
def y5x:SAnn:={ι:=Dfr,slots:=λ_=>[(0,.nm 0 0)],rows:=λd=>DfO d,slots0:=λ_=>[(0,.nm 0 0)],rows0:=λd=>DfO d}
def lvT (t:Nat):SAnn:={ι:=Lv,slots:=λ_=>[(t,.nm 0 0)],rows:=λl=>[.cells [zA l.price,zA l.qty,zA l.count] 127],slots0:=λ_=>[(t,.nm 0 0)],rows0:=λl=>[.cells [zA l.price,zA l.qty,zA l.count] 127]}
def yYf:List (Nat×SAnn):=[(24,bj 41),(36,bj 73),(12,bj 29),(14,y5x),(48,bj 109),(58,lvT 12)]
structure DvI where
 v:Vw
 w:Vw
 seq:Int
def Vw.levs (v:Vw):Nat:=(v.map λb=>b.1.levels.length+b.2.levels.length).sum
def diffC:Con:=con1 DvI (λi=>[vwV i.v,vwV i.w,zA i.seq]) (λ_=>[]) (λi=>i.v.length=i.w.length/\(-4000000000000000000<=i.seq/\i.seq<=4000000000000000000)/\Vw.levs i.v<=100000000/\Vw.levs i.w<=100000000/\i.v.length<=1000000) (λ_=> .own 0) (λi=>[yCg (wQ i.seq (j9 0 i.v i.w))])
def y1t (i:DvI):List SAnn:=[
 {ι:=Nat,slots:=λj=>[(7,.nm 0 0),(24,zA j)],rows:=λj=>DfO (Dfr.add ⟨i.seq,[]⟩ (j9 0 (i.v.take j) (i.w.take j)))},
 {ι:=Unit,slots:=λ_=>[],rows:=λ_=>[],un:=3}]
end Sx
