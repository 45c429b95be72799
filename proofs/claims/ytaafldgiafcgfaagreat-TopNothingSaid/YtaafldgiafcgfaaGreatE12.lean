/- Texts of ours. No condition. -/
import Derived.Maps.RangeRun
import Derived.Test.YtaafldgiafcgfaaGreatE11
set_option linter.all false
open Sx.AObj renaming cells->aa,map->ab,adt->ac,fro->ae,own->af,objs->ag
open Go.IntKind renaming i64->aj
open Go.Value renaming int->ak
open Go renaming MapEntry->am,Value->ao,TypeId->ap,World->aq
open List renaming map->ar,map_singleton->au,length->av
open Bool renaming true->aw,false->ax
open Option renaming some->ay,none->az
open List.Perm renaming swap->ba,cons->bc
namespace Sx
set_option maxRecDepth 100000
open Go Cv Go.Proofs
def upd (f:Int->Int) (k v:Int):Int->Int:=λx=>if x=k then v else f x
def one (r:Rep) (m:Int):Int:=if r.kind=3/\r.inst=m then(if r.side=1 then r.qty else-r.qty)else 0
def vq (p:Prd) (k s q m:Int):Int:=
 if(p.legs k).2.2=aw then(if(p.legs k).1=m then(if s=1 then q else-q)else 0)-(if(p.legs k).2.1=m then(if s=1 then q else-q)else 0)
 else if k=m then(if s=1 then q else-q)else 0
def z0z {B:List (List zH)} {id:Int} (h:(zK B id).2.2=aw):∃(k:Nat) (L:List zH),(zK B id).1=k/\B[k]? =ay L/\(zK B id).2.1∈L/\(zK B id).2.1.id=id:=by
 rw[zK]at h ⊢;split at h
 ·cases h
 ·rename_i k hk;obtain⟨L,hL,hh⟩:=wX hk;obtain⟨o,ho,e⟩:=y7j.1 (hasId_iff.1 hh);refine⟨k,L,rfl,hL,?_⟩;dsimp only;rw[zT hL,fZ];cases hf:L.find? λo=>decide (o.id=id)with
  |none=>exact absurd e (by simpa using List.find?_eq_none.1 hf o ho)
  |some y=>exact⟨xBl hf,by simpa using List.find?_some hf⟩
def zSb {p:Prd} (hc:p.check=0):1<=p.count/\p.count<=21:=by
 have h1:=zFc hc;have h2:=(kI hc).m2;have h3:=xL p;omega
def yOq (c:Cmd):1<=vX c/\vX c<=4:=by
 have:=yT (n:=c.kind) (lo:=0) (hi:=8) oM;rw[vX];split<;>omega
def yBt (t:TmI):(xE t).kind=vX t.c:=by
 rw[xE];split<;>rfl
def yLf (t:TmI):1<=(xE t).qty/\(xE t).qty<=12:=by
 have:=yT (n:=t.c.qty) (lo:=0) (hi:=11) oM;have e:(xE t).qty=1+zF t.c.qty 0 11:=by rw[xE];split<;>rfl
 omega
def zCb (t:TmI):(xE t).label=[]:=by
 rw[xE];split<;>rfl
def zZx (x:Prd) (c:Cmd) (i:Int) (hk:vX c=1):let y:=xE ⟨kprod x,c,i⟩
 (0<=y.inst/\y.inst<(kprod x).count)/\(y.side=1\/y.side=2)/\(1<=y.time/\y.time<=3)/\(0<=y.least/\y.least<=y.qty)/\(-2000000<=y.price/\y.price<=2000000)/\(kprod x).price y.inst y.price=0:=by
 have hc:=m4 x;have hcb:=zSb hc;have ht:=zEw x;have wi:=yT (n:=c.inst) (lo:=0) (hi:=((kprod x).count:Int)-1) oM;have ws:=yT (n:=c.side) (lo:=0) (hi:=1) oM;have wq:=yT (n:=c.qty) (lo:=0) (hi:=11) oM;have wp:=yT (n:=c.price) (lo:=0) (hi:=9) oM;have ww:=yT (n:=x.wide) (lo:=0) (hi:=60) oM;have wl:=yT (n:=c.least) (lo:=0) (hi:=1+zF c.qty 0 11) oM;have hm:=eG (a:=zU x) (b:=zF c.price 0 9) (m:=zU x) (n:=9) oM wp;have hw:=eG (a:=zU x) (b:=zF x.wide 0 60) (m:=zU x) (n:=60) oM ww;have hh:(yZ ⟨kprod x,c,i⟩).kind=1:=hk;have e:xE ⟨kprod x,c,i⟩={yZ ⟨kprod x,c,i⟩with id:=i+1,time:=fQ c,least:=cA c (1+zF c.qty 0 11),price:=if((kprod x).legs (zF c.inst 0 ((kprod x).count-1))).2.2=aw then zU x*zF c.price 0 9-4*zU x else zU x*zF c.price 0 9+8*zU x}:=by
  rw[xE,y6a hh];rfl
 intro y;have ey:y=_:=e;rw[ey];have htm:1<=fQ c/\fQ c<=3:=by rw[fQ];split;omega;split<;>omega
 have hle:0<=cA c (1+zF c.qty 0 11)/\cA c (1+zF c.qty 0 11)<=1+zF c.qty 0 11:=by rw[cA];split<;>omega
 refine⟨⟨wi.1,by show zF c.inst 0 ((kprod x).count-1)<_;omega⟩,by show 1+zF c.side 0 1=1\/1+zF c.side 0 1=2;omega,htm,hle,?_,?_⟩
 ·dsimp only;split<;>omega
 ·dsimp only;show(kprod x).price (zF c.inst 0 ((kprod x).count-1)) _=0;obtain⟨k,hk2⟩:∃k:Nat,zF c.inst 0 (((kprod x).count:Int)-1)=k:=⟨(zF c.inst 0 (((kprod x).count:Int)-1)).toNat,oM⟩
  rw[hk2]at wi ⊢;have hkc:k<(kprod x).count:=by omega
  have et:(kprod x).tick=zU x:=rfl;have el:(kprod x).low= -20*zU x:=rfl;have eh:(kprod x).high=100*zU x:=rfl;have ew:(kprod x).wide=zU x*(5+zF x.wide 0 60):=rfl;rw[Int.mul_add]at ew;rw[Prd.price,y5x (by omega),y5x (by omega),et,el,eh,ew];rcases g9 hc hkc with⟨h1,_⟩|⟨h1,h2⟩
  ·have hge:((kprod x).months.length:Int)<=k:=by
    rcases y8h k (kprod x).months.length with y|y
    ·rw[Prd.legs,y5x (by omega),y6a (by omega)]at h1;cases h1
    ·omega
   rw[y6a h1,y6a hge,y6a hge,y5x,y5x (by omega)];have:zU x*zF c.price 0 9-4*zU x=zU x*(zF c.price 0 9-4):=by rw[Int.mul_sub,xAi 4]
   rw[this,lP];decide
  ·have hlt:¬((kprod x).months.length:Int)<=k:=by omega
   rw[y5x (show ¬((kprod x).legs k).2.2=aw by rw[h1];decide),y5x hlt,y5x hlt,y5x,y5x (by omega)];have:zU x*zF c.price 0 9+8*zU x=zU x*(zF c.price 0 9+8):=by rw[Int.mul_add,xAi 8]
   rw[this,lP];decide
def zMd (x:Prd) (c:Cmd) (i:Int): -2000000<=(xE ⟨kprod x,c,i⟩).price/\(xE ⟨kprod x,c,i⟩).price<=2000000:=by
 have ht:=zEw x;have wp:=yT (n:=c.price) (lo:=0) (hi:=9) oM;have hm:=eG (a:=zU x) (b:=zF c.price 0 9) (m:=zU x) (n:=9) oM wp;have et:(kprod x).tick=zU x:=rfl;by_cases h1:vX c=1
 ·obtain⟨_,_,_,_,h,_⟩:=zZx x c i h1;exact h
 ·have hh:¬(yZ ⟨kprod x,c,i⟩).kind=1:=h1;have e:(xE ⟨kprod x,c,i⟩).price=if(yZ ⟨kprod x,c,i⟩).kind=4 then zU x*zF c.price 0 9+5*zU x else zU x*zF c.price 0 9:=by rw[xE,y5x hh];rfl
  rw[e];split<;>omega
def z2u (x:Prd) (c:Cmd) (i id:Int) (hid:1<=id/\id<=1099511627776):Cmd.right {xE ⟨kprod x,c,i⟩with id:=id}=0:=by
 have hk:=yOq c;have hq:=yLf ⟨kprod x,c,i⟩;have hp:=zMd x c i;have hcb:=zSb (m4 x);rw[Cmd.right];dsimp only;rw[yBt];dsimp only;rw[y5x (by omega),y5x (by omega)];have q1:qQ (xE ⟨kprod x,c,i⟩).qty=aw:=by rw[qQ,y6p (by omega),y6p (by omega)];rfl
 have q2:j9 (xE ⟨kprod x,c,i⟩).price=aw:=by rw[j9,y6p (by omega),y6p (by omega)];rfl
 by_cases h1:vX c=1
 ·obtain⟨a1,a2,a3,a4,a5,a6⟩:=zZx x c i h1;rw[y6a h1,Cmd.orderE];dsimp only;rw[y5x (by omega),y5x (by omega),y5x (by rw[q1];decide),y5x (by omega),y5x (by rw[zCb];simp),y5x (by rw[q2];decide),y5x (by omega)]
 ·rw[y5x h1,y5x (by rw[q1];simp),y5x (by rw[q2];simp)]
def qS (W:List (Int×Int)) (id:Int):Int×Bool:=match W.find? λx=>decide (x.1=id)with
 |some x=>(x.2,aw)
 |none=>(0,ax)
def zOn:List (Int×Int)->Int->Int->List (Int×Int)
 |[],id,s=>[(id,s)]
 |x::W,id,s=>if id=x.1 then(x.1,s)::W else x::zOn W id s
def yGc (x:Int×Int) (W:List (Int×Int)) (id:Int):qS (x::W) id=if id=x.1 then(x.2,aw)else qS W id:=by
 rw[qS,xCd];by_cases c:id=x.1
 ·rw[y6a c,y6p c.symm]
 ·rw[y5x c,y6n (λe=>c e.symm)];rfl
structure GtX where
 B:List (List zH)
 U:List Int
 W:List (Int×Int)
 O:List (Int×Rep)
def yAp (B:List (List zH)) (U:List Int) (W:List (Int×Int)) (s id why:Int):GtX:=⟨B,U,W,[(s,⟨2,id,0,0,0,0,0,why⟩)]⟩
def mX (s:Int):List (Int×Int)->List Rep->List (Int×Int)×List (Int×Rep)
 |W,[]=>(W,[])
 |W,r::R=>
  let W1:=if r.kind=1 then zOn W r.id s else W
  ((mX s W1 R).1,(if r.kind=2 then s else(qS W1 r.id).1,r)::(mX s W1 R).2)
def zKa (B:List (List zH)) (W:List (Int×Int)) (s:Int):Nat:=(whL 0 B).countP λx=>decide ((qS W x.1).1=s)
def zBq (p:Prd) (B:List (List zH)) (U:List Int) (W:List (Int×Int)) (s:Int) (c:Cmd):GtX:=
 if c.kind=1/\64<=zKa B W s then yAp B U W s c.id 30
 else if c.kind≠1/\((qS W c.id).2=ax\/(qS W c.id).1≠s)then yAp B U W s c.id 26
 else⟨(doF p B U c).B,(doF p B U c).U,(mX s W (doF p B U c).R).1,(mX s W (doF p B U c).R).2⟩
def aW (p:Prd) (B:List (List zH)) (U:List Int) (W:List (Int×Int)) (s:Int) (b:List UInt8):GtX:=
 if s<0\/8<=s then yAp B U W s 0 1 else if(xI b).2≠0 then yAp B U W s 0 (xI b).2 else zBq p B U W s (xI b).1
def zLz {p:Prd} {B:List (List zH)} {U:List Int} {W:List (Int×Int)} {s:Int} {c:Cmd} (hs:0<=s/\s<8) (h:c.right=0):aW p B U W s c.enc=zBq p B U W s c.asks:=by
 rw[aW,y5x (by omega),z7t h,y5x (by simp)]
def z8r (p:Prd) (x:jZ) {r:Rep} (hr:r.kind=3):∀y∈mT p x r,y.kind=3:=by
 intro y hy;rw[mT,y6q]at hy;rcases hy with rfl|hy
 ·exact hr
 ·split at hy
  ·rw[zGe]at hy;simp only[y6q,xBq,or_false]at hy;rcases hy with rfl|rfl<;>exact hr
  ·cases hy
def z0j (p:Prd) (c:Cmd):∀(l:List jZ) (q:Int),∀y∈aD p c l q,y.kind=3
 |[],_,y,hy=>by cases hy
 |x::l,q,y,hy=>by
  rw[aD,y7d]at hy;rcases hy with hy|hy
  ·rw[m3,y7d]at hy;rcases hy with hy|hy
   ·obtain⟨f,_,hy⟩:=y8r.1 hy;exact z8r p x rfl y hy
   ·exact z8r p x rfl y hy
  ·exact z0j p c l _ y hy
def z0e (p:Prd) (B:List (List zH)) (U:List Int) (c:Cmd):(∀r∈(cU p B U c).R,r.kind=1->r.id=c.id)/\∃r l,(cU p B U c).R=r::l/\r.kind=1/\r.id=c.id:=by
 rw[zBd];dsimp only;refine⟨λr hr hk=> ?_,_,_,rfl,rfl,rfl⟩;rw[y7o,y6q,y7d]at hr;rcases hr with rfl|hr|hr
 ·rfl
 ·have:=z0j _ _ _ _ r hr;omega
 ·split at hr
  ·rw[y7q]at hr;subst hr;rfl
  ·cases hr
def yAf:∀{l m:List Nat},l.Nodup->(∀x∈l,x∈m)->l.length<=m.length
 |[],m,_,_=>y7e _
 |a::l,m,h,hs=>by
  rw[y8o]at h;have ha:=hs a y6e;have:=yAf (l:=l) (m:=m.erase a) h.2 λx hx=>(List.mem_erase_of_ne (λe=>h.1 (by rw[<- e];exact hx))).2 (hs x (y6g _ hx))
  rw[List.length_erase_of_mem ha]at this;have:=List.length_pos_of_mem ha;rw[y6d];omega
structure Handed (ents:List am) (seen:Array Nat) (dn:List am):Prop where
 sn:seen.toList=dn.map (·.born)
 nd:(dn.map (·.born)).Nodup
 sub:∀e∈dn,e∈ents
def Handed.push {ents:List am} {seen:Array Nat} {dn:List am} (h:Handed ents seen dn) {e:am} (he:e∈(leftOf ents.toArray seen).toList):Handed ents (seen.push e.born) (dn++[e]):=by
 simp only[leftOf,Array.toList_filter,y7y,y9m]at he;obtain⟨h1,h2⟩:=he;have h3:e.born∉dn.map (·.born):=by
  rw[<- h.sn];intro hm;have:seen.contains e.born=aw:=by
   rw[Array.contains_iff_mem];exact Array.mem_toList_iff.1 hm
  rw[this]at h2;cases h2
 refine⟨by rw[Array.toList_push,h.sn,y6i];rfl,?_,λx hx=> ?_⟩
 ·rw[y6i,au,y8i];exact⟨h.nd,by simp,λx hx y hy e=>by rw[y7q]at hy;subst hy;subst e;exact h3 hx⟩
 ·rcases y7d.1 hx with hx|hx
  ·exact h.sub x hx
  ·rw[y7q]at hx;subst hx;exact h1
def Handed.len {ents:List am} {seen:Array Nat} {dn:List am} (h:Handed ents seen dn):dn.length<=ents.length:=by
 have:=yAf (m:=ents.map (·.born)) h.nd λx hx=>by
  obtain⟨e,he,rfl⟩:=y7j.1 hx;exact y7b (f:=(·.born)) (h.sub e he)
 simpa using this
def Handed.all {ents:List am} {seen:Array Nat} {dn:List am} (h:Handed ents seen dn) (hn:(ents.map (·.born)).Nodup) (h0:(leftOf ents.toArray seen).size=0):dn.Perm ents:=by
 have inj:∀{l:List am},(l.map (·.born)).Nodup->∀x∈l,∀y∈l,x.born=y.born->x=y:=by
  intro l hl
  induction l with
  |nil=>intro x hx;cases hx
  |cons a l ih=>
   rw[y6m,y8o]at hl;intro x hx y hy e;rcases y6q.1 hx with e1|h1<;>rcases y6q.1 hy with e2|h2
   ·rw[e1,e2]
   ·refine absurd ?_ hl.1;rw[<- e1,e];exact y7b (f:=(·.born)) h2
   ·refine absurd ?_ hl.1;rw[<- e2,<- e];exact y7b (f:=(·.born)) h1
   ·exact ih hl.2 x h1 y h2 e
 have nd:∀{l:List am},(l.map (·.born)).Nodup->l.Nodup:=λhl=>List.Pairwise.imp (λhne e=>hne (by rw[e])) (List.pairwise_map.1 hl)
 refine(List.perm_ext_iff_of_nodup (nd h.nd) (nd hn)).2 λe=>⟨h.sub e,λhe=> ?_⟩
 have:seen.contains e.born=aw:=by
  cases hc:seen.contains e.born with
  |true=>rfl
  |false=>
   have hm:e∈(leftOf ents.toArray seen).toList:=by
    simp only[leftOf,Array.toList_filter,y7y];exact⟨he,by rw[hc];rfl⟩
   have:(leftOf ents.toArray seen).toList=[]:=y6y (by simpa using h0);rw[this]at hm;cases hm
 rw[Array.contains_iff_mem]at this;have:=Array.mem_toList_iff.2 this;rw[h.sn]at this;obtain⟨x,hx,e2⟩:=y7j.1 this;rw[<- inj hn x (h.sub x hx) e he e2];exact hx
def z3q (k:Ko) (LL:List HP) (ents:List am) (e:Ending) (w':aq):Prop:=∃(a:Option Addr) (n c:Nat) (xs:List ao) (dn:List am),e=.returned (.slice a n c)/\xs=dn.map (·.key)/\n=dn.length/\dn.Perm ents/\Hp k w' (slO 2 1 a n c xs::LL)
def yJg (k:Ko) (LL:List HP) (ents:List am) (r bm ck:Nat) (v:ao) (w1:aq):Prop:=∃(a:Option Addr) (n c:Nat) (xs:List ao) (seen:Array Nat) (c0:Nat) (dn:List am),v=.slice a n c/\xs=dn.map (·.key)/\n=dn.length/\ck<=c0/\Handed ents seen dn/\Hp k w1 (slO 2 1 a n c xs::pt r (.mapIter (ay bm) ck seen c0)::LL)
def yKn (ents:List am) (v:ao) (_:aq):Nat:=match v with| .slice _ n _=>ents.length-n|_=>0
def yCw {b bm ck:Nat} {ents:List am} {w:aq} {k:Ko} {LL:List HP} {l:List ao} {T:ap}
 (H:Hp k w LL) (hat:∀w',Hp k w' LL->w'.heap[b]? =ay (.cells l.toArray T)/\w'.heap[bm]? =ay (.map ents.toArray ck)) (hl:l[12]? =ay (.map (ay bm)))
 (hck:∀e∈ents,e.born<ck) (hn:(ents.map (·.born)).Nodup) (hk:∀e∈ents,∃n,e.key= .int .i64 n) (hsz:ents.length<=1000000):
 Calls Tryz.prog 164 #[.pointer (ay ⟨b,0,az⟩)] w (z3q k LL ents):=by
 refine calls_of_cwp (c:=Tryz.f164.body.getD .skip) (args:=[.pointer (ay ⟨b,0,az⟩)]) mixed Tryz.func164 (by kernel_rfl) [{ι:=ao,chg:=λv=>[(3,v)],fix:=[9]}] (by kernel_rfl) (by kernel_rfl) (by kernel_rfl) ?_;obtain⟨h1,h2⟩:=hat w H;have hu:Tryz.prog.underlying 109=ay (.map 2 3):=by kernel_rfl
 refine⟨ay bm,?_,ay ⟨w.heap.size,0,az⟩,w.alloc (.mapIter (ay bm) ck #[] ck),?_,?_⟩
 ·show mY Tryz.prog 109 ⟨b,12,az⟩ w (.map (ay bm));exact wV (by kernel_rfl) h1 hl
 ·show(Instr.range 109 (.map (ay bm))).run Tryz.prog w=_;exact run_range_map w _ _ _ bm _ ck hu h2
 refine⟨yJg k LL ents w.heap.size bm ck,yKn ents,⟨.slice az 0 0,rfl,az,0,0,[],#[],ck,[],rfl,rfl,rfl,y6v _,⟨rfl,List.nodup_nil,λe he=>by cases he⟩,(H.new _).nil _ _⟩,?_⟩;rintro j v w1 ⟨a,n,c,xs,seen,c0,dn,rfl,hxs,hnl,hc0,hh,H1⟩;have hr:=H1.drop.get;obtain⟨-,g2⟩:=hat w1 H1.drop.drop;rcases run_next_at (P:=Tryz.prog) w1 0 w.heap.size bm ck c0 seen ents.toArray ck hr g2 (λx hx=>hck x (by simpa using hx)) hc0 with⟨e1,e2⟩|⟨e,he,w2,hw2,hrun⟩
 ·refine .inl ⟨w1,e2,?_⟩;show z3q k LL ents (.returned (.slice a n c)) w1;exact⟨a,n,c,xs,dn,rfl,hxs,hnl,hh.all hn e1,(H1.swap).drop⟩
 ·have hmem:e∈ents:=by
   have:=he;simp only[leftOf,Array.toList_filter,y7y]at this;exact this.1
  obtain⟨m,hm⟩:=hk e hmem;have hp:=hh.push he;have H2:Hp k (World.setB w2 w.heap.size (.mapIter (ay bm) ck (seen.push e.born) ck)) (slO 2 1 a n c xs::pt w.heap.size (.mapIter (ay bm) ck (seen.push e.born) ck)::LL):=by
   have H1':Hp k w2 (slO 2 1 a n c xs::pt w.heap.size (.mapIter (ay bm) ck seen c0)::LL):=by
    rcases hw2 with rfl|rfl
    ·exact H1
    ·exact H1.drew
   exact((H1'.swap).upd _).swap
  have hset:Go.ChangeMaps.setBlock w2 w.heap.size (.mapIter (ay bm) ck (seen.push e.born) ck)=World.setB w2 w.heap.size (.mapIter (ay bm) ck (seen.push e.born) ck):=rfl;rw[hset]at hrun;generalize hw3:World.setB w2 w.heap.size (.mapIter (ay bm) ck (seen.push e.born) ck)=w3 at H2 hrun;obtain⟨-,g3⟩:=hat w3 H2.drop.drop;have hent:=run_entry_at (P:=Tryz.prog) w3 w.heap.size bm ck seen ents.toArray ck e H2.drop.get g3 (by simpa using hmem) (by simpa using hn);refine .inr ⟨e.key,e.val,w3,hrun,.tuple #[e.key,e.val],hent,?_⟩;rw[hm];have hlen:=hp.len;rw[y5y,y8a]at hlen;refine Eq.mp (α:=z3a w3 (.cells #[.int .i64 m] 2) λbb w4=>∃(a':Option Addr) (n' c':Nat),∃w5,u9 Tryz.prog (Builtin.append_ #[23,23] 23 #[.slice a n c,.slice (ay ⟨bb,0,az⟩) 1 1]) w4 (.slice a' n' c') w5/\∃i',.slice a' n' c'=i'/\yJg k LL ents w.heap.size bm ck i' w5/\yKn ents i' w5<yKn ents (.slice a n c) w1) (by kernel_rfl) ?_;rintro bb w4 hb hw4;subst hb hw4;have H3:=(H2.new (.cells [ak .i64 m].toArray 2)).lit (sz:=1) (n:=1) rfl;obtain⟨a',c',w5,hap,H5⟩:=(H3.swap).append (P:=Tryz.prog) (t1:=23) (t2:=23) (rt:=23) (e:=2) (sz:=1) (by_:=8) (z:= #[.int .i64 0]) (by kernel_rfl) (by kernel_rfl) (x:= .slice (ay ⟨w3.heap.size,0,az⟩) 1 1) (m:=1) (ys:=[.int .i64 m]) (.inl ⟨_,_,rfl,H3.satR⟩) (by simp[Value.oneC]) rfl Z8 oM;refine⟨a',n+1,c',w5,hap,.slice a' (n+1) c',rfl,⟨a',n+1,c',_,_,ck,dn++[e],rfl,?_,?_,y6v _,hp,(H5.swap).drop⟩,?_⟩
  ·rw[hxs,y6i,au,hm]
  ·rw[y5y,hnl];rfl
  ·show ents.length-(n+1)<ents.length-n;omega
def z7b {F:PH}:∀{l:List (Int×Int)} {ents:List am},MR F (yR l) ents->ents.map (·.key)=l.map (λp=>ak .i64 p.1)
 |[],ents,h=>by
  have h:ents=[]:=h;subst h;rfl
 |p::l,ents,h=>by
  obtain⟨m,ms,rfl,h1,-,h3⟩:=h;rw[y6m,y6m,z7b (l:=l) h3,h1]
def z5z:ao->Int
 | .int _ n=>n
 |_=>0
def yCd {xs:List ao} {m:List Int} (h:xs.Perm (m.map λn=>ak .i64 n)):∃l:List Int,xs=l.map (λn=>ak .i64 n)/\l.Perm m:=by
 refine⟨xs.map z5z,?_,?_⟩
 ·rw[y8n];have:∀x∈xs,((λn=>ak .i64 n)∘z5z) x=x:=by
   intro x hx;obtain⟨n,_,rfl⟩:=y7j.1 (h.mem_iff.1 hx);rfl
  rw[y7i this,List.map_id']
 ·have:=h.map z5z;rw[y8n]at this;have e:(z5z∘λn=>ak .i64 n)=id:=rfl;rw[e,List.map_id]at this;exact this
def z6x (F:PH):∀l:List Int,DRL F (iE l).flatten (l.map λn=>ak .i64 n)
 |[]=>by simp[iE,DRL]
 |n::l=>by
  have ih:=z6x F l;have e:(iE (n::l)).flatten= .v (.int .i64 n)::(iE l).flatten:=rfl;rw[e,DRL];exact⟨.int .i64 n,_,rfl,by simp[DR,Value.oneC],ih⟩
def sids0C:Con where
 ι:=MSt
 pat:=λ_=>[.nm 0 0]
 pre:=λs=>[zD s]
 cnd:=λs=>s.wh.length<=1000000
 alts:=λs=>[{o:=List Int,res:=λ_=> .own 1,post:=λl=>[zD s,.own 2 1 (iE l)],rel:=λl=>l.Perm (s.wh.map (·.1))}]
@[reducible] def zKp (s:MSt):St:=zLf [0] ⟨u6 0 (sids0C.pre s),(sids0C.pre s).length⟩
def yQk (s:MSt) (l:List Int) (hl:l.Perm (s.wh.map (·.1))):yLj 1 (.own 5) ((zKp s).new (.own 2 1 (iE l))) (sids0C.alts s):=by
 refine Eq.mp (α:=∃(o:List Int),sb s.p.code=sb s.p.code/\s.p.tick=s.p.tick/\s.p.low=s.p.low/\s.p.high=s.p.high/\s.p.wide=s.p.wide/\s.p.rule=s.p.rule/\s.p.top=s.p.top/\s.p.least=s.p.least/\s.p.part=s.p.part/\ag 197 Book 6 zR s.books az=ag 197 Book 6 zR s.books az/\yR s.wh=yR s.wh/\ae 1 (iE s.p.months)=ae 1 (iE s.p.months)/\ae 1 (iE s.p.settle)=ae 1 (iE s.p.settle)/\iE o=iE l/\o.Perm (s.wh.map (·.1))) (by kernel_rfl) ?_
 exact⟨l,rF8 (rF6 hl)⟩
def yJe:sids0C.ok Tryz.prog 164:=by
 intro s hc k L E w ys R hv;have hc:s.wh.length<=1000000:=hc;have hnx:=R.nx;obtain⟨E1,hle,R1⟩:=zBw [0] R;have R1:Rel k L E1 (zKp s) w:=R1;have hc0:(zKp s).get 0=ay (.cells [sV s.p.code,.own 3,zA s.p.tick,zA s.p.low,zA s.p.high,zA s.p.wide,zA s.p.rule,zA s.p.top,zA s.p.least,zA s.p.part,.own 4,.own 1,.mp 2] 195):=rfl;have hc2:((zKp s).del 0).get 2=ay (.map (yR s.wh)):=rfl;have Ra:=(R1.take hc0).take hc2;have H0:Hp k w (rHP E1 (2,.map (yR s.wh))::rHP E1 (0,.cells [sV s.p.code,.own 3,zA s.p.tick,zA s.p.low,zA s.p.high,zA s.p.wide,zA s.p.rule,zA s.p.top,zA s.p.least,zA s.p.part,.own 4,.own 1,.mp 2] 195)::((((zKp s).del 0).del 2).rows.map (rHP E1)++fz E1.F::L)):=
  Ra.out.perm (.cons _ (((ba _ _ _).append_left _).trans y6o))
 generalize hrest:(((zKp s).del 0).del 2).rows.map (rHP E1)++fz E1.F::L=rest at H0;obtain⟨hk,hs,hh⟩:=H0;cases hh with
 |cons ha hsub hdj hr=>
 cases hr with
 |cons ha0 hsub0 hdj0 hr0=>
 rcases ha with⟨e,_⟩|⟨hd2,t2,r2⟩
 ·cases e
 rcases ha0 with⟨e,_⟩|⟨hd0,t0,r0⟩
 ·cases e
 simp only[rowHP]at r2 r0;obtain⟨bm,ents,ck,q1,q2,q3,rfl⟩:=r2;obtain⟨b,l,p1,p2,rfl⟩:=r0;have H:Hp k w (pt bm (.map ents.toArray ck)::pt b (.cells l.toArray 195)::rest):=⟨hk,_,.cons rfl hsub hdj (.cons rfl hsub0 hdj0 hr0)⟩
 have hl12:l[12]? =ay (.map (ay bm)):=by
  simp only[VRL,VR]at p2;obtain⟨_,_,rfl,-,_,_,rfl,-,_,_,rfl,-,_,_,rfl,-,_,_,rfl,-,_,_,rfl,-,_,_,rfl,-,_,_,rfl,-,_,_,rfl,-,_,_,rfl,-,_,_,rfl,-,_,_,rfl,-,y,_,rfl,⟨bb,sub,g1,rfl⟩,rfl⟩:=p2;rw[t2]at g1;cases g1;cases q1;rfl
 have hys:ys=[.pointer (ay ⟨b,0,az⟩)]:=by
  simp only[sids0C,VRL,VR]at hv;obtain⟨y,_,rfl,⟨b',oo,sub,g1,rfl⟩,rfl⟩:=hv;rw[hle.get g1]at t0;cases t0;cases p1;rfl
 subst hys;have hkeys:=z7b q2;have hlen:ents.length=s.wh.length:=by simpa using congrArg av hkeys
 have hcall:=yCw H (λw' H'=>⟨(H'.swap).get,H'.get⟩) hl12 q3.2 q3.1 (λe he=>by
  have:e.key∈ents.map (·.key):=y7b (f:=(·.key)) he
  rw[hkeys]at this;obtain⟨p,_,hp⟩:=y7j.1 this;exact⟨p.1,hp.symm⟩) oM
 have hdo:=aC (P:=Tryz.prog) (f:=164) (args:= #[.pointer (ay ⟨b,0,az⟩)]) (w:=w) (K:=λv w'=>z3q k (pt bm (.map ents.toArray ck)::pt b (.cells l.toArray 195)::rest) ents (.returned v) w') (by kernel_rfl) (hcall.mono λe w' h=>by
  have h2:=h;obtain⟨a,n,c,xs,dn,rfl,-⟩:=h2;exact⟨_,rfl,h⟩)
 refine hdo.mono ?_;rintro v w' ⟨a,n,c,xs,dn,hv',rfl,rfl,hperm,H2⟩;cases hv';obtain⟨li,e1,e2⟩:=yCd (xs:=dn.map (·.key)) (m:=s.wh.map (·.1)) (by
  have:=hperm.map (·.key)
  rw[hkeys]at this;rwa [y8n])
 have elen:dn.length=li.length:=by simpa using congrArg av e1
 rw[e1,elen]at H2;rw[elen];have H3:Hp k w' (slO 2 1 a li.length c (li.map λn=>ak .i64 n)::((zKp s).rows.map (rHP E1)++fz E1.F::L)):=by
  have h1:Hp k w' (rHP E1 (2,.map (yR s.wh))::rHP E1 (0,.cells [sV s.p.code,.own 3,zA s.p.tick,zA s.p.low,zA s.p.high,zA s.p.wide,zA s.p.rule,zA s.p.top,zA s.p.least,zA s.p.part,.own 4,.own 1,.mp 2] 195)::slO 2 1 a li.length c (li.map λn=>ak .i64 n)::rest):=by
   have g0:Hp k w' (pt bm (.map ents.toArray ck)::pt b (.cells l.toArray 195)::slO 2 1 a li.length c (li.map λn=>ak .i64 n)::rest):=
    H2.perm ((ba _ _ _).trans (.cons _ (.swap _ _ _)))
   have g1:=g0.imp (B:=rHP E1 (2,.map (yR s.wh))) λx hx=> .inr ⟨hd2,t2,by simp only[rowHP];exact⟨bm,ents,ck,q1,q2,q3,hx⟩⟩
   have g2:=(g1.swap).imp (B:=rHP E1 (0,.cells [sV s.p.code,.own 3,zA s.p.tick,zA s.p.low,zA s.p.high,zA s.p.wide,zA s.p.rule,zA s.p.top,zA s.p.least,zA s.p.part,.own 4,.own 1,.mp 2] 195)) λx hx=> .inr ⟨hd0,t0,by simp only[rowHP];exact⟨b,l,p1,p2,hx⟩⟩
   exact g2.swap
  subst hrest;refine h1.perm ?_;have p0:=((vI hc0).1.map (rHP E1))
  have p2:=((vI hc2).1.map (rHP E1))
  have p3:=(p0.trans (p2.cons _)).append_right (fz E1.F::L);refine List.Perm.trans ?_ (p3.symm.cons _);exact(ba _ _ _).trans ((bc _ (.swap _ _ _)).trans (.swap _ _ _))
 have hle2:E1.le ⟨E1.F,E1.tab++[((.slice a li.length c,[]):Hd)]⟩:=Ev.le.app _;have hget:(E1.tab++[((.slice a li.length c,[]):Hd)])[(zKp s).nx]? =ay (.slice a li.length c,[]):=by rw[<- R1.nx];simp
 have R2:Rel k L ⟨E1.F,E1.tab++[((.slice a li.length c,[]):Hd)]⟩ ((zKp s).new (.own 2 1 (iE li))) w':=by
  refine⟨by simp[St.new,R1.nx],?_⟩;have g1:Hp k w' ((zKp s).rows.map (rHP E1)++(slO 2 1 a li.length c (li.map λn=>ak .i64 n)::fz E1.F::L)):=H3.perm (y6o (l₁:=(zKp s).rows.map (rHP E1))).symm;have g2:=wK (λr x=>rHP.mono hle2 r) g1;have g3:Hp k w' (slO 2 1 a li.length c (li.map λn=>ak .i64 n)::((zKp s).rows.map (rHP ⟨E1.F,E1.tab++[((.slice a li.length c,[]):Hd)]⟩)++fz E1.F::L)):=g2.perm y6o;exact g3.imp λx hx=> .inr ⟨_,hget,by
   simp only[rowHP];exact⟨a,c,_,by rw[yY],z6x _ li,λel hel=>by obtain⟨n,_,rfl⟩:=y7j.1 hel;rfl,by rw[yY];exact hx⟩⟩
 obtain⟨al,ha,hend⟩:=zFz (yQk s li e2);obtain⟨o,o1,E3,o2,o3,o4⟩:=zVg hend hnx (hle.trans hle2) R2 (y:= .slice a li.length c) (by simp only[VR];exact⟨_,hget,_,_,_,rfl⟩);exact⟨al,ha,o,o1,E3,o2,o3,o4⟩
structure MkB where
 m:Mkt
 p:Prd
 B:List (List zH)
 U:List Int
@[reducible] def MkB.ok (i:MkB):Prop:=i.m.Rep i.p i.B i.U/\BOk i.p i.B
def midsC:Con where
 ι:=MkB
 pat:=λ_=>[.nm 0 0]
 pre:=λi=>[qD i.m]
 cnd:=λi=>i.ok
 alts:=λi=>[{o:=List Int,res:=λ_=> .own 1,post:=λl=>[qD i.m,.own 2 1 (iE l)],rel:=λl=>l.Perm ((whL 0 i.B).map (·.1))}]
def clUsC:Con:=zUg 2
def mcopyC:Con:=con1 MkB (λ_=>[.nm 0 0]) (λi=>[qD i.m]) (λi=>i.ok) (λ_=> .nm 1 0) (λi=>[qD i.m,qD i.m])
structure Gt where
 m:Mkt
 W:List (Int×Int)
def y9 (W:List (Int×Int)):List (ao×List D):=W.map λx=>(.int .i64 x.1,[.v (.int .i64 x.2)])
def GtU (g:Gt):Nat->AObj
 |0=> .cells [.nm 1 0,.mp 2] 111
 |1=>qD g.m
 |2=> .map (y9 g.W)
 |_=> .gone
def GtR (g:Gt):AObj:= .adt Gt 3 GtU g
def qR (o:Int×Rep):List D:= .v (.int .i64 o.1)::xQ o.2
@[reducible] def zUo:Nat:=67
@[reducible] def z2t (O:List (Int×Rep)):AObj:= .own zUo 9 (O.map qR)
def newGC:Con where
 ι:=Prd
 pat:=λp=>[prdV p]
 pre:=λ_=>[]
 cnd:=λp=>p.small
 alts:=λp=>[{o:=Unit,res:=λ_=> .tup [.nm 0 0,zA 0],post:=λ_=>[GtR ⟨⟨p,mI p,[]⟩,[]⟩],rel:=λ_=>p.check=0},{o:=Unit,res:=λ_=> .tup [.d (.v (.pointer az)),zA p.check],post:=λ_=>[],rel:=λ_=>p.check≠0}]
structure GrI where
 s:Int
 id:Int
 why:Int
def grejC:Con:=con1 GrI (λi=>[zA i.s,zA i.id,zA i.why]) (λ_=>[]) (λ_=>True) (λ_=> .own 0) (λi=>[z2t [(i.s,⟨2,i.id,0,0,0,0,0,i.why⟩)]])
structure SbI where
 s:Int
 b:List UInt8
def zQ (s:Int) (b:List UInt8):Cmd×Int:=if s<0\/8<=s then(cmd0,1)else xI b
def greadC:Con:=con1 SbI (λi=>[zA i.s,roV 1 (bE i.b)]) (λ_=>[]) (λi=>i.b.length<=1099511627776) (λi=> .tup [zGc (zQ i.s i.b).1,zA (zQ i.s i.b).2]) (λ_=>[])
structure GtI where
 g:Gt
 p:Prd
 B:List (List zH)
 U:List Int
 s:Int
@[reducible] def GtI.ok (i:GtI):Prop:=i.g.m.Rep i.p i.B i.U/\BOk i.p i.B
def gopenC:Con:=con1 GtI (λi=>[.nm 0 0,zA i.s]) (λi=>[GtR i.g]) (λi=>i.ok) (λi=>zA (zKa i.B i.g.W i.s)) (λi=>[GtR i.g])
def GtO (g:Gt):List AObj:=[.cells [.nm 1 0,.mp 2] 111,qD g.m,.map (y9 g.W)]
def gopenOC:Con:=con1 GtI (λi=>[.nm 0 0,zA i.s]) (λi=>GtO i.g) (λi=>i.ok) (λi=>zA (zKa i.B i.g.W i.s)) (λi=>GtO i.g)
def yWm:List SAnn:=[{ι:=Int×Nat,slots:=λj=>[(5,zA j.1),(14,zA j.2)],rows:=λ_=>[]}]
def gownerC:Con:=con1 GtI (λi=>[.nm 0 0,zA i.s]) (λi=>[GtR i.g]) (λ_=>True) (λi=> .tup [zA (qS i.g.W i.s).1,yP (qS i.g.W i.s).2]) (λi=>[GtR i.g])
def gmktC:Con:=con1 GtI (λ_=>[.nm 0 0]) (λi=>[GtR i.g]) (λi=>i.ok) (λ_=> .nm 1 0) (λi=>[GtR i.g,qD i.g.m])
structure GdI where
 g:Gt
 p:Prd
 B:List (List zH)
 U:List Int
 s:Int
 b:List UInt8
 X:GtX
def gdoC:Con where
 ι:=GdI
 pat:=λi=>[.nm 0 0,zA i.s,roV 1 (bE i.b)]
 pre:=λi=>[GtR i.g]
 cnd:=λi=>(i.g.m.Rep i.p i.B i.U/\BOk i.p i.B)/\i.b.length<=1099511627776/\i.X=aW i.p i.B i.U i.g.W i.s i.b
 alts:=λi=>[{o:=Mkt,res:=λ_=> .own 1,post:=λo=>[GtR ⟨o,i.X.W⟩,z2t i.X.O],rel:=λo=>o.Rep i.p i.X.B i.X.U}]
structure GdJ where
 o:Mkt
 W:List (Int×Int)
 O:List (Int×Rep)
 k:Nat
def GdJ.rows (j:GdJ):List AObj:=[.cells [.nm 1 0,.mp 2] 111,qD j.o,.map (y9 j.W),z2t j.O]
def y4l:List SAnn:=[{ι:=GdJ,slots:=λj=>[(0,.nm 0 0),(11,.own 3),(74,zA j.k)],rows:=GdJ.rows}]
def y3l:List (Nat×SAnn):=[(20,bj 36),(28,bj 50),(66,ij 14)]
def yIf (es:List (ao×List D)):Prop:=
 ∃(a:List (ao×List D)),a=es/\True/\∀(b:Unit),True->∃(c:Unit),es=a/\es=a/\True
def yTs (es:List (ao×List D)):yIf es=walk Tryz.prog ([(146,vB 112)]) 0 ([]) ([]) [] Tryz.f110 (Tryz.f110.body.getD .skip) (clUsC.pat es) (clUsC.pre es) (clUsC.alts es):=by kernel_rfl
def yVz (hG:GOk Tryz.prog ([(146,vB 112)])) (h:∀(es:List (ao×List D)),clUsC.cnd es->yIf es):clUsC.ok Tryz.prog 110:=wT mixed ([(146,vB 112)]) hG 0 (λ(es:List (ao×List D))=>[]) (λ(es:List (ao×List D))=>[]) [] Tryz.func110 (by kernel_rfl) (by kernel_rfl) (by kernel_rfl) (λ_=>by kernel_rfl) (λ(es:List (ao×List D)) hc=>Eq.mp (yTs es) (h es hc))
def y1c (i:MkB):Prop:=
 ∃(i_1:MSt),zD i_1=zD i.m.s/\i_1.wh.length<=1000000/\∀(o:List Int),o.Perm (ar (λ(x:Int×Int) ↦ x.fst) i_1.wh)->∃(o_1:List Int),dh (sb i.m.p.code)/\dh i.m.p.tick/\dh i.m.p.low/\dh i.m.p.high/\dh i.m.p.wide/\dh i.m.p.rule/\dh i.m.p.top/\dh i.m.p.least/\dh i.m.p.part/\zD i.m.s=zD i_1/\dh (zV i.m.used)/\dh (ae 1 (iE i.m.p.months))/\dh (ae 1 (iE i.m.p.settle))/\iE o_1=iE o/\o_1.Perm (ar (λ(x:Int×Int) ↦ x.fst) (whL 0 i.B))
def yXm (i:MkB):Prop:=
 ∃(i_1:MSt),zD i_1=zD i.m.s/\(i_1.books.length<=1000000/\∀(b:Book),b∈i_1.books->(b.a.slots.length<=1000000/\b.a.queues.length<=1000000)/\b.buys.length<=1000000/\b.sells.length<=1000000/\b.spare.length<=1000000)/\∀(o:Unit),True->True/\(dh (sb i.m.p.code)/\True/\dh i.m.p.tick/\dh i.m.p.low/\dh i.m.p.high/\dh i.m.p.wide/\dh i.m.p.rule/\dh i.m.p.top/\dh i.m.p.least/\dh i.m.p.part/\True/\True)/\∃(i_2:List (ao×List D)),i_2=zV i.m.used/\True/\∀(o:Unit),True->(dh (sb i.m.p.code)/\True/\dh i.m.p.tick/\dh i.m.p.low/\dh i.m.p.high/\dh i.m.p.wide/\dh i.m.p.rule/\dh i.m.p.top/\dh i.m.p.least/\dh i.m.p.part/\True/\True)/\∃(o:Unit),dh (sb i.m.p.code)/\dh i.m.p.tick/\dh i.m.p.low/\dh i.m.p.high/\dh i.m.p.wide/\dh i.m.p.rule/\dh i.m.p.top/\dh i.m.p.least/\dh i.m.p.part/\zD i.m.s=zD i_1/\zV i.m.used=i_2/\dh (ae 1 (iE i.m.p.months))/\dh (ae 1 (iE i.m.p.settle))/\dh (sb i.m.p.code)/\dh i.m.p.tick/\dh i.m.p.low/\dh i.m.p.high/\dh i.m.p.wide/\dh i.m.p.rule/\dh i.m.p.top/\dh i.m.p.least/\dh i.m.p.part/\zD i.m.s=zD i_1/\zV i.m.used=i_2/\dh (ae 1 (iE i.m.p.months))/\dh (ae 1 (iE i.m.p.settle))/\True
def y0o (p:Prd):Prop:=
 ∃(i:Prd),sb i.code=sb p.code/\iE i.months=iE p.months/\i.tick=p.tick/\i.low=p.low/\i.high=p.high/\i.wide=p.wide/\i.rule=p.rule/\i.top=p.top/\i.least=p.least/\i.part=p.part/\iE i.settle=iE p.settle/\(i.code.length<=1099511627776/\i.months.length<=1099511627776/\i.settle.length<=1099511627776)/\(∀(o:Unit),i.check=0->(∃(o:Unit),dh ((0:Int))/\ac Mkt 5 yI (Mkt.mk p (mI p) [])=ac Mkt 5 yI (Mkt.mk i (mI i) [])/\y9 []=[]/\p.check=0)\/∃(o:Unit),False)/\∀(o:Unit),i.check≠0->cnd (i.check !=0) ((∃(o:Unit),False)\/∃(o:Unit),True/\p.check=i.check/\(p.check=0->False)) ((∃(o:Unit),dh ((0:Int))/\False)\/∃(o:Unit),False)
def y0l (i:GrI):Prop:=
 ∃(o:Unit),[qR (i.s,Rep.mk 2 i.id 0 0 0 0 0 i.why)]=[[D.v (.int .i64 i.s),D.v (.int .i64 2),D.v (.int .i64 i.id),D.v (.int .i64 0),D.v (.int .i64 0),D.v (.int .i64 0),D.v (.int .i64 0),D.v (.int .i64 0),D.v (.int .i64 i.why)]]/\True
def yYa (i:SbI):Prop:=
 cnd (decide (i.s<0)) (∃(o:Unit),(zQ i.s i.b).fst.kind=0/\(zQ i.s i.b).fst.id=0/\(zQ i.s i.b).fst.inst=0/\(zQ i.s i.b).fst.side=0/\(zQ i.s i.b).fst.price=0/\(zQ i.s i.b).fst.qty=0/\(zQ i.s i.b).fst.least=0/\(zQ i.s i.b).fst.time=0/\sb (zQ i.s i.b).fst.label=ByteArray.mk #[]/\(zQ i.s i.b).snd=1/\True) (cnd (decide (i.s>=8)) (∃(o:Unit),(zQ i.s i.b).fst.kind=0/\(zQ i.s i.b).fst.id=0/\(zQ i.s i.b).fst.inst=0/\(zQ i.s i.b).fst.side=0/\(zQ i.s i.b).fst.price=0/\(zQ i.s i.b).fst.qty=0/\(zQ i.s i.b).fst.least=0/\(zQ i.s i.b).fst.time=0/\sb (zQ i.s i.b).fst.label=ByteArray.mk #[]/\(zQ i.s i.b).snd=1/\True) (∃(i_1:List UInt8),bE i_1=bE i.b/\i_1.length<=1099511627776/\∀(o:Unit),True->∃(o:Unit),(zQ i.s i.b).fst.kind=(xI i_1).fst.kind/\(zQ i.s i.b).fst.id=(xI i_1).fst.id/\(zQ i.s i.b).fst.inst=(xI i_1).fst.inst/\(zQ i.s i.b).fst.side=(xI i_1).fst.side/\(zQ i.s i.b).fst.price=(xI i_1).fst.price/\(zQ i.s i.b).fst.qty=(xI i_1).fst.qty/\(zQ i.s i.b).fst.least=(xI i_1).fst.least/\(zQ i.s i.b).fst.time=(xI i_1).fst.time/\sb (zQ i.s i.b).fst.label=sb (xI i_1).fst.label/\(zQ i.s i.b).snd=(xI i_1).snd/\True))
def zDp (a:Int×Nat) (b:Int×Nat) (c:Int×Nat->Prop) (d:Int×Nat->Nat) (e:MkB) (f:List Int) (g:GtI):Prop:=(↑a.snd:Int)=aj.wrap ((↑b.snd:Int)+1)/\c a/\d a<d b/\dh (qD e.m)/\dh (af 2 1 (iE f))/\dh (aa [V.nm 1 0,V.mp 2] (111:ap))/\dh (ab (y9 g.g.W))
def yHq (i:GtI):Prop:=
 ∃(a:MkB),qD a.m=qD i.g.m/\(a.m.Rep a.p a.B a.U/\BOk a.p a.B)/\∀(b:List Int),b.Perm (ar (λ(x:Int×Int) ↦ x.fst) (whL 0 a.B))->∃(c:Int×Nat),c.fst=0/\(↑c.snd:Int)=0/\∃(d:Int×Nat->Prop),∃(e:Int×Nat->Nat),d c/\∀(f:Int×Nat),d f->cnd (decide ((↑f.snd:Int)<(↑(iE b).length:Int))) ((0<=(↑f.snd:Int)/\(↑f.snd:Int)<(↑(iE b).length:Int))/\∃(g:Int),zE (iE b) (↑f.snd:Int).toNat 0 1=ay [dI g]/\(∀(h:ao×List D),h∈y9 i.g.W->like (ak aj g) h.fst=aw)/\∃(h:Bool),∃(j:Int),(kC (ak aj g) (y9 i.g.W)=ay [dI j]/\h=aw\/kC (ak aj g) (y9 i.g.W)=az/\[dI j]=[dI 0]/\h=ax)/\cnd (j==i.s) (∃(k:Int×Nat),k.fst=aj.wrap (f.fst+1)/\zDp k f d e a b i) (∃(k:Int×Nat),k.fst=f.fst/\zDp k f d e a b i)) (∃(g:Unit),(↑(zKa i.B i.g.W i.s):Int)=f.fst/\qD i.g.m=qD a.m/\dh (y9 i.g.W)/\True)
def yOj (i:GtI):Prop:=
 ∃(i_1:MkB),ac Mkt 5 yI i_1.m=qD i.g.m/\(i_1.m.Rep i_1.p i_1.B i_1.U/\BOk i_1.p i_1.B)/\∀(o:List Int),o.Perm (ar (λ(x:Int×Int) ↦ x.fst) (whL 0 i_1.B))->∃(i0:Int×Nat),i0.fst=0/\(↑i0.snd:Int)=0/\∃(I:Int×Nat->Prop),∃(μ:Int×Nat->Nat),I i0/\∀(i_2:Int×Nat),I i_2->cnd (decide ((↑i_2.snd:Int)<(↑(iE o).length:Int))) ((0<=(↑i_2.snd:Int)/\(↑i_2.snd:Int)<(↑(iE o).length:Int))/\∃(n:Int),zE (iE o) (↑i_2.snd:Int).toNat 0 1=ay [D.v (.int .i64 n)]/\(∀(p:ao×List D),p∈y9 i.g.W->like (ak aj n) p.fst=aw)/\∃(b:Bool),∃(n_1:Int),(kC (ak aj n) (y9 i.g.W)=ay [D.v (.int .i64 n_1)]/\b=aw\/kC (ak aj n) (y9 i.g.W)=az/\[D.v (.int .i64 n_1)]=[D.v (.int .i64 0)]/\b=ax)/\cnd (n_1==i.s) (∃(i':Int×Nat),i'.fst=aj.wrap (i_2.fst+1)/\(↑i'.snd:Int)=aj.wrap ((↑i_2.snd:Int)+1)/\I i'/\μ i'<μ i_2/\dh (ac Mkt 5 yI i_1.m)/\dh (af 2 1 (iE o))/\dh (aa [V.nm 1 0,V.mp 2] (111:ap))/\dh (ab (y9 i.g.W))) (∃(i':Int×Nat),i'.fst=i_2.fst/\(↑i'.snd:Int)=aj.wrap ((↑i_2.snd:Int)+1)/\I i'/\μ i'<μ i_2/\dh (ac Mkt 5 yI i_1.m)/\dh (af 2 1 (iE o))/\dh (aa [V.nm 1 0,V.mp 2] (111:ap))/\dh (ab (y9 i.g.W)))) (∃(o:Unit),(↑(zKa i.B i.g.W i.s):Int)=i_2.fst/\ac Mkt 5 yI i.g.m=ac Mkt 5 yI i_1.m/\dh (y9 i.g.W)/\True)
def yLx (i:GtI):Prop:=
 (∀(p:ao×List D),p∈y9 i.g.W->like (ak aj i.s) p.fst=aw)/\∃(b:Bool),∃(n:Int),(kC (ak aj i.s) (y9 i.g.W)=ay [D.v (.int .i64 n)]/\b=aw\/kC (ak aj i.s) (y9 i.g.W)=az/\[D.v (.int .i64 n)]=[D.v (.int .i64 0)]/\b=ax)/\∃(o:Unit),(qS i.g.W i.s).fst=n/\(qS i.g.W i.s).snd=b/\dh (ac Mkt 5 yI i.g.m)/\dh (y9 i.g.W)/\True
def yZc (i:GtI):Prop:=
 ∃(i_1:MkB),ac Mkt 5 yI i_1.m=ac Mkt 5 yI i.g.m/\(i_1.m.Rep i_1.p i_1.B i_1.U/\BOk i_1.p i_1.B)/\∀(o:Unit),True->∃(o:Unit),ac Mkt 5 yI i.g.m=ac Mkt 5 yI i_1.m/\dh (y9 i.g.W)/\ac Mkt 5 yI i.g.m=ac Mkt 5 yI i_1.m/\True
def lN (a:Int) (b:GdI) (c:GdJ):=(uH (ak aj a) [dI b.s] (y9 c.W))
def aK (a:SbI):=(D.v (Value.string (sb (zQ a.s a.b).fst.label)))
def aV (a:SbI):=(dI ((zQ a.s a.b).fst.price))
def aS (a:SbI):=(dI ((zQ a.s a.b).fst.least))
def aT (a:SbI):=(dI ((zQ a.s a.b).fst.time))
def mC (a:SbI):=(dI ((zQ a.s a.b).fst.side))
def aY (a:SbI):=(dI ((zQ a.s a.b).fst.kind))
def mK (a:SbI):=(dI ((zQ a.s a.b).fst.inst))
def aG (a:SbI):=(dI ((zQ a.s a.b).fst.qty))
def aL (a:SbI):=(dI ((zQ a.s a.b).fst.id))
def zWd (a:EnI) (b:SbI):Prop:=af tRp 8 (ar xQ a.X.R)=af tRp 8 (ar xQ a.X.R)/\dh (aa [V.d (aY b),V.d (aL b),V.d (mK b),V.d (mC b),V.d (aV b),V.d (aG b),V.d (aS b),V.d (aT b),V.d (aK b)] 44)
def zTy (a:GdJ) (b:EnI) (c:SbI):Prop:=af zUo 9 (ar qR a.O)=af zUo 9 (ar qR a.O)/\zWd b c
def zUk (a:Int->Prop) (b:Int) (c:Int) (d:Int) (e:Int) (f:Int) (g:Int) (h:Int) (j:Int) (k:Int) (l:GdJ) (m:GdI) (n:EnI) (p:SbI):Prop:=a b/\dh (aa [V.d (dI c),V.d (dI d),V.d (dI e),V.d (dI f),V.d (dI g),V.d (dI h),V.d (dI j),V.d (dI k)] 65)/\dh (aa [V.nm 1 0,V.mp 2] (111:ap))/\dh (qD l.o)/\dh (ab (lN d m l))/\zTy l n p
def zWi (a:Int->Prop) (b:Int) (c:Int) (d:Int) (e:Int) (f:Int) (g:Int) (h:Int) (j:Int) (k:Int) (l:GdJ) (m:EnI) (n:SbI):Prop:=a b/\dh (aa [V.d (dI c),V.d (dI d),V.d (dI e),V.d (dI f),V.d (dI g),V.d (dI h),V.d (dI j),V.d (dI k)] 65)/\dh (aa [V.nm 1 0,V.mp 2] (111:ap))/\dh (qD l.o)/\dh (ab (y9 l.W))/\zTy l m n
def zWj (a:GdJ) (b:GdJ) (c:Int) (d:Int) (e:Int) (f:Int) (g:Int) (h:Int) (j:Int) (k:Int) (l:Int) (m:GdJ->Prop) (n:GdJ->Nat) (p:EnI) (q:SbI):Prop:=ar qR a.O=ar qR b.O++[[dI c,dI d,dI e,dI f,dI g,dI h,dI j,dI k,dI l]]/\m a/\n a<n b/\zWd p q
def zLo (a:Bool->Prop) (b:Bool) (c:SbI) (d:GdI):Prop:=a b/\dh (aa [V.d (aY c),V.d (aL c),V.d (mK c),V.d (mC c),V.d (aV c),V.d (aG c),V.d (aS c),V.d (aT c),V.d (aK c)] 44)/\dh (aa [V.nm 1 0,V.mp 2] (111:ap))/\dh (qD d.g.m)/\dh (ab (y9 d.g.W))
def zUh (a:Bool->Prop) (b:SbI) (c:GdI):Prop:=∃(d:Bool),d=ax/\zLo a d b c
def zEq (a:GdI) (b:GrI):Prop:=True/\∀(c:Unit),True->∃(d:Mkt),qD d=qD a.g.m/\y9 a.X.W=y9 a.g.W/\ar qR a.X.O=[qR (b.s,Rep.mk 2 b.id 0 0 0 0 0 b.why)]/\d.Rep a.p a.X.B a.X.U
def zEo (a:SbI):=(ak aj (zQ a.s a.b).fst.id)
def yZf (i:GdI):Prop:=
 ∃(a:SbI),a.s=i.s/\bE a.b=bE i.b/\a.b.length<=1099511627776/\∀(b:Unit),True->cnd ((zQ a.s a.b).snd !=0) (∃(c:GrI),c.s=i.s/\c.id=0/\c.why=(zQ a.s a.b).snd/\zEq i c) ((∀(c:ao×List D),c∈y9 i.g.W->like (zEo a) c.fst=aw)/\∃(c:Bool),∃(d:Int),(kC (zEo a) (y9 i.g.W)=ay [dI d]/\c=aw\/kC (zEo a) (y9 i.g.W)=az/\[dI d]=[dI 0]/\c=ax)/\∃(e:Bool),∃(f:Bool->Prop),cnd ((zQ a.s a.b).fst.kind==1) (∃(g:GtI),g.s=i.s/\qD g.g.m=qD i.g.m/\y9 g.g.W=y9 i.g.W/\(g.g.m.Rep g.p g.B g.U/\BOk g.p g.B)/\∀(h:Unit),True->∃(j:Bool),j=decide ((↑(zKa g.B g.g.W g.s):Int)>=64)/\f j/\dh (aa [V.d (aY a),V.d (aL a),V.d (mK a),V.d (mC a),V.d (aV a),V.d (aG a),V.d (aS a),V.d (aT a),V.d (aK a)] 44)/\dh (aa [V.nm 1 0,V.mp 2] (111:ap))/\qD g.g.m=qD i.g.m/\ab (y9 g.g.W)=ab (y9 i.g.W)) (zUh f a i)/\∀(g:Bool),f g->cnd g (∃(h:GrI),h.s=i.s/\h.id=(zQ a.s a.b).fst.id/\h.why=30/\zEq i h) (∃(h:Bool),∃(j:Bool->Prop),cnd ((zQ a.s a.b).fst.kind !=1) (cnd (!c) (∃(k:Bool),k=aw/\zLo j k a i) (∃(k:Bool),k=(d !=i.s)/\zLo j k a i)) (zUh j a i)/\∀(k:Bool),j k->cnd k (∃(l:GrI),l.s=i.s/\l.id=(zQ a.s a.b).fst.id/\l.why=26/\zEq i l) (∃(l:EnI),l.c.kind=(zQ a.s a.b).fst.kind/\l.c.id=(zQ a.s a.b).fst.id/\l.c.inst=(zQ a.s a.b).fst.inst/\l.c.side=(zQ a.s a.b).fst.side/\l.c.price=(zQ a.s a.b).fst.price/\l.c.qty=(zQ a.s a.b).fst.qty/\l.c.least=(zQ a.s a.b).fst.least/\l.c.time=(zQ a.s a.b).fst.time/\sb l.c.label=sb (zQ a.s a.b).fst.label/\qD l.m=qD i.g.m/\((l.m.Rep l.p l.B l.U/\BOk l.p l.B)/\l.c.label.length<=140737488355328/\((-9223372036854775808)<=l.c.qty/\l.c.qty<=9223372036854775807)/\l.X=doF l.p l.B l.U l.c)/\∀(m:Mkt),m.Rep l.p l.X.B l.X.U->∃(n:GdJ),(↑n.k:Int)=0/\qD n.o=qD m/\y9 n.W=y9 i.g.W/\ar qR n.O=[]/\∃(p:GdJ->Prop),∃(q:GdJ->Nat),p n/\∀(r:GdJ),p r->cnd (decide ((↑r.k:Int)<(↑(ar xQ l.X.R).length:Int))) ((0<=(↑r.k:Int)/\(↑r.k:Int)<(↑(ar xQ l.X.R).length:Int))/\∃(s:Int),∃(t:Int),∃(u:Int),∃(v:Int),∃(w:Int),∃(x:Int),∃(y:Int),∃(z:Int),zE (ar xQ l.X.R) (↑r.k:Int).toNat 0 8=ay [dI s,dI t,dI u,dI v,dI w,dI x,dI y,dI z]/\cnd (s==1) ((∀(a_1:ao×List D),a_1∈y9 r.W->like (ak aj t) a_1.fst=aw)/\(∀(a_1:ao×List D),a_1∈uH (ak aj t) [dI i.s] (y9 r.W)->like (ak aj t) a_1.fst=aw)/\∃(a_1:Bool),∃(a_2:Int),(kC (ak aj t) (lN t i r)=ay [dI a_2]/\a_1=aw\/kC (ak aj t) (lN t i r)=az/\[dI a_2]=[dI 0]/\a_1=ax)/\∃(a_3:Int),∃(a_4:Int->Prop),cnd (s==2) (∃(a_5:Int),a_5=i.s/\zUk a_4 a_5 s t u v w x y z r i l a) (∃(a_5:Int),a_5=a_2/\zUk a_4 a_5 s t u v w x y z r i l a)/\∀(a_5:Int),a_4 a_5->((ar qR r.O).length+1)*(72:Nat)<=(140737488355328:Nat)/\∃(a_6:GdJ),(↑a_6.k:Int)=aj.wrap ((↑r.k:Int)+1)/\qD a_6.o=qD r.o/\y9 a_6.W=uH (ak aj t) [dI i.s] (y9 r.W)/\zWj a_6 r a_5 s t u v w x y z p q l a) ((∀(a_1:ao×List D),a_1∈y9 r.W->like (ak aj t) a_1.fst=aw)/\∃(a_1:Bool),∃(a_2:Int),(kC (ak aj t) (y9 r.W)=ay [dI a_2]/\a_1=aw\/kC (ak aj t) (y9 r.W)=az/\[dI a_2]=[dI 0]/\a_1=ax)/\∃(a_3:Int),∃(a_4:Int->Prop),cnd (s==2) (∃(a_5:Int),a_5=i.s/\zWi a_4 a_5 s t u v w x y z r l a) (∃(a_5:Int),a_5=a_2/\zWi a_4 a_5 s t u v w x y z r l a)/\∀(a_5:Int),a_4 a_5->((ar qR r.O).length+1)*(72:Nat)<=(140737488355328:Nat)/\∃(a_6:GdJ),(↑a_6.k:Int)=aj.wrap ((↑r.k:Int)+1)/\qD a_6.o=qD r.o/\y9 a_6.W=y9 r.W/\zWj a_6 r a_5 s t u v w x y z p q l a)) (∃(s:Mkt),qD s=qD r.o/\y9 i.X.W=y9 r.W/\ar qR i.X.O=ar qR r.O/\s.Rep i.p i.X.B i.X.U))))
def yLv:clUsC.ok Tryz.prog 110:=yVz (gokc (zAi _) gok0) λes _=>by
 unfold yIf;refine⟨es,?_⟩;exact kp
def yVy {s:MSt} {p:Prd} {B:List (List zH)} (h:s.Rep p B):s.wh.length=zVo B:=by rw[zVo];exact h.wh.length_eq
def z3h:∀{B:List (List zH)} (n:Nat),(∀L∈B,L.length<=250)->(whL n B).length<=250*B.length
 |[],_,_=>y6v _
 |L::B,n,h=>by
  have:=z3h (B:=B) (n+1) λx hx=>h x (y6g _ hx)
  have:=h L y6e;rw[whL,y5y,y5z,y6d];omega
def yPd:midsC.ok Tryz.prog 136:=okw (V:=y1c) mixed (gokc yJe gok0) 0 (λ_=>[]) (λ_=>[]) [0] Tryz.func136 λ(i:MkB) h=>by
 obtain⟨⟨ep,hR,eu⟩,hB⟩:i.m.Rep i.p i.B i.U/\BOk i.p i.B:=h;have hl:i.m.s.wh.length<=1000000:=by
  have hwf:=hR.wf hB;have h1:=z3h (B:=i.B) 0 λL hL=>by
   obtain⟨k,hk⟩:=y8p.1 hL;exact(hwf.od k L hk).2.2
  have:=hB.bl;have:=xL i.p;rw[yVy hR,zVo];omega
 exact⟨i.m.s,rfl,hl,λo ho=>⟨o,rF8 (rF3 ⟨rfl,k0q,rfl,ho.trans (hR.wh.map _)⟩)⟩⟩
def zXw:mcopyC.ok Tryz.prog 55:=okw (V:=yXm) mixed (gokc zFk (gokc yLv gok0)) 0 (λ_=>[]) (λ_=>[]) [0] Tryz.func55 λ(i:MkB) h=>by
 obtain⟨⟨ep,hR,eu⟩,hB⟩:i.m.Rep i.p i.B i.U/\BOk i.p i.B:=h;have hs:=hR.small hB;exact⟨i.m.s,rfl,hs,λ_ _=>⟨trivial,k0q,zV i.m.used,rfl,trivial,λ_ _=>⟨k0q,(),k0q⟩⟩⟩
def yLy:newGC.ok Tryz.prog 47:=okw (V:=y0o) mixed (gokc yOv gok0) 0 (λ_=>[]) (λ_=>[]) [] Tryz.func47 λ(p:Prd) h=>by
 refine⟨p,rF7 (rF3 ⟨rfl,h,λ_ c=> .inl ⟨(),rF3 c⟩,λ_ c=>Cv.cnd.mk (λe=> .inr ⟨(),trivial,rfl,c⟩) (λe=>absurd (by simpa using e) c)⟩)⟩
def yOw:grejC.ok Tryz.prog 96:=okw (V:=y0l) mixed gok0 0 (λ_=>[]) (λ_=>[]) [] Tryz.func96 λ(i:GrI) h=>⟨(),rfl,trivial⟩
def zYa:greadC.ok Tryz.prog 95:=okw (V:=yYa) mixed (gokc yOa gok0) 0 (λ_=>[]) (λ_=>[]) [] Tryz.func95 λ(i:SbI) h=>by
 have h:i.b.length<=1099511627776:=h;have hbad:i.s<0\/8<=i.s->zQ i.s i.b=(cmd0,1):=λe=>y6a e
 refine zI (λe=> ?_) (λe=>zI (λe2=> ?_) (λe2=> ?_))
 ·rw[hbad (.inl e)];exact⟨(),rF7 (rF3 trivial)⟩
 ·rw[hbad (.inr e2)];exact⟨(),rF7 (rF3 trivial)⟩
 ·have hg:zQ i.s i.b=xI i.b:=y5x oM;rw[hg];exact⟨i.b,rfl,h,λ_ _=>⟨(),rF7 (rF3 trivial)⟩⟩
def nR (id:Int) (W:List (Int×Int)):∀p∈y9 W,like (ak aj id) p.1=aw:=by
 intro p hp;obtain⟨k,_,rfl⟩:=y7j.1 hp;rfl
def zYb (id s:Int):∀W:List (Int×Int),uH (ak aj id) [D.v (.int .i64 s)] (y9 W)=y9 (zOn W id s)
 |[]=>rfl
 |x::W=>by
  have ih:=zYb id s W;have e:c8 (ak aj id) (ak aj x.1)=decide (id=x.1):=by simp[c8,keq]
  show(bif c8 (ak aj id) (ak aj x.1)then(ak aj x.1,[D.v (.int .i64 s)])::y9 W else(ak aj x.1,[D.v (.int .i64 x.2)])::uH (ak aj id) [D.v (.int .i64 s)] (y9 W))=_;rw[e,ih,zOn];by_cases c:id=x.1
  ·rw[y6p c,cond_true,y6a c];rfl
  ·rw[y6n c,cond_false,y5x c];rfl
def lS (id:Int):∀W:List (Int×Int),kC (ak aj id) (y9 W)=ay [D.v (.int .i64 (qS W id).1)]/\(qS W id).2=aw\/kC (ak aj id) (y9 W)=az/\[D.v (.int .i64 (qS W id).1)]=[D.v (.int .i64 0)]/\(qS W id).2=ax
 |[]=> .inr ⟨rfl,rfl,rfl⟩
 |x::W=>by
  have ih:=lS id W;have e:c8 (ak aj id) (ak aj x.1)=decide (id=x.1):=by simp[c8,keq]
  have e2:kC (ak aj id) (y9 (x::W))=bif c8 (ak aj id) (ak aj x.1)then ay [D.v (.int .i64 x.2)]else kC (ak aj id) (y9 W):=rfl
  rw[e2,e,yGc];by_cases c:id=x.1
  ·rw[y6p c,cond_true,y6a c];exact .inl ⟨rfl,rfl⟩
  ·rw[y6n c,cond_false,y5x c];exact ih
def gowner_ok:gownerC.ok Tryz.prog 21:=okw (V:=yLx) mixed gok0 0 (λ_=>[]) (λ_=>[]) [0] Tryz.func21 λ(i:GtI) h=>⟨nR _ _,_,_,lS i.s i.g.W,(),rfl,rfl,k0q,rfl,trivial⟩
def gmkt_ok:gmktC.ok Tryz.prog 22:=okw (V:=yZc) mixed (gokc zXw gok0) 0 (λ_=>[]) (λ_=>[]) [0] Tryz.func22 λ(i:GtI) h=>⟨⟨i.g.m,i.p,i.B,i.U⟩,rfl,h,λ_ _=>⟨(),rF3 trivial⟩⟩
def yYs {l:List Int} {k:Nat} {n:Int} {f:Int->Bool} (h:l[k]? =ay n):(l.take (k+1)).countP f=(l.take k).countP f+if f n then 1 else 0:=by
 rw[y7h,h,List.countP_append];simp[List.countP_cons]
def yDr (W:List (Int×Int)) (B:List (List zH)) (s:Int) (l:List Int) (h:l.Perm ((whL 0 B).map (·.1))):(zKa B W s:Int)=l.countP λx=>decide ((qS W x).1=s):=by
 rw[h.countP_eq,List.countP_map];rfl
def yAo {l:List Int} {W:List (Int×Int)} {s:Int} (hl:l.length<=1000000):∀{k:Nat} {n:Int},l[k]? =ay n->aj.wrap (((l.take k).countP λx=>decide ((qS W x).1=s):Nat)+1:Int)=((l.take k).countP λx=>decide ((qS W x).1=s):Nat)+1:=by
 intro k n h;have:=List.countP_le_length (p:=λx=>decide ((qS W x).1=s)) (l:=l.take k);rw[y6t]at this;exact w64 oM
def yOh {p:Prd} {B:List (List zH)} (h:BWf p B) {l:List Int} (hl:l.Perm ((whL 0 B).map (·.1))):l.length<=1000000:=by
 have h1:=z3h (B:=B) 0 λL hL=>by
  obtain⟨k,hk⟩:=y8p.1 hL;exact(h.od k L hk).2.2
 have:=h.ok.bl;have:=xL p;have:=hl.length_eq;rw[y5z]at this;omega
def yVv (i:GtI) (h:gopenC.cnd i):yHq i:=by
 obtain⟨⟨m,W⟩,p,B,U,s⟩:=i;have h:m.Rep p B U/\BOk p B:=h;unfold yHq zDp dI;dsimp only;refine⟨⟨m,p,B,U⟩,rfl,h,λl hl=> ?_⟩;have hle:=yOh (h.1.s.wf h.2) hl;refine⟨(0,0),rfl,rfl,λj=>j.2<=l.length/\j.1=((l.take j.2).countP λx=>decide ((qS W x).1=s):Nat),λj=>l.length-j.2,⟨y7e _,rfl⟩,?_⟩;rintro⟨n,k⟩ ⟨j1,j2⟩;dsimp only at j1 j2 ⊢;subst j2;refine zI (λe=> ?_) (λe=> ?_)
 ·rw[yY]at e;obtain⟨x,hx⟩:=yC (l:=l) (i:=k) oM;have hc:=yYs (f:=λx=>decide ((qS W x).1=s)) hx;refine⟨⟨oM,by rw[yY];exact e⟩,x,elA hx (by simp) rfl,nR _ _,_,_,lS x W,Cv.cnd.mk (λe2=>⟨(_,k+1),(yAo hle hx).symm,wjn oM,⟨Z9,?_⟩,Z9,k0q⟩) (λe2=>⟨(_,k+1),rfl,wjn oM,⟨Z9,?_⟩,Z9,k0q⟩)⟩
  ·have e2:(qS W x).1=s:=by simpa using e2
   dsimp only;rw[hc,y6p e2];rfl
  ·have e2:¬(qS W x).1=s:=by simpa using e2
   dsimp only;rw[hc,y6n e2];rfl
 ·rw[yY]at e;have hk:l.take k=l:=y6k oM;rw[hk];exact⟨(),yDr W B s l hl,rfl,rfl,trivial⟩
def yAv:gopenOC.ok Tryz.prog 97:=okw (V:=yOj) mixed (gokc yPd gok0) 0 (λ_=>[]) (λ_=>yWm) [] Tryz.func97 λ(i:GtI) h=>yVv i h
def yBb {b:List UInt8} (h:(xI b).2=0):(xI b).1.right=0:=by
 rw[xI]at h ⊢;dsimp only at h ⊢;split at h
 ·cases h
 ·rename_i h1;rw[y5x h1];split at h
  ·cases h
  ·rename_i h2;rw[y5x h2];split at h
   ·rename_i h3;exact absurd h h3
   ·rename_i h3;rw[y5x h3];simpa using h3
def zOa (n:Int):i64r (aj.wrap n):=by
 rw[IntKind.wrap];simp only[IntKind.bits,IntKind.signed];simp;omega
def z7k:i64r 0:=⟨Z8,Z8⟩
def yWc (k id:Int) (r:RB):i64r (xY k id r).1.qty:=by
 rw[xY];split
 ·exact zOa _
 split
 ·exact zOa _
 split
 ·exact zOa _
 ·exact z7k
def yNu (b:List UInt8):i64r (xI b).1.qty:=by
 rw[xI];dsimp only;split
 ·exact z7k
 split
 ·exact z7k
 split
 ·exact z7k
 ·exact yWc _ _ _
def yNm {p:Prd} {B:List (List zH)} (h:BWf p B) (U:List Int) (c:Cmd):(doF p B U c).R.length<=1503000003:=by
 have hbl:=h.ok.bl;have hrj:∀w,(nE c w).length<=1503000003:=λw=>by simp[nE]
 rw[doF];split
 ·exact hrj _
 rename_i hr;have hr:c.right=0:=by simpa using hr
 split
 ·rename_i hk;obtain⟨_,hq,_⟩:=zSd hr hk;rw[nB];split
  ·exact hrj _
  rename_i hp;have hp:p.price c.inst c.price=0:=by simpa using hp
  have hin:=zOt hp;split
  ·exact hrj _
  split
  ·exact hrj _
  split
  ·exact hrj _
  split
  ·exact hrj _
  have:=zBy h U (c:=c) oM hq;omega
 rename_i hk;split
 ·exact hrj _
 rename_i hf;have hf:(zK B c.id).2.2=aw:=by simpa using hf
 have hf:zK B c.id=((zK B c.id).1,(zK B c.id).2.1,aw):=by rw[<- hf]
 obtain⟨hin,_⟩:=zUp h hf;split
 ·rename_i h4;have hq:=zJh hr hk oM;rw[gC];split
  ·exact hrj _
  split
  ·simp[cC]
  split
  ·exact hrj _
  have:=zBy (h.take c.id (zK B c.id).2.1.qty) U (c:=⟨1,c.id,(zK B c.id).1,(zK B c.id).2.1.side,c.price,c.qty,0,1,[]⟩) (by dsimp only;rw[pP];exact hin) hq;dsimp only;rw[y5y];have e1:(uP B U c.id (zK B c.id).1 (zK B c.id).2.1).R.length=1:=rfl;have e2:(uP B U c.id (zK B c.id).1 (zK B c.id).2.1).B=(qW B c.id (zK B c.id).2.1.qty).1:=rfl;rw[e1,e2];omega
 split
 ·simp[uP]
 ·simp[cC]
def yOy {b:List UInt8} (h:b.length<=1099511627776):(xI b).1.label.length<=255:=by
 have h0:(RB.mk b ax).ok:=h;rw[xI];dsimp only;split
 ·exact y7e _
 split
 ·exact y7e _
 split
 ·exact y7e _
 ·exact(yQr (gG (mR h0))).2
def zRl (p:Prd) (B:List (List zH)) (U:List Int) (W:List (Int×Int)) (s:Int) (b:List UInt8):aW p B U W s b=if(zQ s b).2≠0 then yAp B U W s 0 (zQ s b).2 else zBq p B U W s (zQ s b).1:=by
 rw[aW,zQ];by_cases c:s<0\/8<=s
 ·rw[y6a c,y6a c];rfl
 ·rw[y5x c,y5x c]
def yUr {s:Int} {b:List UInt8} (hb:b.length<=1099511627776) (h:(zQ s b).2=0):(zQ s b).1.right=0/\i64r (zQ s b).1.qty/\(zQ s b).1.label.length<=255:=by
 rw[zQ]at h ⊢;split at h
 ·cases h
 ·rename_i c;rw[y5x c];exact⟨yBb h,yNu b,yOy hb⟩
def wjN {j:Nat} (h:(j:Int)<=9223372036854775806):((j+1:Nat):Int)=aj.wrap ((j:Int)+1):=by rw[w64 (by omega)];rfl
def y4k (i:GdI) (h:gdoC.cnd i):yZf i:=by
 obtain⟨⟨m,W⟩,p,B,U,s,b,X⟩:=i;obtain⟨hMB,hb,hX⟩:(m.Rep p B U/\BOk p B)/\b.length<=1099511627776/\X=aW p B U W s b:=h;rw[zRl]at hX;have hc:= @yUr s b hb;unfold yZf zUh zLo zWj zWi zUk zTy zWd aL aG mK aY mC aT aS aV zEo aK lN zEq dI;dsimp only;generalize hrd:zQ s b=y at hX hc;obtain⟨c,why⟩:=y;dsimp only at hX hc;refine⟨⟨s,b⟩,rfl,rfl,hb,λ_ _=> ?_⟩;dsimp only;rw[hrd];dsimp only;refine Cv.cnd.mk (λe=> ?_) (λe=>⟨nR _ _,_,_,lS c.id W,aw,λx=>x=decide (c.kind=1/\64<=zKa B W s),Cv.cnd.mk (λe1=>⟨⟨⟨m,W⟩,p,B,U,s⟩,rfl,rfl,rfl,hMB,λ_ _=>⟨_,rfl,?_,k0q⟩⟩) (λe1=>⟨ax,rfl,?_,k0q⟩),?_⟩)
 ·have e:why≠0:=by simpa using e
  rw[y6a e]at hX;subst hX;exact⟨⟨s,0,why⟩,rfl,rfl,rfl,trivial,λ_ _=>⟨m,rF3 hMB.1⟩⟩
 ·have e1:c.kind=1:=by simpa using e1
  dsimp only;rw[decide_eq_decide];exact⟨λx=>⟨e1,oM⟩,λx=>by have:=x.2;omega⟩
 ·have e1:¬c.kind=1:=by simpa using e1
  exact(y6n λx=>e1 x.1).symm
 have e:why=0:=by simpa using e
 obtain⟨hr,hq,hlab⟩:=hc e;rw[y5x (by rw[e];decide),zBq]at hX;rintro _ rfl;refine zI (λe1=> ?_) (λe1=> ?_)
 ·rw[y6a e1]at hX;subst hX;exact⟨⟨s,c.id,30⟩,rfl,rfl,rfl,trivial,λ_ _=>⟨m,rF3 hMB.1⟩⟩
 rw[y5x e1]at hX;refine⟨aw,λx=>x=decide (c.kind≠1/\((qS W c.id).2=ax\/(qS W c.id).1≠s)),Cv.cnd.mk (λe2=>Cv.cnd.mk (λe3=>⟨aw,rfl,?_,k0q⟩) (λe3=>⟨_,rfl,?_,k0q⟩)) (λe2=>⟨ax,rfl,?_,k0q⟩),?_⟩
 ·have e2:¬c.kind=1:=by simpa using e2
  exact(y6p ⟨e2,.inl (by simpa using e3)⟩).symm
 ·have e2:¬c.kind=1:=by simpa using e2
  have e3:(qS W c.id).2=aw:=by simpa using e3
  show((qS W c.id).1 !=s)=decide (c.kind≠1/\((qS W c.id).2=ax\/(qS W c.id).1≠s));rw[xCc,y7m,bne_iff_ne];exact⟨λx=>⟨e2,.inr x⟩,λx=>x.2.resolve_left (by rw[e3];decide)⟩
 ·have e2:c.kind=1:=by simpa using e2
  exact(y6n λx=>x.1 e2).symm
 rintro _ rfl;refine zI (λe2=> ?_) (λe2=> ?_)
 ·rw[y6a e2]at hX;subst hX;exact⟨⟨s,c.id,26⟩,rfl,rfl,rfl,trivial,λ_ _=>⟨m,rF3 hMB.1⟩⟩
 rw[y5x e2]at hX;have hlen:=yNm (hMB.1.s.wf hMB.2) U c;refine⟨⟨m,p,B,U,c,doF p B U c⟩,rF6 (rF3 ⟨rfl,⟨hMB,y8u hlab Z8,hq,rfl⟩,λo ho=> ?_⟩)⟩;dsimp only at ho ⊢;generalize doF p B U c=Y at hX ho hlen ⊢;obtain⟨YB,YU,R⟩:=Y;dsimp only at hX ho hlen ⊢;subst hX;have e4:(R.map xQ).length=R.length:=y5z ..;refine⟨⟨o,W,[],0⟩,rF3 ⟨rfl,λj=>j.o=o/\j.k<=R.length/\j.O.length=j.k/\(mX s W R).1=(mX s j.W (R.drop j.k)).1/\(mX s W R).2=j.O++(mX s j.W (R.drop j.k)).2,λj=>R.length-j.k,⟨rfl,y7e _,rfl,rfl,rfl⟩,?_⟩⟩;rintro⟨o',W',O,k⟩ ⟨j1,j2,j3,j4,j5⟩;dsimp only at j1 j2 j3 j4 j5 ⊢;subst j1;have e5:(O.map qR).length=O.length:=y5z ..;refine zI (λe6=> ?_) (λe6=> ?_)
 ·obtain⟨r,hr'⟩:=yC (l:=R) (i:=k) oM;have hd:R.drop k=r::R.drop (k+1):=by rw[y8g (by omega),(y6c.1 hr').2]
  rw[hd,mX]at j4 j5;dsimp only at j4 j5;refine⟨⟨oM,e6⟩,r.kind,r.id,r.inst,r.side,r.price,r.qty,r.left,r.why,elA hr' (by simp[xQ]) rfl,Cv.cnd.mk (λe7=>⟨nR _ _,?_⟩) (λe7=>⟨nR _ _,_,_,lS r.id W',?_⟩)⟩
  ·have e7:r.kind=1:=by simpa using e7
   rw[zYb];rw[y6a e7]at j4 j5;refine⟨nR _ _,_,_,lS r.id (zOn W' r.id s),0,λx=>x=if r.kind=2 then s else(qS (zOn W' r.id s) r.id).1,Cv.cnd.mk (λe8=>⟨_,rfl,(y6a (by simpa using e8)).symm,k0q⟩) (λe8=>⟨_,rfl,(y5x (by simpa using e8)).symm,k0q⟩),?_⟩;rintro _ rfl;exact⟨oM,⟨o',zOn W' r.id s,O++[(if r.kind=2 then s else(qS (zOn W' r.id s) r.id).1,r)],k+1⟩,wjN oM,rfl,rfl,by rw[y6i];rfl,⟨rfl,Z9,by rw[y5y];dsimp only;rw[j3];rfl,j4,by rw[j5];simp⟩,Z9,k0q⟩
  ·have e7:¬r.kind=1:=by simpa using e7
   rw[y5x e7]at j4 j5;refine⟨0,λx=>x=if r.kind=2 then s else(qS W' r.id).1,Cv.cnd.mk (λe8=>⟨_,rfl,(y6a (by simpa using e8)).symm,k0q⟩) (λe8=>⟨_,rfl,(y5x (by simpa using e8)).symm,k0q⟩),?_⟩;rintro _ rfl;exact⟨oM,⟨o',W',O++[(if r.kind=2 then s else(qS W' r.id).1,r)],k+1⟩,wjN oM,rfl,rfl,by rw[y6i];rfl,⟨rfl,Z9,by rw[y5y];dsimp only;rw[j3];rfl,j4,by rw[j5];simp⟩,Z9,k0q⟩
 ·have hk:R.drop k=[]:=List.drop_of_length_le oM;rw[hk,mX]at j4 j5;dsimp only at j4 j5;rw[y6w]at j5;rw[j4,j5];exact⟨o',rF3 ho⟩
def yHd:gdoC.ok Tryz.prog 41:=okw mixed (gokc zYa (gokc yOw (gokc yAv (gokc y0h gok0)))) 0 (λ_=>y3l) (λ_=>y4l) [0] Tryz.func41 y4k
def y4c {l:List Cmd} {k:Nat} {c:Cmd} (h:l[k]? =ay c):zE (l.map cmdE) k 0 9=ay [D.v (.int .i64 c.kind),.v (.int .i64 c.id),.v (.int .i64 c.inst),.v (.int .i64 c.side),.v (.int .i64 c.price),.v (.int .i64 c.qty),.v (.int .i64 c.least),.v (.int .i64 c.time),.v (.string (sb c.label))]:=elA h (by simp[cmdE]) rfl
def mk0 (p:Prd):Mkt:=⟨p,mI p,[]⟩
def yPp (p:Prd):(mk0 p).Rep p (List.replicate p.count []) []:=⟨rfl,z4y _,rfl⟩
structure zZp where
 seq:Int
 inst:Int
 side:Int
 price:Int
 qty:Int
 count:Int
 implied:Bool
 deriving DecidableEq
deriving instance DecidableEq for Lv
def yMd (s:Int) (L:List Lv):Prop:=L.Pairwise λa b=>btr s a.price b.price=aw
def vP (s:Int):Nat->List Lv->List Lv->List Lv
 |0,_,_=>[]
 |k+1,[],[]=>[]
 |k+1,x::X,[]=>⟨x.price,0,0⟩::vP s k X []
 |k+1,[],y::Y=>y::vP s k [] Y
 |k+1,x::X,y::Y=>if btr s x.price y.price=aw then⟨x.price,0,0⟩::vP s k X (y::Y)else if btr s y.price x.price=aw then y::vP s k (x::X) Y else(if x=y then[]else[y])++vP s k X Y
def yWz {s x y z:Int} (h:btr s x y=aw) (h2:btr s y z=aw):btr s x z=aw:=by
 rw[btr]at h h2 ⊢;split
 ·rename_i e;rw[y6a e]at h h2;have:=y7f h;have:=y7f h2;exact y6p oM
 ·rename_i e;rw[y5x e]at h h2;have:=y7f h;have:=y7f h2;exact y6p oM
def yLn {s x y:Int} (h:btr s x y=ax) (hne:x≠y):btr s y x=aw:=by
 rw[btr]at h ⊢;split
 ·rename_i e;rw[y6a e]at h;have:=xAn h;exact y6p oM
 ·rename_i e;rw[y5x e]at h;have:=xAn h;exact y6p oM
def y5g (L:List Lv):Prop:=∀l∈L,1<=l.qty
def zRa {s:Int}:∀(k:Nat) (A:List Lv),vP s k A A=[]
 |0,_=>rfl
 |k+1,[]=>rfl
 |k+1,x::A=>by
  rw[vP];have:btr s x.price x.price=ax:=by rw[btr];split<;>simp
  rw[y5x (by rw[this];decide),y5x (by rw[this];decide),y6a rfl,zRa k A];rfl
open Classical
def Lv.fit (x:Lv):Prop:=i64r x.price/\i64r x.qty/\i64r x.count
def Sd.fit (s:Sd):Prop:=(∀x∈s.levels,x.fit)/\s.imp.fit
def y3f (v:Vw):Prop:=∀b∈v,b.1.fit/\b.2.fit
structure VM where
 inst:Nat
 side:Int
 l:Lv
 imp:Bool
def lv0:Lv:=⟨0,0,0⟩
def yEv (a b:Sd):Bool:=decide (a.imp≠b.imp)||decide (a.has≠b.has)
def yCk (b:Sd):Lv:=if b.has=aw then b.imp else lv0
def j8 (n:Nat) (s:Int) (a b:Sd):List VM:=(vP s (a.levels.length+b.levels.length) a.levels b.levels).map (λl=>⟨n,s,l,ax⟩)++if yEv a b=aw then[⟨n,s,yCk b,aw⟩]else[]
def z7l (n:Nat) (s:Int) (a:Sd):j8 n s a a=[]:=by
 rw[j8,zRa];simp[yEv]
def j0 (n:Nat):Vw->Vw->List VM
 |a::A,b::B=>j8 n 1 a.1 b.1++j8 n 2 a.2 b.2++j0 (n+1) A B
 |_,_=>[]
def zWo:∀(n:Nat) (A:Vw),j0 n A A=[]
 |_,[]=>rfl
 |n,a::A=>by rw[j0,z7l,z7l,zWo];rfl
def z9r {s:Int}:∀{F:List zH},zXf s F->yMd s (grp F)
 |[],_=>List.Pairwise.nil
 |o::F,h=>by
  rw[zXf,y9s]at h;have ih:=z9r h.2;rw[grp];cases hg:grp F with
  |nil=>exact List.pairwise_singleton _ _
  |cons v vs=>
   rw[hg]at ih;dsimp only;have hv:=ih;rw[yMd,y9s]at hv;by_cases e:v.price=o.price
   ·rw[y6a e];exact y9s.2 ⟨λw hw=>hv.1 w hw,hv.2⟩
   ·rw[y5x e];obtain⟨o',r,e2,e3⟩:=zNn hg;have hb:btr s o.price v.price=aw:=by
     rw[<- e3];refine yLn (h.1 o' (by rw[e2];exact y6e)) (by rw[e3];exact e)
    refine y9s.2 ⟨λw hw=> ?_,ih⟩;rcases y6q.1 hw with rfl|hw
    ·exact hb
    ·exact yWz hb (hv.1 w hw)
def yPn {p:Prd} {B:List (List zH)} (h:BWf p B) {k:Nat} {L:List zH} (hL:B[k]? =ay L) {s:Int} (hs:s=1\/s=2):yMd s (hJ L s)/\y5g (hJ L s):=
 ⟨z9r (h.srt k L hL s hs),λl hl=>(z8m (λo ho=>(h.od k L hL).1 o (y7y.1 ho).1) hl).1⟩
def f7 (l:List Quote) (b:Quote):Int×Int:=l.foldl (λa q=>if q.price=b.price then(if q.qty>a.1 then q.qty else a.1,a.2+1)else a) (b.qty,0)
def qH (l:List Quote) (s:Int):Lv×Bool:=if(zW l s).2 then(⟨(zW l s).1.price,(f7 l (zW l s).1).1,(f7 l (zW l s).1).2⟩,aw)else(⟨0,0,0⟩,ax)
def showC:Con:=con1 BsI (λi=>[roV 6 (i.l.map zJ),zA i.s]) (λ_=>[]) (λi=>(i.s=1\/i.s=2)/\i.l.length<=1000000) (λi=> .tup [zA (qH i.l i.s).1.price,zA (qH i.l i.s).1.qty,zA (qH i.l i.s).1.count,yP (qH i.l i.s).2]) (λ_=>[])
def yTf (i:BsI):List SAnn:=[{ι:=Nat,slots:=λk=>[(8,.nm 0 0),(10,zA (f7 (i.l.take k) (zW i.l i.s).1).1),(11,zA (f7 (i.l.take k) (zW i.l i.s).1).2),(26,zA k)],rows:=λ_=>[.cells (zUd (zW i.l i.s).1).cl 172]}]
def zFa (p:Prd) (B:List (List zH)) (n:Nat) (s:Int):Sd:=⟨hJ (B.getD n []) s,(qH (xW ⟨p,B.map kD,n⟩ s) s).1,(qH (xW ⟨p,B.map kD,n⟩ s) s).2⟩
def y5 (p:Prd) (B:List (List zH)):Vw:=(List.range p.count).map λn=>(zFa p B n 1,zFa p B n 2)
structure LkI where
 s:MSt
 p:Prd
 B:List (List zH)
def y0n (i:LkI):List SAnn:=[
 {ι:=Nat,slots:=λj=>[(5,.nm 0 0),(6,.own 2),(27,zA j)],rows:=λj=>[.cells [.own 1] 71,.own 130 10 (((y5 i.p i.B).take j).map yG),.fro 6 ((i.B.map kD).map z6)]},
 {ι:=Unit,slots:=λ_=>[],rows:=λ_=>[],un:=3}]
def xG (m:zZp):List D:=[.v (.int .i64 m.seq),.v (.int .i64 m.inst),.v (.int .i64 m.side),.v (.int .i64 m.price),.v (.int .i64 m.qty),.v (.int .i64 m.count),.v (.bool m.implied)]
@[reducible] def zNh:Nat:=154
@[reducible] def yBa (l:List zZp):AObj:= .own zNh 7 (l.map xG)
def wM (seq:Int):List VM->List zZp
 |[]=>[]
 |m::M=>⟨seq+1,m.inst,m.side,m.l.price,m.l.qty,m.l.count,m.imp⟩::wM (seq+1) M
structure Dfr where
 seq:Int
 out:List zZp
@[reducible] def DfO (d:Dfr):List AObj:=[.cells [zA d.seq,.own 1] 230,yBa d.out]
@[reducible] def DfP (d:Dfr):List AObj:=[.cells [zA d.seq,.own 2] 230,.gone,yBa d.out]
def Dfr.add (d:Dfr) (M:List VM):Dfr:=⟨d.seq+M.length,d.out++wM d.seq M⟩
@[reducible] def Dfr.ok (d:Dfr) (n:Nat):Prop:= -4611686018427387904<=d.seq/\d.seq+n<=4611686018427387904/\d.out.length+n<=1000000000
structure DtI where
 d:Dfr
 m:VM
def dtellC:Con:=con1 DtI (λi=>[.nm 0 0,zA i.m.inst,zA i.m.side,lvV i.m.l,yP i.m.imp]) (λi=>DfO i.d) (λi=>i.d.ok 1) (λ_=>tH) (λi=>DfP (i.d.add [i.m]))
structure DsI where
 d:Dfr
 n:Nat
 s:Int
 a:Sd
 b:Sd
def dsideC:Con:=con1 DsI (λi=>[.nm 0 0,zA i.n,zA i.s,sdV i.a,sdV i.b]) (λi=>DfO i.d) (λi=>i.d.ok (i.a.levels.length+i.b.levels.length+1)) (λ_=>tH) (λi=>DfP (i.d.add (j8 i.n i.s i.a i.b)))
structure DsJ where
 x:List Lv
 y:List Lv
 M:List VM
def yWp (i:DsI):List SAnn:=[{ι:=DsJ,slots:=λj=>[(0,.nm 0 0),(10,roV 3 (j.x.map lvE)),(11,roV 3 (j.y.map lvE))],rows:=λj=>DfO (i.d.add j.M)}]
def y5n:SAnn:={ι:=Dfr,slots:=λ_=>[(0,.nm 0 0)],rows:=λd=>DfO d,slots0:=λ_=>[(0,.nm 0 0)],rows0:=λd=>DfO d}
def lvT (t:Nat):SAnn:={ι:=Lv,slots:=λ_=>[(t,.nm 0 0)],rows:=λl=>[.cells [zA l.price,zA l.qty,zA l.count] 127],slots0:=λ_=>[(t,.nm 0 0)],rows0:=λl=>[.cells [zA l.price,zA l.qty,zA l.count] 127]}
def yTz:List (Nat×SAnn):=[(24,bj 41),(36,bj 73),(12,bj 29),(14,y5n),(48,bj 109),(58,lvT 12)]
structure DvI where
 v:Vw
 w:Vw
 seq:Int
def Vw.levs (v:Vw):Nat:=(v.map λb=>b.1.levels.length+b.2.levels.length).sum
def diffC:Con:=con1 DvI (λi=>[vwV i.v,vwV i.w,zA i.seq]) (λ_=>[]) (λi=>i.v.length=i.w.length/\(-4000000000000000000<=i.seq/\i.seq<=4000000000000000000)/\Vw.levs i.v<=100000000/\Vw.levs i.w<=100000000/\i.v.length<=1000000) (λ_=> .own 0) (λi=>[yBa (wM i.seq (j0 0 i.v i.w))])
def yZw (i:DvI):List SAnn:=[
 {ι:=Nat,slots:=λj=>[(7,.nm 0 0),(24,zA j)],rows:=λj=>DfO (Dfr.add ⟨i.seq,[]⟩ (j0 0 (i.v.take j) (i.w.take j)))},
 {ι:=Unit,slots:=λ_=>[],rows:=λ_=>[],un:=3}]
end Sx
