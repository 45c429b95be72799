/- Texts of ours. No condition. -/
import Derived.Maps.RangeRun
import Derived.Test.YtaafldgiafcgfaaGreatD11
set_option linter.all false
open Sx.AObj renaming cells->aa,map->ab,own->ac,adt->ae,fro->af,objs->ag
open Go.IntKind renaming i64->aj
open Go.Value renaming int->ak
open Go renaming MapEntry->am,TypeId->ao,Value->ap,World->aq
open List renaming map->ar,map_singleton->au,length->av
open Bool renaming true->aw,false->ax
open Option renaming some->ay,none->az
open List.Perm renaming swap->ba,cons->bc
namespace Sx
set_option maxRecDepth 100000
open Go Cv Go.Proofs
def upd (f:Int->Int) (k v:Int):Int->Int:=λx=>if x=k then v else f x
def one (r:Rep) (m:Int):Int:=if r.kind=3/\r.inst=m then(if r.side=1 then r.qty else-r.qty)else 0
def vq (p:Prd) (k s q m:Int):Int:=
 if(p.legs k).2.2=aw then(if(p.legs k).1=m then(if s=1 then q else-q)else 0)-(if(p.legs k).2.1=m then(if s=1 then q else-q)else 0)
 else if k=m then(if s=1 then q else-q)else 0
def gE (W:List (Int×Int)) (id:Int):Int×Bool:=match W.find? λx=>decide (x.1=id)with
 |some x=>(x.2,aw)
 |none=>(0,ax)
def zYm:List (Int×Int)->Int->Int->List (Int×Int)
 |[],id,s=>[(id,s)]
 |x::W,id,s=>if id=x.1 then(x.1,s)::W else x::zYm W id s
def yGg (x:Int×Int) (W:List (Int×Int)) (id:Int):gE (x::W) id=if id=x.1 then(x.2,aw)else gE W id:=by
 rw[gE,y6s];by_cases c:id=x.1
 ·rw[y1a c,y1v c.symm]
 ·rw[y0y c,y1s (λe=>c e.symm)];rfl
structure GtX where
 B:List (List zG)
 U:List Int
 W:List (Int×Int)
 O:List (Int×Rep)
def z7c (B:List (List zG)) (U:List Int) (W:List (Int×Int)) (s id why:Int):GtX:=⟨B,U,W,[(s,⟨2,id,0,0,0,0,0,why⟩)]⟩
def l6 (s:Int):List (Int×Int)->List Rep->List (Int×Int)×List (Int×Rep)
 |W,[]=>(W,[])
 |W,r::R=>
  let W1:=if r.kind=1 then zYm W r.id s else W
  ((l6 s W1 R).1,(if r.kind=2 then s else(gE W1 r.id).1,r)::(l6 s W1 R).2)
def zHw (B:List (List zG)) (W:List (Int×Int)) (s:Int):Nat:=(whL 0 B).countP λx=>decide ((gE W x.1).1=s)
def z5a (p:Prd) (B:List (List zG)) (U:List Int) (W:List (Int×Int)) (s:Int) (c:Cmd):GtX:=
 if c.kind=1/\64<=zHw B W s then z7c B U W s c.id 30
 else if c.kind≠1/\((gE W c.id).2=ax\/(gE W c.id).1≠s)then z7c B U W s c.id 26
 else⟨(doF p B U c).B,(doF p B U c).U,(l6 s W (doF p B U c).R).1,(l6 s W (doF p B U c).R).2⟩
def zIe (p:Prd) (B:List (List zG)) (U:List Int) (W:List (Int×Int)) (s:Int) (b:List UInt8):GtX:=
 if s<0\/8<=s then z7c B U W s 0 1 else if(xD b).2≠0 then z7c B U W s 0 (xD b).2 else z5a p B U W s (xD b).1
def z6d:∀{l m:List Nat},l.Nodup->(∀x∈l,x∈m)->l.length<=m.length
 |[],m,_,_=>y2a _
 |a::l,m,h,hs=>by
  rw[y3l]at h;have ha:=hs a y1f;have:=z6d (l:=l) (m:=m.erase a) h.2 λx hx=>(List.mem_erase_of_ne (λe=>h.1 (by rw[<- e];exact hx))).2 (hs x (y1g _ hx))
  rw[List.length_erase_of_mem ha]at this;have:=List.length_pos_of_mem ha;rw[y1d];omega
structure Handed (ents:List am) (seen:Array Nat) (dn:List am):Prop where
 sn:seen.toList=dn.map (·.born)
 nd:(dn.map (·.born)).Nodup
 sub:∀e∈dn,e∈ents
def Handed.push {ents:List am} {seen:Array Nat} {dn:List am} (h:Handed ents seen dn) {e:am} (he:e∈(leftOf ents.toArray seen).toList):Handed ents (seen.push e.born) (dn++[e]):=by
 simp only[leftOf,Array.toList_filter,y2x,y4k]at he;obtain⟨h1,h2⟩:=he;have h3:e.born∉dn.map (·.born):=by
  rw[<- h.sn];intro hm;have:seen.contains e.born=aw:=by
   rw[Array.contains_iff_mem];exact Array.mem_toList_iff.1 hm
  rw[this]at h2;cases h2
 refine⟨by rw[Array.toList_push,h.sn,y1i];rfl,?_,λx hx=> ?_⟩
 ·rw[y1i,au,y3g];exact⟨h.nd,by simp,λx hx y hy e=>by rw[y2l]at hy;subst hy;subst e;exact h3 hx⟩
 ·rcases y2f.1 hx with hx|hx
  ·exact h.sub x hx
  ·rw[y2l]at hx;subst hx;exact h1
def Handed.len {ents:List am} {seen:Array Nat} {dn:List am} (h:Handed ents seen dn):dn.length<=ents.length:=by
 have:=z6d (m:=ents.map (·.born)) h.nd λx hx=>by
  obtain⟨e,he,rfl⟩:=y2m.1 hx;exact y2c (f:=(·.born)) (h.sub e he)
 simpa using this
def Handed.all {ents:List am} {seen:Array Nat} {dn:List am} (h:Handed ents seen dn) (hn:(ents.map (·.born)).Nodup) (h0:(leftOf ents.toArray seen).size=0):dn.Perm ents:=by
 have inj:∀{l:List am},(l.map (·.born)).Nodup->∀x∈l,∀y∈l,x.born=y.born->x=y:=by
  intro l hl
  induction l with
  |nil=>intro x hx;cases hx
  |cons a l ih=>
   rw[y1m,y3l]at hl;intro x hx y hy e;rcases y1r.1 hx with e1|h1<;>rcases y1r.1 hy with e2|h2
   ·rw[e1,e2]
   ·refine absurd ?_ hl.1;rw[<- e1,e];exact y2c (f:=(·.born)) h2
   ·refine absurd ?_ hl.1;rw[<- e2,<- e];exact y2c (f:=(·.born)) h1
   ·exact ih hl.2 x h1 y h2 e
 have nd:∀{l:List am},(l.map (·.born)).Nodup->l.Nodup:=λhl=>List.Pairwise.imp (λhne e=>hne (by rw[e])) (List.pairwise_map.1 hl)
 refine(List.perm_ext_iff_of_nodup (nd h.nd) (nd hn)).2 λe=>⟨h.sub e,λhe=> ?_⟩
 have:seen.contains e.born=aw:=by
  cases hc:seen.contains e.born with
  |true=>rfl
  |false=>
   have hm:e∈(leftOf ents.toArray seen).toList:=by
    simp only[leftOf,Array.toList_filter,y2x];exact⟨he,by rw[hc];rfl⟩
   have:(leftOf ents.toArray seen).toList=[]:=y1z (by simpa using h0);rw[this]at hm;cases hm
 rw[Array.contains_iff_mem]at this;have:=Array.mem_toList_iff.2 this;rw[h.sn]at this;obtain⟨x,hx,e2⟩:=y2m.1 this;rw[<- inj hn x (h.sub x hx) e he e2];exact hx
def zZw (k:Ko) (LL:List HP) (ents:List am) (e:Ending) (w':aq):Prop:=∃(a:Option Addr) (n c:Nat) (xs:List ap) (dn:List am),e=.returned (.slice a n c)/\xs=dn.map (·.key)/\n=dn.length/\dn.Perm ents/\Hp k w' (slO 2 1 a n c xs::LL)
def yAj (k:Ko) (LL:List HP) (ents:List am) (r bm ck:Nat) (v:ap) (w1:aq):Prop:=∃(a:Option Addr) (n c:Nat) (xs:List ap) (seen:Array Nat) (c0:Nat) (dn:List am),v=.slice a n c/\xs=dn.map (·.key)/\n=dn.length/\ck<=c0/\Handed ents seen dn/\Hp k w1 (slO 2 1 a n c xs::pt r (.mapIter (ay bm) ck seen c0)::LL)
def yEe (ents:List am) (v:ap) (_:aq):Nat:=match v with| .slice _ n _=>ents.length-n|_=>0
def z9j {b bm ck:Nat} {ents:List am} {w:aq} {k:Ko} {LL:List HP} {l:List ap} {T:ao}
 (H:Hp k w LL) (hat:∀w',Hp k w' LL->w'.heap[b]? =ay (.cells l.toArray T)/\w'.heap[bm]? =ay (.map ents.toArray ck)) (hl:l[12]? =ay (.map (ay bm)))
 (hck:∀e∈ents,e.born<ck) (hn:(ents.map (·.born)).Nodup) (hk:∀e∈ents,∃n,e.key= .int .i64 n) (hsz:ents.length<=1000000):
 Calls Tryz.prog 164 #[.pointer (ay ⟨b,0,az⟩)] w (zZw k LL ents):=by
 refine calls_of_cwp (c:=Tryz.f164.body.getD .skip) (args:=[.pointer (ay ⟨b,0,az⟩)]) mixed Tryz.func164 (by kernel_rfl) [{ι:=ap,chg:=λv=>[(3,v)],fix:=[9]}] (by kernel_rfl) (by kernel_rfl) (by kernel_rfl) ?_;obtain⟨h1,h2⟩:=hat w H;have hu:Tryz.prog.underlying 109=ay (.map 2 3):=by kernel_rfl
 refine⟨ay bm,?_,ay ⟨w.heap.size,0,az⟩,w.alloc (.mapIter (ay bm) ck #[] ck),?_,?_⟩
 ·show aO Tryz.prog 109 ⟨b,12,az⟩ w (.map (ay bm));exact j7 (by kernel_rfl) h1 hl
 ·show(Instr.range 109 (.map (ay bm))).run Tryz.prog w=_;exact run_range_map w _ _ _ bm _ ck hu h2
 refine⟨yAj k LL ents w.heap.size bm ck,yEe ents,⟨.slice az 0 0,rfl,az,0,0,[],#[],ck,[],rfl,rfl,rfl,y1u _,⟨rfl,List.nodup_nil,λe he=>by cases he⟩,(H.new _).nil _ _⟩,?_⟩;rintro j v w1 ⟨a,n,c,xs,seen,c0,dn,rfl,hxs,hnl,hc0,hh,H1⟩;have hr:=H1.drop.get;obtain⟨-,g2⟩:=hat w1 H1.drop.drop;rcases run_next_at (P:=Tryz.prog) w1 0 w.heap.size bm ck c0 seen ents.toArray ck hr g2 (λx hx=>hck x (by simpa using hx)) hc0 with⟨e1,e2⟩|⟨e,he,w2,hw2,hrun⟩
 ·refine .inl ⟨w1,e2,?_⟩;show zZw k LL ents (.returned (.slice a n c)) w1;exact⟨a,n,c,xs,dn,rfl,hxs,hnl,hh.all hn e1,(H1.swap).drop⟩
 ·have hmem:e∈ents:=by
   have:=he;simp only[leftOf,Array.toList_filter,y2x]at this;exact this.1
  obtain⟨m,hm⟩:=hk e hmem;have hp:=hh.push he;have H2:Hp k (World.setB w2 w.heap.size (.mapIter (ay bm) ck (seen.push e.born) ck)) (slO 2 1 a n c xs::pt w.heap.size (.mapIter (ay bm) ck (seen.push e.born) ck)::LL):=by
   have H1':Hp k w2 (slO 2 1 a n c xs::pt w.heap.size (.mapIter (ay bm) ck seen c0)::LL):=by
    rcases hw2 with rfl|rfl
    ·exact H1
    ·exact H1.drew
   exact((H1'.swap).upd _).swap
  have hset:Go.ChangeMaps.setBlock w2 w.heap.size (.mapIter (ay bm) ck (seen.push e.born) ck)=World.setB w2 w.heap.size (.mapIter (ay bm) ck (seen.push e.born) ck):=rfl;rw[hset]at hrun;generalize hw3:World.setB w2 w.heap.size (.mapIter (ay bm) ck (seen.push e.born) ck)=w3 at H2 hrun;obtain⟨-,g3⟩:=hat w3 H2.drop.drop;have hent:=run_entry_at (P:=Tryz.prog) w3 w.heap.size bm ck seen ents.toArray ck e H2.drop.get g3 (by simpa using hmem) (by simpa using hn);refine .inr ⟨e.key,e.val,w3,hrun,.tuple #[e.key,e.val],hent,?_⟩;rw[hm];have hlen:=hp.len;rw[y0x,y2z]at hlen;refine Eq.mp (α:=zYv w3 (.cells #[.int .i64 m] 2) λbb w4=>∃(a':Option Addr) (n' c':Nat),∃w5,uE Tryz.prog (Builtin.append_ #[23,23] 23 #[.slice a n c,.slice (ay ⟨bb,0,az⟩) 1 1]) w4 (.slice a' n' c') w5/\∃i',.slice a' n' c'=i'/\yAj k LL ents w.heap.size bm ck i' w5/\yEe ents i' w5<yEe ents (.slice a n c) w1) (by kernel_rfl) ?_;rintro bb w4 hb hw4;subst hb hw4;have H3:=(H2.new (.cells [ak .i64 m].toArray 2)).lit (sz:=1) (n:=1) rfl;obtain⟨a',c',w5,hap,H5⟩:=(H3.swap).append (P:=Tryz.prog) (t1:=23) (t2:=23) (rt:=23) (e:=2) (sz:=1) (by_:=8) (z:= #[.int .i64 0]) (by kernel_rfl) (by kernel_rfl) (x:= .slice (ay ⟨w3.heap.size,0,az⟩) 1 1) (m:=1) (ys:=[.int .i64 m]) (.inl ⟨_,_,rfl,H3.satR⟩) (by simp[Value.oneC]) rfl Z8 oM;refine⟨a',n+1,c',w5,hap,.slice a' (n+1) c',rfl,⟨a',n+1,c',_,_,ck,dn++[e],rfl,?_,?_,y1u _,hp,(H5.swap).drop⟩,?_⟩
  ·rw[hxs,y1i,au,hm]
  ·rw[y0x,hnl];rfl
  ·show ents.length-(n+1)<ents.length-n;omega
def z4h {F:PH}:∀{l:List (Int×Int)} {ents:List am},MR F (yM l) ents->ents.map (·.key)=l.map (λp=>ak .i64 p.1)
 |[],ents,h=>by
  have h:ents=[]:=h;subst h;rfl
 |p::l,ents,h=>by
  obtain⟨m,ms,rfl,h1,-,h3⟩:=h;rw[y1m,y1m,z4h (l:=l) h3,h1]
def z6o:ap->Int
 | .int _ n=>n
 |_=>0
def z7n {xs:List ap} {m:List Int} (h:xs.Perm (m.map λn=>ak .i64 n)):∃l:List Int,xs=l.map (λn=>ak .i64 n)/\l.Perm m:=by
 refine⟨xs.map z6o,?_,?_⟩
 ·rw[y3j];have:∀x∈xs,((λn=>ak .i64 n)∘z6o) x=x:=by
   intro x hx;obtain⟨n,_,rfl⟩:=y2m.1 (h.mem_iff.1 hx);rfl
  rw[y2g this,List.map_id']
 ·have:=h.map z6o;rw[y3j]at this;have e:(z6o∘λn=>ak .i64 n)=id:=rfl;rw[e,List.map_id]at this;exact this
def z6m (F:PH):∀l:List Int,DRL F (iE l).flatten (l.map λn=>ak .i64 n)
 |[]=>by simp[iE,DRL]
 |n::l=>by
  have ih:=z6m F l;have e:(iE (n::l)).flatten= .v (.int .i64 n)::(iE l).flatten:=rfl;rw[e,DRL];exact⟨.int .i64 n,_,rfl,by simp[DR,Value.oneC],ih⟩
def sids0C:Con where
 ι:=MSt
 pat:=λ_=>[.nm 0 0]
 pre:=λs=>[zD s]
 cnd:=λs=>s.wh.length<=1000000
 alts:=λs=>[{o:=List Int,res:=λ_=> .own 1,post:=λl=>[zD s,.own 2 1 (iE l)],rel:=λl=>l.Perm (s.wh.map (·.1))}]
@[reducible] def zIg (s:MSt):St:=zJb [0] ⟨vZ 0 (sids0C.pre s),(sids0C.pre s).length⟩
def yJi (s:MSt) (l:List Int) (hl:l.Perm (s.wh.map (·.1))):yKa 1 (.own 5) ((zIg s).new (.own 2 1 (iE l))) (sids0C.alts s):=by
 refine Eq.mp (α:=∃(o:List Int),sb s.p.code=sb s.p.code/\s.p.tick=s.p.tick/\s.p.low=s.p.low/\s.p.high=s.p.high/\s.p.wide=s.p.wide/\s.p.rule=s.p.rule/\s.p.top=s.p.top/\s.p.least=s.p.least/\s.p.part=s.p.part/\ag 197 Book 6 zO s.books az=ag 197 Book 6 zO s.books az/\yM s.wh=yM s.wh/\af 1 (iE s.p.months)=af 1 (iE s.p.months)/\af 1 (iE s.p.settle)=af 1 (iE s.p.settle)/\iE o=iE l/\o.Perm (s.wh.map (·.1))) (by kernel_rfl) ?_
 exact⟨l,rF8 (rF6 hl)⟩
def yGf:sids0C.ok Tryz.prog 164:=by
 intro s hc k L E w ys R hv;have hc:s.wh.length<=1000000:=hc;have hnx:=R.nx;obtain⟨E1,hle,R1⟩:=zBs [0] R;have R1:Rel k L E1 (zIg s) w:=R1;have hc0:(zIg s).get 0=ay (.cells [sV s.p.code,.own 3,zA s.p.tick,zA s.p.low,zA s.p.high,zA s.p.wide,zA s.p.rule,zA s.p.top,zA s.p.least,zA s.p.part,.own 4,.own 1,.mp 2] 195):=rfl;have hc2:((zIg s).del 0).get 2=ay (.map (yM s.wh)):=rfl;have Ra:=(R1.take hc0).take hc2;have H0:Hp k w (rHP E1 (2,.map (yM s.wh))::rHP E1 (0,.cells [sV s.p.code,.own 3,zA s.p.tick,zA s.p.low,zA s.p.high,zA s.p.wide,zA s.p.rule,zA s.p.top,zA s.p.least,zA s.p.part,.own 4,.own 1,.mp 2] 195)::((((zIg s).del 0).del 2).rows.map (rHP E1)++fz E1.F::L)):=
  Ra.out.perm (.cons _ (((ba _ _ _).append_left _).trans y1n))
 generalize hrest:(((zIg s).del 0).del 2).rows.map (rHP E1)++fz E1.F::L=rest at H0;obtain⟨hk,hs,hh⟩:=H0;cases hh with
 |cons ha hsub hdj hr=>
 cases hr with
 |cons ha0 hsub0 hdj0 hr0=>
 rcases ha with⟨e,_⟩|⟨hd2,t2,r2⟩
 ·cases e
 rcases ha0 with⟨e,_⟩|⟨hd0,t0,r0⟩
 ·cases e
 simp only[rowHP]at r2 r0;obtain⟨bm,ents,ck,q1,q2,q3,rfl⟩:=r2;obtain⟨b,l,p1,p2,rfl⟩:=r0;have H:Hp k w (pt bm (.map ents.toArray ck)::pt b (.cells l.toArray 195)::rest):=⟨hk,_,.cons rfl hsub hdj (.cons rfl hsub0 hdj0 hr0)⟩
 have hl12:l[12]? =ay (.map (ay bm)):=by
  simp only[VRL,VR]at p2;obtain⟨_,_,rfl,-,_,_,rfl,-,_,_,rfl,-,_,_,rfl,-,_,_,rfl,-,_,_,rfl,-,_,_,rfl,-,_,_,rfl,-,_,_,rfl,-,_,_,rfl,-,_,_,rfl,-,_,_,rfl,-,y,_,rfl,⟨bb,sub,g1,rfl⟩,rfl⟩:=p2;rw[t2]at g1;cases g1;cases q1;rfl
 have hys:ys=[.pointer (ay ⟨b,0,az⟩)]:=by
  simp only[sids0C,VRL,VR]at hv;obtain⟨y,_,rfl,⟨b',oo,sub,g1,rfl⟩,rfl⟩:=hv;rw[hle.get g1]at t0;cases t0;cases p1;rfl
 subst hys;have hkeys:=z4h q2;have hlen:ents.length=s.wh.length:=by simpa using congrArg av hkeys
 have hcall:=z9j H (λw' H'=>⟨(H'.swap).get,H'.get⟩) hl12 q3.2 q3.1 (λe he=>by
  have:e.key∈ents.map (·.key):=y2c (f:=(·.key)) he
  rw[hkeys]at this;obtain⟨p,_,hp⟩:=y2m.1 this;exact⟨p.1,hp.symm⟩) oM
 have hdo:=bL (P:=Tryz.prog) (f:=164) (args:= #[.pointer (ay ⟨b,0,az⟩)]) (w:=w) (K:=λv w'=>zZw k (pt bm (.map ents.toArray ck)::pt b (.cells l.toArray 195)::rest) ents (.returned v) w') (by kernel_rfl) (hcall.mono λe w' h=>by
  have h2:=h;obtain⟨a,n,c,xs,dn,rfl,-⟩:=h2;exact⟨_,rfl,h⟩)
 refine hdo.mono ?_;rintro v w' ⟨a,n,c,xs,dn,hv',rfl,rfl,hperm,H2⟩;cases hv';obtain⟨li,e1,e2⟩:=z7n (xs:=dn.map (·.key)) (m:=s.wh.map (·.1)) (by
  have:=hperm.map (·.key)
  rw[hkeys]at this;rwa [y3j])
 have elen:dn.length=li.length:=by simpa using congrArg av e1
 rw[e1,elen]at H2;rw[elen];have H3:Hp k w' (slO 2 1 a li.length c (li.map λn=>ak .i64 n)::((zIg s).rows.map (rHP E1)++fz E1.F::L)):=by
  have h1:Hp k w' (rHP E1 (2,.map (yM s.wh))::rHP E1 (0,.cells [sV s.p.code,.own 3,zA s.p.tick,zA s.p.low,zA s.p.high,zA s.p.wide,zA s.p.rule,zA s.p.top,zA s.p.least,zA s.p.part,.own 4,.own 1,.mp 2] 195)::slO 2 1 a li.length c (li.map λn=>ak .i64 n)::rest):=by
   have g0:Hp k w' (pt bm (.map ents.toArray ck)::pt b (.cells l.toArray 195)::slO 2 1 a li.length c (li.map λn=>ak .i64 n)::rest):=
    H2.perm ((ba _ _ _).trans (.cons _ (.swap _ _ _)))
   have g1:=g0.imp (B:=rHP E1 (2,.map (yM s.wh))) λx hx=> .inr ⟨hd2,t2,by simp only[rowHP];exact⟨bm,ents,ck,q1,q2,q3,hx⟩⟩
   have g2:=(g1.swap).imp (B:=rHP E1 (0,.cells [sV s.p.code,.own 3,zA s.p.tick,zA s.p.low,zA s.p.high,zA s.p.wide,zA s.p.rule,zA s.p.top,zA s.p.least,zA s.p.part,.own 4,.own 1,.mp 2] 195)) λx hx=> .inr ⟨hd0,t0,by simp only[rowHP];exact⟨b,l,p1,p2,hx⟩⟩
   exact g2.swap
  subst hrest;refine h1.perm ?_;have p0:=((wB hc0).1.map (rHP E1))
  have p2:=((wB hc2).1.map (rHP E1))
  have p3:=(p0.trans (p2.cons _)).append_right (fz E1.F::L);refine List.Perm.trans ?_ (p3.symm.cons _);exact(ba _ _ _).trans ((bc _ (.swap _ _ _)).trans (.swap _ _ _))
 have hle2:E1.le ⟨E1.F,E1.tab++[((.slice a li.length c,[]):Hd)]⟩:=Ev.le.app _;have hget:(E1.tab++[((.slice a li.length c,[]):Hd)])[(zIg s).nx]? =ay (.slice a li.length c,[]):=by rw[<- R1.nx];simp
 have R2:Rel k L ⟨E1.F,E1.tab++[((.slice a li.length c,[]):Hd)]⟩ ((zIg s).new (.own 2 1 (iE li))) w':=by
  refine⟨by simp[St.new,R1.nx],?_⟩;have g1:Hp k w' ((zIg s).rows.map (rHP E1)++(slO 2 1 a li.length c (li.map λn=>ak .i64 n)::fz E1.F::L)):=H3.perm (y1n (l₁:=(zIg s).rows.map (rHP E1))).symm;have g2:=jK (λr x=>rHP.mono hle2 r) g1;have g3:Hp k w' (slO 2 1 a li.length c (li.map λn=>ak .i64 n)::((zIg s).rows.map (rHP ⟨E1.F,E1.tab++[((.slice a li.length c,[]):Hd)]⟩)++fz E1.F::L)):=g2.perm y1n;exact g3.imp λx hx=> .inr ⟨_,hget,by
   simp only[rowHP];exact⟨a,c,_,by rw[y3],z6m _ li,λel hel=>by obtain⟨n,_,rfl⟩:=y2m.1 hel;rfl,by rw[y3];exact hx⟩⟩
 obtain⟨al,ha,hend⟩:=zCo (yJi s li e2);obtain⟨o,o1,E3,o2,o3,o4⟩:=zSk hend hnx (hle.trans hle2) R2 (y:= .slice a li.length c) (by simp only[VR];exact⟨_,hget,_,_,_,rfl⟩);exact⟨al,ha,o,o1,E3,o2,o3,o4⟩
structure MkB where
 m:Mkt
 p:Prd
 B:List (List zG)
 U:List Int
@[reducible] def MkB.ok (i:MkB):Prop:=i.m.Rep i.p i.B i.U/\BOk i.p i.B
def midsC:Con where
 ι:=MkB
 pat:=λ_=>[.nm 0 0]
 pre:=λi=>[qR i.m]
 cnd:=λi=>i.ok
 alts:=λi=>[{o:=List Int,res:=λ_=> .own 1,post:=λl=>[qR i.m,.own 2 1 (iE l)],rel:=λl=>l.Perm ((whL 0 i.B).map (·.1))}]
structure Gt where
 m:Mkt
 W:List (Int×Int)
def xA (W:List (Int×Int)):List (ap×List D):=W.map λx=>(.int .i64 x.1,[.v (.int .i64 x.2)])
def GtU (g:Gt):Nat->AObj
 |0=> .cells [.nm 1 0,.mp 2] 111
 |1=>qR g.m
 |2=> .map (xA g.W)
 |_=> .gone
def GtR (g:Gt):AObj:= .adt Gt 3 GtU g
def jB (o:Int×Rep):List D:= .v (.int .i64 o.1)::xJ o.2
@[reducible] def yDs:Nat:=67
@[reducible] def zTi (O:List (Int×Rep)):AObj:= .own yDs 9 (O.map jB)
def newGC:Con where
 ι:=Prd
 pat:=λp=>[mD p]
 pre:=λ_=>[]
 cnd:=λp=>p.small
 alts:=λp=>[{o:=Unit,res:=λ_=> .tup [.nm 0 0,zA 0],post:=λ_=>[GtR ⟨⟨p,dS p,[]⟩,[]⟩],rel:=λ_=>p.check=0},{o:=Unit,res:=λ_=> .tup [.d (.v (.pointer az)),zA p.check],post:=λ_=>[],rel:=λ_=>p.check≠0}]
structure GrI where
 s:Int
 id:Int
 why:Int
def grejC:Con:=zR GrI (λi=>[zA i.s,zA i.id,zA i.why]) (λ_=>[]) (λ_=>True) (λ_=> .own 0) (λi=>[zTi [(i.s,⟨2,i.id,0,0,0,0,0,i.why⟩)]])
structure SbI where
 s:Int
 b:List UInt8
def zS (s:Int) (b:List UInt8):Cmd×Int:=if s<0\/8<=s then(zWs,1)else xD b
def greadC:Con:=zR SbI (λi=>[zA i.s,roV 1 (bE i.b)]) (λ_=>[]) (λi=>i.b.length<=1099511627776) (λi=> .tup [zIi (zS i.s i.b).1,zA (zS i.s i.b).2]) (λ_=>[])
structure GtI where
 g:Gt
 p:Prd
 B:List (List zG)
 U:List Int
 s:Int
@[reducible] def GtI.ok (i:GtI):Prop:=i.g.m.Rep i.p i.B i.U/\BOk i.p i.B
def gopenC:Con:=zR GtI (λi=>[.nm 0 0,zA i.s]) (λi=>[GtR i.g]) (λi=>i.ok) (λi=>zA (zHw i.B i.g.W i.s)) (λi=>[GtR i.g])
def GtO (g:Gt):List AObj:=[.cells [.nm 1 0,.mp 2] 111,qR g.m,.map (xA g.W)]
def gopenOC:Con:=zR GtI (λi=>[.nm 0 0,zA i.s]) (λi=>GtO i.g) (λi=>i.ok) (λi=>zA (zHw i.B i.g.W i.s)) (λi=>GtO i.g)
def yPj:List SAnn:=[{ι:=Int×Nat,slots:=λj=>[(5,zA j.1),(14,zA j.2)],rows:=λ_=>[]}]
structure GdI where
 g:Gt
 p:Prd
 B:List (List zG)
 U:List Int
 s:Int
 b:List UInt8
 X:GtX
def gdoC:Con where
 ι:=GdI
 pat:=λi=>[.nm 0 0,zA i.s,roV 1 (bE i.b)]
 pre:=λi=>[GtR i.g]
 cnd:=λi=>(i.g.m.Rep i.p i.B i.U/\BOk i.p i.B)/\i.b.length<=1099511627776/\i.X=zIe i.p i.B i.U i.g.W i.s i.b
 alts:=λi=>[{o:=Mkt,res:=λ_=> .own 1,post:=λo=>[GtR ⟨o,i.X.W⟩,zTi i.X.O],rel:=λo=>o.Rep i.p i.X.B i.X.U}]
structure GdJ where
 o:Mkt
 W:List (Int×Int)
 O:List (Int×Rep)
 k:Nat
def GdJ.rows (j:GdJ):List AObj:=[.cells [.nm 1 0,.mp 2] 111,qR j.o,.map (xA j.W),zTi j.O]
def yZh:List SAnn:=[{ι:=GdJ,slots:=λj=>[(0,.nm 0 0),(11,.own 3),(74,zA j.k)],rows:=GdJ.rows}]
def y0q:List (Nat×SAnn):=[(20,bj 36),(28,bj 50),(66,ij 14)]
def yYk (i:MkB):Prop:=
 ∃(i_1:MSt),zD i_1=zD i.m.s/\i_1.wh.length<=1000000/\∀(o:List Int),o.Perm (ar (λ(x:Int×Int) ↦ x.fst) i_1.wh)->∃(o_1:List Int),da (sb i.m.p.code)/\da i.m.p.tick/\da i.m.p.low/\da i.m.p.high/\da i.m.p.wide/\da i.m.p.rule/\da i.m.p.top/\da i.m.p.least/\da i.m.p.part/\zD i.m.s=zD i_1/\da (zT i.m.used)/\da (af 1 (iE i.m.p.months))/\da (af 1 (iE i.m.p.settle))/\iE o_1=iE o/\o_1.Perm (ar (λ(x:Int×Int) ↦ x.fst) (whL 0 i.B))
def yXg (p:Prd):Prop:=
 ∃(i:Prd),sb i.code=sb p.code/\iE i.months=iE p.months/\i.tick=p.tick/\i.low=p.low/\i.high=p.high/\i.wide=p.wide/\i.rule=p.rule/\i.top=p.top/\i.least=p.least/\i.part=p.part/\iE i.settle=iE p.settle/\(i.code.length<=1099511627776/\i.months.length<=1099511627776/\i.settle.length<=1099511627776)/\(∀(o:Unit),i.check=0->(∃(o:Unit),da ((0:Int))/\ae Mkt 5 yS (Mkt.mk p (dS p) [])=ae Mkt 5 yS (Mkt.mk i (dS i) [])/\xA []=[]/\p.check=0)\/∃(o:Unit),False)/\∀(o:Unit),i.check≠0->cnd (i.check !=0) ((∃(o:Unit),False)\/∃(o:Unit),True/\p.check=i.check/\(p.check=0->False)) ((∃(o:Unit),da ((0:Int))/\False)\/∃(o:Unit),False)
def yWq (i:GrI):Prop:=
 ∃(o:Unit),[jB (i.s,Rep.mk 2 i.id 0 0 0 0 0 i.why)]=[[D.v (.int .i64 i.s),D.v (.int .i64 2),D.v (.int .i64 i.id),D.v (.int .i64 0),D.v (.int .i64 0),D.v (.int .i64 0),D.v (.int .i64 0),D.v (.int .i64 0),D.v (.int .i64 i.why)]]/\True
def yRp (i:SbI):Prop:=
 cnd (decide (i.s<0)) (∃(o:Unit),(zS i.s i.b).fst.kind=0/\(zS i.s i.b).fst.id=0/\(zS i.s i.b).fst.inst=0/\(zS i.s i.b).fst.side=0/\(zS i.s i.b).fst.price=0/\(zS i.s i.b).fst.qty=0/\(zS i.s i.b).fst.least=0/\(zS i.s i.b).fst.time=0/\sb (zS i.s i.b).fst.label=ByteArray.mk #[]/\(zS i.s i.b).snd=1/\True) (cnd (decide (i.s>=8)) (∃(o:Unit),(zS i.s i.b).fst.kind=0/\(zS i.s i.b).fst.id=0/\(zS i.s i.b).fst.inst=0/\(zS i.s i.b).fst.side=0/\(zS i.s i.b).fst.price=0/\(zS i.s i.b).fst.qty=0/\(zS i.s i.b).fst.least=0/\(zS i.s i.b).fst.time=0/\sb (zS i.s i.b).fst.label=ByteArray.mk #[]/\(zS i.s i.b).snd=1/\True) (∃(i_1:List UInt8),bE i_1=bE i.b/\i_1.length<=1099511627776/\∀(o:Unit),True->∃(o:Unit),(zS i.s i.b).fst.kind=(xD i_1).fst.kind/\(zS i.s i.b).fst.id=(xD i_1).fst.id/\(zS i.s i.b).fst.inst=(xD i_1).fst.inst/\(zS i.s i.b).fst.side=(xD i_1).fst.side/\(zS i.s i.b).fst.price=(xD i_1).fst.price/\(zS i.s i.b).fst.qty=(xD i_1).fst.qty/\(zS i.s i.b).fst.least=(xD i_1).fst.least/\(zS i.s i.b).fst.time=(xD i_1).fst.time/\sb (zS i.s i.b).fst.label=sb (xD i_1).fst.label/\(zS i.s i.b).snd=(xD i_1).snd/\True))
def zBc (a:Int×Nat) (b:Int×Nat) (c:Int×Nat->Prop) (d:Int×Nat->Nat) (e:MkB) (f:List Int) (g:GtI):Prop:=(↑a.snd:Int)=aj.wrap ((↑b.snd:Int)+1)/\c a/\d a<d b/\da (qR e.m)/\da (ac 2 1 (iE f))/\da (aa [V.nm 1 0,V.mp 2] (111:ao))/\da (ab (xA g.g.W))
def yFu (i:GtI):Prop:=
 ∃(a:MkB),qR a.m=qR i.g.m/\(a.m.Rep a.p a.B a.U/\BOk a.p a.B)/\∀(b:List Int),b.Perm (ar (λ(x:Int×Int) ↦ x.fst) (whL 0 a.B))->∃(c:Int×Nat),c.fst=0/\(↑c.snd:Int)=0/\∃(d:Int×Nat->Prop),∃(e:Int×Nat->Nat),d c/\∀(f:Int×Nat),d f->cnd (decide ((↑f.snd:Int)<(↑(iE b).length:Int))) ((0<=(↑f.snd:Int)/\(↑f.snd:Int)<(↑(iE b).length:Int))/\∃(g:Int),zE (iE b) (↑f.snd:Int).toNat 0 1=ay [dI g]/\(∀(h:ap×List D),h∈xA i.g.W->like (ak aj g) h.fst=aw)/\∃(h:Bool),∃(j:Int),(qQ (ak aj g) (xA i.g.W)=ay [dI j]/\h=aw\/qQ (ak aj g) (xA i.g.W)=az/\[dI j]=[dI 0]/\h=ax)/\cnd (j==i.s) (∃(k:Int×Nat),k.fst=aj.wrap (f.fst+1)/\zBc k f d e a b i) (∃(k:Int×Nat),k.fst=f.fst/\zBc k f d e a b i)) (∃(g:Unit),(↑(zHw i.B i.g.W i.s):Int)=f.fst/\qR i.g.m=qR a.m/\da (xA i.g.W)/\True)
def yIl (i:GtI):Prop:=
 ∃(i_1:MkB),ae Mkt 5 yS i_1.m=qR i.g.m/\(i_1.m.Rep i_1.p i_1.B i_1.U/\BOk i_1.p i_1.B)/\∀(o:List Int),o.Perm (ar (λ(x:Int×Int) ↦ x.fst) (whL 0 i_1.B))->∃(i0:Int×Nat),i0.fst=0/\(↑i0.snd:Int)=0/\∃(I:Int×Nat->Prop),∃(μ:Int×Nat->Nat),I i0/\∀(i_2:Int×Nat),I i_2->cnd (decide ((↑i_2.snd:Int)<(↑(iE o).length:Int))) ((0<=(↑i_2.snd:Int)/\(↑i_2.snd:Int)<(↑(iE o).length:Int))/\∃(n:Int),zE (iE o) (↑i_2.snd:Int).toNat 0 1=ay [D.v (.int .i64 n)]/\(∀(p:ap×List D),p∈xA i.g.W->like (ak aj n) p.fst=aw)/\∃(b:Bool),∃(n_1:Int),(qQ (ak aj n) (xA i.g.W)=ay [D.v (.int .i64 n_1)]/\b=aw\/qQ (ak aj n) (xA i.g.W)=az/\[D.v (.int .i64 n_1)]=[D.v (.int .i64 0)]/\b=ax)/\cnd (n_1==i.s) (∃(i':Int×Nat),i'.fst=aj.wrap (i_2.fst+1)/\(↑i'.snd:Int)=aj.wrap ((↑i_2.snd:Int)+1)/\I i'/\μ i'<μ i_2/\da (ae Mkt 5 yS i_1.m)/\da (ac 2 1 (iE o))/\da (aa [V.nm 1 0,V.mp 2] (111:ao))/\da (ab (xA i.g.W))) (∃(i':Int×Nat),i'.fst=i_2.fst/\(↑i'.snd:Int)=aj.wrap ((↑i_2.snd:Int)+1)/\I i'/\μ i'<μ i_2/\da (ae Mkt 5 yS i_1.m)/\da (ac 2 1 (iE o))/\da (aa [V.nm 1 0,V.mp 2] (111:ao))/\da (ab (xA i.g.W)))) (∃(o:Unit),(↑(zHw i.B i.g.W i.s):Int)=i_2.fst/\ae Mkt 5 yS i.g.m=ae Mkt 5 yS i_1.m/\da (xA i.g.W)/\True)
def sU (a:Int) (b:GdI) (c:GdJ):=(vF (ak aj a) [dI b.s] (xA c.W))
def b8 (a:SbI):=(D.v (Value.string (sb (zS a.s a.b).fst.label)))
def bZ (a:SbI):=(dI ((zS a.s a.b).fst.price))
def bX (a:SbI):=(dI ((zS a.s a.b).fst.least))
def b9 (a:SbI):=(dI ((zS a.s a.b).fst.time))
def bU (a:SbI):=(dI ((zS a.s a.b).fst.side))
def aI (a:SbI):=(dI ((zS a.s a.b).fst.kind))
def c9 (a:SbI):=(dI ((zS a.s a.b).fst.inst))
def bQ (a:SbI):=(dI ((zS a.s a.b).fst.qty))
def aD (a:SbI):=(dI ((zS a.s a.b).fst.id))
def zSy (a:EnI) (b:SbI):Prop:=ac tRp 8 (ar xJ a.X.R)=ac tRp 8 (ar xJ a.X.R)/\da (aa [V.d (aI b),V.d (aD b),V.d (c9 b),V.d (bU b),V.d (bZ b),V.d (bQ b),V.d (bX b),V.d (b9 b),V.d (b8 b)] 44)
def zTu (a:GdJ) (b:EnI) (c:SbI):Prop:=ac yDs 9 (ar jB a.O)=ac yDs 9 (ar jB a.O)/\zSy b c
def zUf (a:Int->Prop) (b:Int) (c:Int) (d:Int) (e:Int) (f:Int) (g:Int) (h:Int) (j:Int) (k:Int) (l:GdJ) (m:GdI) (n:EnI) (p:SbI):Prop:=a b/\da (aa [V.d (dI c),V.d (dI d),V.d (dI e),V.d (dI f),V.d (dI g),V.d (dI h),V.d (dI j),V.d (dI k)] 65)/\da (aa [V.nm 1 0,V.mp 2] (111:ao))/\da (qR l.o)/\da (ab (sU d m l))/\zTu l n p
def zRy (a:Int->Prop) (b:Int) (c:Int) (d:Int) (e:Int) (f:Int) (g:Int) (h:Int) (j:Int) (k:Int) (l:GdJ) (m:EnI) (n:SbI):Prop:=a b/\da (aa [V.d (dI c),V.d (dI d),V.d (dI e),V.d (dI f),V.d (dI g),V.d (dI h),V.d (dI j),V.d (dI k)] 65)/\da (aa [V.nm 1 0,V.mp 2] (111:ao))/\da (qR l.o)/\da (ab (xA l.W))/\zTu l m n
def zTc (a:GdJ) (b:GdJ) (c:Int) (d:Int) (e:Int) (f:Int) (g:Int) (h:Int) (j:Int) (k:Int) (l:Int) (m:GdJ->Prop) (n:GdJ->Nat) (p:EnI) (q:SbI):Prop:=ar jB a.O=ar jB b.O++[[dI c,dI d,dI e,dI f,dI g,dI h,dI j,dI k,dI l]]/\m a/\n a<n b/\zSy p q
def zIu (a:Bool->Prop) (b:Bool) (c:SbI) (d:GdI):Prop:=a b/\da (aa [V.d (aI c),V.d (aD c),V.d (c9 c),V.d (bU c),V.d (bZ c),V.d (bQ c),V.d (bX c),V.d (b9 c),V.d (b8 c)] 44)/\da (aa [V.nm 1 0,V.mp 2] (111:ao))/\da (qR d.g.m)/\da (ab (xA d.g.W))
def zRl (a:Bool->Prop) (b:SbI) (c:GdI):Prop:=∃(d:Bool),d=ax/\zIu a d b c
def zEg (a:GdI) (b:GrI):Prop:=True/\∀(c:Unit),True->∃(d:Mkt),qR d=qR a.g.m/\xA a.X.W=xA a.g.W/\ar jB a.X.O=[jB (b.s,Rep.mk 2 b.id 0 0 0 0 0 b.why)]/\d.Rep a.p a.X.B a.X.U
def zDx (a:SbI):=(ak aj (zS a.s a.b).fst.id)
def yUy (i:GdI):Prop:=
 ∃(a:SbI),a.s=i.s/\bE a.b=bE i.b/\a.b.length<=1099511627776/\∀(b:Unit),True->cnd ((zS a.s a.b).snd !=0) (∃(c:GrI),c.s=i.s/\c.id=0/\c.why=(zS a.s a.b).snd/\zEg i c) ((∀(c:ap×List D),c∈xA i.g.W->like (zDx a) c.fst=aw)/\∃(c:Bool),∃(d:Int),(qQ (zDx a) (xA i.g.W)=ay [dI d]/\c=aw\/qQ (zDx a) (xA i.g.W)=az/\[dI d]=[dI 0]/\c=ax)/\∃(e:Bool),∃(f:Bool->Prop),cnd ((zS a.s a.b).fst.kind==1) (∃(g:GtI),g.s=i.s/\qR g.g.m=qR i.g.m/\xA g.g.W=xA i.g.W/\(g.g.m.Rep g.p g.B g.U/\BOk g.p g.B)/\∀(h:Unit),True->∃(j:Bool),j=decide ((↑(zHw g.B g.g.W g.s):Int)>=64)/\f j/\da (aa [V.d (aI a),V.d (aD a),V.d (c9 a),V.d (bU a),V.d (bZ a),V.d (bQ a),V.d (bX a),V.d (b9 a),V.d (b8 a)] 44)/\da (aa [V.nm 1 0,V.mp 2] (111:ao))/\qR g.g.m=qR i.g.m/\ab (xA g.g.W)=ab (xA i.g.W)) (zRl f a i)/\∀(g:Bool),f g->cnd g (∃(h:GrI),h.s=i.s/\h.id=(zS a.s a.b).fst.id/\h.why=30/\zEg i h) (∃(h:Bool),∃(j:Bool->Prop),cnd ((zS a.s a.b).fst.kind !=1) (cnd (!c) (∃(k:Bool),k=aw/\zIu j k a i) (∃(k:Bool),k=(d !=i.s)/\zIu j k a i)) (zRl j a i)/\∀(k:Bool),j k->cnd k (∃(l:GrI),l.s=i.s/\l.id=(zS a.s a.b).fst.id/\l.why=26/\zEg i l) (∃(l:EnI),l.c.kind=(zS a.s a.b).fst.kind/\l.c.id=(zS a.s a.b).fst.id/\l.c.inst=(zS a.s a.b).fst.inst/\l.c.side=(zS a.s a.b).fst.side/\l.c.price=(zS a.s a.b).fst.price/\l.c.qty=(zS a.s a.b).fst.qty/\l.c.least=(zS a.s a.b).fst.least/\l.c.time=(zS a.s a.b).fst.time/\sb l.c.label=sb (zS a.s a.b).fst.label/\qR l.m=qR i.g.m/\((l.m.Rep l.p l.B l.U/\BOk l.p l.B)/\l.c.label.length<=140737488355328/\((-9223372036854775808)<=l.c.qty/\l.c.qty<=9223372036854775807)/\l.X=doF l.p l.B l.U l.c)/\∀(m:Mkt),m.Rep l.p l.X.B l.X.U->∃(n:GdJ),(↑n.k:Int)=0/\qR n.o=qR m/\xA n.W=xA i.g.W/\ar jB n.O=[]/\∃(p:GdJ->Prop),∃(q:GdJ->Nat),p n/\∀(r:GdJ),p r->cnd (decide ((↑r.k:Int)<(↑(ar xJ l.X.R).length:Int))) ((0<=(↑r.k:Int)/\(↑r.k:Int)<(↑(ar xJ l.X.R).length:Int))/\∃(s:Int),∃(t:Int),∃(u:Int),∃(v:Int),∃(w:Int),∃(x:Int),∃(y:Int),∃(z:Int),zE (ar xJ l.X.R) (↑r.k:Int).toNat 0 8=ay [dI s,dI t,dI u,dI v,dI w,dI x,dI y,dI z]/\cnd (s==1) ((∀(a_1:ap×List D),a_1∈xA r.W->like (ak aj t) a_1.fst=aw)/\(∀(a_1:ap×List D),a_1∈vF (ak aj t) [dI i.s] (xA r.W)->like (ak aj t) a_1.fst=aw)/\∃(a_1:Bool),∃(a_2:Int),(qQ (ak aj t) (sU t i r)=ay [dI a_2]/\a_1=aw\/qQ (ak aj t) (sU t i r)=az/\[dI a_2]=[dI 0]/\a_1=ax)/\∃(a_3:Int),∃(a_4:Int->Prop),cnd (s==2) (∃(a_5:Int),a_5=i.s/\zUf a_4 a_5 s t u v w x y z r i l a) (∃(a_5:Int),a_5=a_2/\zUf a_4 a_5 s t u v w x y z r i l a)/\∀(a_5:Int),a_4 a_5->((ar jB r.O).length+1)*(72:Nat)<=(140737488355328:Nat)/\∃(a_6:GdJ),(↑a_6.k:Int)=aj.wrap ((↑r.k:Int)+1)/\qR a_6.o=qR r.o/\xA a_6.W=vF (ak aj t) [dI i.s] (xA r.W)/\zTc a_6 r a_5 s t u v w x y z p q l a) ((∀(a_1:ap×List D),a_1∈xA r.W->like (ak aj t) a_1.fst=aw)/\∃(a_1:Bool),∃(a_2:Int),(qQ (ak aj t) (xA r.W)=ay [dI a_2]/\a_1=aw\/qQ (ak aj t) (xA r.W)=az/\[dI a_2]=[dI 0]/\a_1=ax)/\∃(a_3:Int),∃(a_4:Int->Prop),cnd (s==2) (∃(a_5:Int),a_5=i.s/\zRy a_4 a_5 s t u v w x y z r l a) (∃(a_5:Int),a_5=a_2/\zRy a_4 a_5 s t u v w x y z r l a)/\∀(a_5:Int),a_4 a_5->((ar jB r.O).length+1)*(72:Nat)<=(140737488355328:Nat)/\∃(a_6:GdJ),(↑a_6.k:Int)=aj.wrap ((↑r.k:Int)+1)/\qR a_6.o=qR r.o/\xA a_6.W=xA r.W/\zTc a_6 r a_5 s t u v w x y z p q l a)) (∃(s:Mkt),qR s=qR r.o/\xA i.X.W=xA r.W/\ar jB i.X.O=ar jB r.O/\s.Rep i.p i.X.B i.X.U))))
def ySv {s:MSt} {p:Prd} {B:List (List zG)} (h:s.Rep p B):s.wh.length=zTg B:=by rw[zTg];exact h.wh.length_eq
def z1m:∀{B:List (List zG)} (n:Nat),(∀L∈B,L.length<=250)->(whL n B).length<=250*B.length
 |[],_,_=>y1u _
 |L::B,n,h=>by
  have:=z1m (B:=B) (n+1) λx hx=>h x (y1g _ hx)
  have:=h L y1f;rw[whL,y0x,y0z,y1d];omega
def yKf:midsC.ok Tryz.prog 136:=okw (V:=yYk) mixed (gokc yGf gok0) 0 (λ_=>[]) (λ_=>[]) [0] Tryz.func136 λ(i:MkB) h=>by
 obtain⟨⟨ep,hR,eu⟩,hB⟩:i.m.Rep i.p i.B i.U/\BOk i.p i.B:=h;have hl:i.m.s.wh.length<=1000000:=by
  have hwf:=hR.wf hB;have h1:=z1m (B:=i.B) 0 λL hL=>by
   obtain⟨k,hk⟩:=y3m.1 hL;exact(hwf.od k L hk).2.2
  have:=hB.bl;have:=xN i.p;rw[ySv hR,zTg];omega
 exact⟨i.m.s,rfl,hl,λo ho=>⟨o,rF8 (rF3 ⟨rfl,k0q,rfl,ho.trans (hR.wh.map _)⟩)⟩⟩
def zCs:newGC.ok Tryz.prog 47:=okw (V:=yXg) mixed (gokc yKk gok0) 0 (λ_=>[]) (λ_=>[]) [] Tryz.func47 λ(p:Prd) h=>by
 refine⟨p,rF7 (rF3 ⟨rfl,h,λ_ c=> .inl ⟨(),rF3 c⟩,λ_ c=>Cv.cnd.mk (λe=> .inr ⟨(),trivial,rfl,c⟩) (λe=>absurd (by simpa using e) c)⟩)⟩
def yJe:grejC.ok Tryz.prog 96:=okw (V:=yWq) mixed gok0 0 (λ_=>[]) (λ_=>[]) [] Tryz.func96 λ(i:GrI) h=>⟨(),rfl,trivial⟩
def zXi:greadC.ok Tryz.prog 95:=okw (V:=yRp) mixed (gokc yLh gok0) 0 (λ_=>[]) (λ_=>[]) [] Tryz.func95 λ(i:SbI) h=>by
 have h:i.b.length<=1099511627776:=h;have hbad:i.s<0\/8<=i.s->zS i.s i.b=(zWs,1):=λe=>y1a e
 refine zH (λe=> ?_) (λe=>zH (λe2=> ?_) (λe2=> ?_))
 ·rw[hbad (.inl e)];exact⟨(),rF7 (rF3 trivial)⟩
 ·rw[hbad (.inr e2)];exact⟨(),rF7 (rF3 trivial)⟩
 ·have hg:zS i.s i.b=xD i.b:=y0y oM;rw[hg];exact⟨i.b,rfl,h,λ_ _=>⟨(),rF7 (rF3 trivial)⟩⟩
def tM (id:Int) (W:List (Int×Int)):∀p∈xA W,like (ak aj id) p.1=aw:=by
 intro p hp;obtain⟨k,_,rfl⟩:=y2m.1 hp;rfl
def zWd (id s:Int):∀W:List (Int×Int),vF (ak aj id) [D.v (.int .i64 s)] (xA W)=xA (zYm W id s)
 |[]=>rfl
 |x::W=>by
  have ih:=zWd id s W;have e:cD (ak aj id) (ak aj x.1)=decide (id=x.1):=by simp[cD,keq]
  show(bif cD (ak aj id) (ak aj x.1)then(ak aj x.1,[D.v (.int .i64 s)])::xA W else(ak aj x.1,[D.v (.int .i64 x.2)])::vF (ak aj id) [D.v (.int .i64 s)] (xA W))=_;rw[e,ih,zYm];by_cases c:id=x.1
  ·rw[y1v c,cond_true,y1a c];rfl
  ·rw[y1s c,cond_false,y0y c];rfl
def zCy (id:Int):∀W:List (Int×Int),qQ (ak aj id) (xA W)=ay [D.v (.int .i64 (gE W id).1)]/\(gE W id).2=aw\/qQ (ak aj id) (xA W)=az/\[D.v (.int .i64 (gE W id).1)]=[D.v (.int .i64 0)]/\(gE W id).2=ax
 |[]=> .inr ⟨rfl,rfl,rfl⟩
 |x::W=>by
  have ih:=zCy id W;have e:cD (ak aj id) (ak aj x.1)=decide (id=x.1):=by simp[cD,keq]
  have e2:qQ (ak aj id) (xA (x::W))=bif cD (ak aj id) (ak aj x.1)then ay [D.v (.int .i64 x.2)]else qQ (ak aj id) (xA W):=rfl
  rw[e2,e,yGg];by_cases c:id=x.1
  ·rw[y1v c,cond_true,y1a c];exact .inl ⟨rfl,rfl⟩
  ·rw[y1s c,cond_false,y0y c];exact ih
def yQr {l:List Int} {k:Nat} {n:Int} {f:Int->Bool} (h:l[k]? =ay n):(l.take (k+1)).countP f=(l.take k).countP f+if f n then 1 else 0:=by
 rw[y2e,h,List.countP_append];simp[List.countP_cons]
def yAk (W:List (Int×Int)) (B:List (List zG)) (s:Int) (l:List Int) (h:l.Perm ((whL 0 B).map (·.1))):(zHw B W s:Int)=l.countP λx=>decide ((gE W x).1=s):=by
 rw[h.countP_eq,List.countP_map];rfl
def z8g {l:List Int} {W:List (Int×Int)} {s:Int} (hl:l.length<=1000000):∀{k:Nat} {n:Int},l[k]? =ay n->aj.wrap (((l.take k).countP λx=>decide ((gE W x).1=s):Nat)+1:Int)=((l.take k).countP λx=>decide ((gE W x).1=s):Nat)+1:=by
 intro k n h;have:=List.countP_le_length (p:=λx=>decide ((gE W x).1=s)) (l:=l.take k);rw[y1q]at this;exact w64 oM
def yIj {p:Prd} {B:List (List zG)} (h:BWf p B) {l:List Int} (hl:l.Perm ((whL 0 B).map (·.1))):l.length<=1000000:=by
 have h1:=z1m (B:=B) 0 λL hL=>by
  obtain⟨k,hk⟩:=y3m.1 hL;exact(h.od k L hk).2.2
 have:=h.ok.bl;have:=xN p;have:=hl.length_eq;rw[y0z]at this;omega
def yQf (i:GtI) (h:gopenC.cnd i):yFu i:=by
 obtain⟨⟨m,W⟩,p,B,U,s⟩:=i;have h:m.Rep p B U/\BOk p B:=h;unfold yFu zBc dI;dsimp only;refine⟨⟨m,p,B,U⟩,rfl,h,λl hl=> ?_⟩;have hle:=yIj (h.1.s.wf h.2) hl;refine⟨(0,0),rfl,rfl,λj=>j.2<=l.length/\j.1=((l.take j.2).countP λx=>decide ((gE W x).1=s):Nat),λj=>l.length-j.2,⟨y2a _,rfl⟩,?_⟩;rintro⟨n,k⟩ ⟨j1,j2⟩;dsimp only at j1 j2 ⊢;subst j2;refine zH (λe=> ?_) (λe=> ?_)
 ·rw[y3]at e;obtain⟨x,hx⟩:=yE (l:=l) (i:=k) oM;have hc:=yQr (f:=λx=>decide ((gE W x).1=s)) hx;refine⟨⟨oM,by rw[y3];exact e⟩,x,elA hx (by simp) rfl,tM _ _,_,_,zCy x W,Cv.cnd.mk (λe2=>⟨(_,k+1),(z8g hle hx).symm,wjn oM,⟨Z9,?_⟩,Z9,k0q⟩) (λe2=>⟨(_,k+1),rfl,wjn oM,⟨Z9,?_⟩,Z9,k0q⟩)⟩
  ·have e2:(gE W x).1=s:=by simpa using e2
   dsimp only;rw[hc,y1v e2];rfl
  ·have e2:¬(gE W x).1=s:=by simpa using e2
   dsimp only;rw[hc,y1s e2];rfl
 ·rw[y3]at e;have hk:l.take k=l:=y1k oM;rw[hk];exact⟨(),yAk W B s l hl,rfl,rfl,trivial⟩
def z8v:gopenOC.ok Tryz.prog 97:=okw (V:=yIl) mixed (gokc yKf gok0) 0 (λ_=>[]) (λ_=>yPj) [] Tryz.func97 λ(i:GtI) h=>yQf i h
def z9h {b:List UInt8} (h:(xD b).2=0):(xD b).1.right=0:=by
 rw[xD]at h ⊢;dsimp only at h ⊢;split at h
 ·cases h
 ·rename_i h1;rw[y0y h1];split at h
  ·cases h
  ·rename_i h2;rw[y0y h2];split at h
   ·rename_i h3;exact absurd h h3
   ·rename_i h3;rw[y0y h3];simpa using h3
def zNg (n:Int):y9 (aj.wrap n):=by
 rw[IntKind.wrap];simp only[IntKind.bits,IntKind.signed];simp;omega
def z6e:y9 0:=⟨Z8,Z8⟩
def yTx (k id:Int) (r:RB):y9 (xX k id r).1.qty:=by
 rw[xX];split
 ·exact zNg _
 split
 ·exact zNg _
 split
 ·exact zNg _
 ·exact z6e
def yIm (b:List UInt8):y9 (xD b).1.qty:=by
 rw[xD];dsimp only;split
 ·exact z6e
 split
 ·exact z6e
 split
 ·exact z6e
 ·exact yTx _ _ _
def yJq {p:Prd} {B:List (List zG)} (h:BWf p B) (U:List Int) (c:Cmd):(doF p B U c).R.length<=1503000003:=by
 have hbl:=h.ok.bl;have hrj:∀w,(a8 c w).length<=1503000003:=λw=>by simp[a8]
 rw[doF];split
 ·exact hrj _
 rename_i hr;have hr:c.right=0:=by simpa using hr
 split
 ·rename_i hk;obtain⟨_,hq,_⟩:=zPm hr hk;rw[nX];split
  ·exact hrj _
  rename_i hp;have hp:p.price c.inst c.price=0:=by simpa using hp
  have hin:=zJu hp;split
  ·exact hrj _
  split
  ·exact hrj _
  split
  ·exact hrj _
  split
  ·exact hrj _
  have:=zAx h U (c:=c) oM hq;omega
 rename_i hk;split
 ·exact hrj _
 rename_i hf;have hf:(zP B c.id).2.2=aw:=by simpa using hf
 have hf:zP B c.id=((zP B c.id).1,(zP B c.id).2.1,aw):=by rw[<- hf]
 obtain⟨hin,_⟩:=zSb h hf;split
 ·rename_i h4;have hq:=zGk hr hk oM;rw[dD];split
  ·exact hrj _
  split
  ·simp[pV]
  split
  ·exact hrj _
  have:=zAx (h.take c.id (zP B c.id).2.1.qty) U (c:=⟨1,c.id,(zP B c.id).1,(zP B c.id).2.1.side,c.price,c.qty,0,1,[]⟩) (by dsimp only;rw[mR];exact hin) hq;dsimp only;rw[y0x];have e1:(gI B U c.id (zP B c.id).1 (zP B c.id).2.1).R.length=1:=rfl;have e2:(gI B U c.id (zP B c.id).1 (zP B c.id).2.1).B=(qM B c.id (zP B c.id).2.1.qty).1:=rfl;rw[e1,e2];omega
 split
 ·simp[gI]
 ·simp[pV]
def yJk {b:List UInt8} (h:b.length<=1099511627776):(xD b).1.label.length<=255:=by
 have h0:(RB.mk b ax).ok:=h;rw[xD];dsimp only;split
 ·exact y2a _
 split
 ·exact y2a _
 split
 ·exact y2a _
 ·exact(yOc (uJ (aV h0))).2
def zOs (p:Prd) (B:List (List zG)) (U:List Int) (W:List (Int×Int)) (s:Int) (b:List UInt8):zIe p B U W s b=if(zS s b).2≠0 then z7c B U W s 0 (zS s b).2 else z5a p B U W s (zS s b).1:=by
 rw[zIe,zS];by_cases c:s<0\/8<=s
 ·rw[y1a c,y1a c];rfl
 ·rw[y0y c,y0y c]
def ySk {s:Int} {b:List UInt8} (hb:b.length<=1099511627776) (h:(zS s b).2=0):(zS s b).1.right=0/\y9 (zS s b).1.qty/\(zS s b).1.label.length<=255:=by
 rw[zS]at h ⊢;split at h
 ·cases h
 ·rename_i c;rw[y0y c];exact⟨z9h h,yIm b,yJk hb⟩
def wjN {j:Nat} (h:(j:Int)<=9223372036854775806):((j+1:Nat):Int)=aj.wrap ((j:Int)+1):=by rw[w64 (by omega)];rfl
def yZm (i:GdI) (h:gdoC.cnd i):yUy i:=by
 obtain⟨⟨m,W⟩,p,B,U,s,b,X⟩:=i;obtain⟨hMB,hb,hX⟩:(m.Rep p B U/\BOk p B)/\b.length<=1099511627776/\X=zIe p B U W s b:=h;rw[zOs]at hX;have hc:= @ySk s b hb;unfold yUy zRl zIu zTc zRy zUf zTu zSy aD bQ c9 aI bU b9 bX bZ zDx b8 sU zEg dI;dsimp only;generalize hrd:zS s b=y at hX hc;obtain⟨c,why⟩:=y;dsimp only at hX hc;refine⟨⟨s,b⟩,rfl,rfl,hb,λ_ _=> ?_⟩;dsimp only;rw[hrd];dsimp only;refine Cv.cnd.mk (λe=> ?_) (λe=>⟨tM _ _,_,_,zCy c.id W,aw,λx=>x=decide (c.kind=1/\64<=zHw B W s),Cv.cnd.mk (λe1=>⟨⟨⟨m,W⟩,p,B,U,s⟩,rfl,rfl,rfl,hMB,λ_ _=>⟨_,rfl,?_,k0q⟩⟩) (λe1=>⟨ax,rfl,?_,k0q⟩),?_⟩)
 ·have e:why≠0:=by simpa using e
  rw[y1a e]at hX;subst hX;exact⟨⟨s,0,why⟩,rfl,rfl,rfl,trivial,λ_ _=>⟨m,rF3 hMB.1⟩⟩
 ·have e1:c.kind=1:=by simpa using e1
  dsimp only;rw[decide_eq_decide];exact⟨λx=>⟨e1,oM⟩,λx=>by have:=x.2;omega⟩
 ·have e1:¬c.kind=1:=by simpa using e1
  exact(y1s λx=>e1 x.1).symm
 have e:why=0:=by simpa using e
 obtain⟨hr,hq,hlab⟩:=hc e;rw[y0y (by rw[e];decide),z5a]at hX;rintro _ rfl;refine zH (λe1=> ?_) (λe1=> ?_)
 ·rw[y1a e1]at hX;subst hX;exact⟨⟨s,c.id,30⟩,rfl,rfl,rfl,trivial,λ_ _=>⟨m,rF3 hMB.1⟩⟩
 rw[y0y e1]at hX;refine⟨aw,λx=>x=decide (c.kind≠1/\((gE W c.id).2=ax\/(gE W c.id).1≠s)),Cv.cnd.mk (λe2=>Cv.cnd.mk (λe3=>⟨aw,rfl,?_,k0q⟩) (λe3=>⟨_,rfl,?_,k0q⟩)) (λe2=>⟨ax,rfl,?_,k0q⟩),?_⟩
 ·have e2:¬c.kind=1:=by simpa using e2
  exact(y1v ⟨e2,.inl (by simpa using e3)⟩).symm
 ·have e2:¬c.kind=1:=by simpa using e2
  have e3:(gE W c.id).2=aw:=by simpa using e3
  show((gE W c.id).1 !=s)=decide (c.kind≠1/\((gE W c.id).2=ax\/(gE W c.id).1≠s));rw[y6q,y2v,bne_iff_ne];exact⟨λx=>⟨e2,.inr x⟩,λx=>x.2.resolve_left (by rw[e3];decide)⟩
 ·have e2:c.kind=1:=by simpa using e2
  exact(y1s λx=>x.1 e2).symm
 rintro _ rfl;refine zH (λe2=> ?_) (λe2=> ?_)
 ·rw[y1a e2]at hX;subst hX;exact⟨⟨s,c.id,26⟩,rfl,rfl,rfl,trivial,λ_ _=>⟨m,rF3 hMB.1⟩⟩
 rw[y0y e2]at hX;have hlen:=yJq (hMB.1.s.wf hMB.2) U c;refine⟨⟨m,p,B,U,c,doF p B U c⟩,rF6 (rF3 ⟨rfl,⟨hMB,y3u hlab Z8,hq,rfl⟩,λo ho=> ?_⟩)⟩;dsimp only at ho ⊢;generalize doF p B U c=Y at hX ho hlen ⊢;obtain⟨YB,YU,R⟩:=Y;dsimp only at hX ho hlen ⊢;subst hX;have e4:(R.map xJ).length=R.length:=y0z ..;refine⟨⟨o,W,[],0⟩,rF3 ⟨rfl,λj=>j.o=o/\j.k<=R.length/\j.O.length=j.k/\(l6 s W R).1=(l6 s j.W (R.drop j.k)).1/\(l6 s W R).2=j.O++(l6 s j.W (R.drop j.k)).2,λj=>R.length-j.k,⟨rfl,y2a _,rfl,rfl,rfl⟩,?_⟩⟩;rintro⟨o',W',O,k⟩ ⟨j1,j2,j3,j4,j5⟩;dsimp only at j1 j2 j3 j4 j5 ⊢;subst j1;have e5:(O.map jB).length=O.length:=y0z ..;refine zH (λe6=> ?_) (λe6=> ?_)
 ·obtain⟨r,hr'⟩:=yE (l:=R) (i:=k) oM;have hd:R.drop k=r::R.drop (k+1):=by rw[y3f (by omega),(y1c.1 hr').2]
  rw[hd,l6]at j4 j5;dsimp only at j4 j5;refine⟨⟨oM,e6⟩,r.kind,r.id,r.inst,r.side,r.price,r.qty,r.left,r.why,elA hr' (by simp[xJ]) rfl,Cv.cnd.mk (λe7=>⟨tM _ _,?_⟩) (λe7=>⟨tM _ _,_,_,zCy r.id W',?_⟩)⟩
  ·have e7:r.kind=1:=by simpa using e7
   rw[zWd];rw[y1a e7]at j4 j5;refine⟨tM _ _,_,_,zCy r.id (zYm W' r.id s),0,λx=>x=if r.kind=2 then s else(gE (zYm W' r.id s) r.id).1,Cv.cnd.mk (λe8=>⟨_,rfl,(y1a (by simpa using e8)).symm,k0q⟩) (λe8=>⟨_,rfl,(y0y (by simpa using e8)).symm,k0q⟩),?_⟩;rintro _ rfl;exact⟨oM,⟨o',zYm W' r.id s,O++[(if r.kind=2 then s else(gE (zYm W' r.id s) r.id).1,r)],k+1⟩,wjN oM,rfl,rfl,by rw[y1i];rfl,⟨rfl,Z9,by rw[y0x];dsimp only;rw[j3];rfl,j4,by rw[j5];simp⟩,Z9,k0q⟩
  ·have e7:¬r.kind=1:=by simpa using e7
   rw[y0y e7]at j4 j5;refine⟨0,λx=>x=if r.kind=2 then s else(gE W' r.id).1,Cv.cnd.mk (λe8=>⟨_,rfl,(y1a (by simpa using e8)).symm,k0q⟩) (λe8=>⟨_,rfl,(y0y (by simpa using e8)).symm,k0q⟩),?_⟩;rintro _ rfl;exact⟨oM,⟨o',W',O++[(if r.kind=2 then s else(gE W' r.id).1,r)],k+1⟩,wjN oM,rfl,rfl,by rw[y1i];rfl,⟨rfl,Z9,by rw[y0x];dsimp only;rw[j3];rfl,j4,by rw[j5];simp⟩,Z9,k0q⟩
 ·have hk:R.drop k=[]:=List.drop_of_length_le oM;rw[hk,l6]at j4 j5;dsimp only at j4 j5;rw[y1t]at j5;rw[j4,j5];exact⟨o',rF3 ho⟩
def yHb:gdoC.ok Tryz.prog 41:=okw mixed (gokc zXi (gokc yJe (gokc z8v (gokc yXq gok0)))) 0 (λ_=>y0q) (λ_=>yZh) [0] Tryz.func41 yZm
def mk0 (p:Prd):Mkt:=⟨p,dS p,[]⟩
def z3x (p:Prd):(mk0 p).Rep p (List.replicate p.count []) []:=⟨rfl,zZy _,rfl⟩
structure zTf where
 seq:Int
 inst:Int
 side:Int
 price:Int
 qty:Int
 count:Int
 implied:Bool
 deriving DecidableEq
deriving instance DecidableEq for Lv
def yJt (s:Int) (L:List Lv):Prop:=L.Pairwise λa b=>btr s a.price b.price=aw
def vW (s:Int):Nat->List Lv->List Lv->List Lv
 |0,_,_=>[]
 |k+1,[],[]=>[]
 |k+1,x::X,[]=>⟨x.price,0,0⟩::vW s k X []
 |k+1,[],y::Y=>y::vW s k [] Y
 |k+1,x::X,y::Y=>if btr s x.price y.price=aw then⟨x.price,0,0⟩::vW s k X (y::Y)else if btr s y.price x.price=aw then y::vW s k (x::X) Y else(if x=y then[]else[y])++vW s k X Y
def yPl {s x y z:Int} (h:btr s x y=aw) (h2:btr s y z=aw):btr s x z=aw:=by
 rw[btr]at h h2 ⊢;split
 ·rename_i e;rw[y1a e]at h h2;have:=y1y h;have:=y1y h2;exact y1v oM
 ·rename_i e;rw[y0y e]at h h2;have:=y1y h;have:=y1y h2;exact y1v oM
def yIc {s x y:Int} (h:btr s x y=ax) (hne:x≠y):btr s y x=aw:=by
 rw[btr]at h ⊢;split
 ·rename_i e;rw[y1a e]at h;have:=y5j h;exact y1v oM
 ·rename_i e;rw[y0y e]at h;have:=y5j h;exact y1v oM
def yZr (L:List Lv):Prop:=∀l∈L,1<=l.qty
open Classical
def Lv.fit (x:Lv):Prop:=y9 x.price/\y9 x.qty/\y9 x.count
def Sd.fit (s:Sd):Prop:=(∀x∈s.levels,x.fit)/\s.imp.fit
def yWd (v:Vw):Prop:=∀b∈v,b.1.fit/\b.2.fit
structure VM where
 inst:Nat
 side:Int
 l:Lv
 imp:Bool
def lv0:Lv:=⟨0,0,0⟩
def yJv (a b:Sd):Bool:=decide (a.imp≠b.imp)||decide (a.has≠b.has)
def z9f (b:Sd):Lv:=if b.has=aw then b.imp else lv0
def wK (n:Nat) (s:Int) (a b:Sd):List VM:=(vW s (a.levels.length+b.levels.length) a.levels b.levels).map (λl=>⟨n,s,l,ax⟩)++if yJv a b=aw then[⟨n,s,z9f b,aw⟩]else[]
def jV (n:Nat):Vw->Vw->List VM
 |a::A,b::B=>wK n 1 a.1 b.1++wK n 2 a.2 b.2++jV (n+1) A B
 |_,_=>[]
def z2z {s:Int}:∀{F:List zG},zYe s F->yJt s (grp F)
 |[],_=>List.Pairwise.nil
 |o::F,h=>by
  rw[zYe,y4n]at h;have ih:=z2z h.2;rw[grp];cases hg:grp F with
  |nil=>exact List.pairwise_singleton _ _
  |cons v vs=>
   rw[hg]at ih;dsimp only;have hv:=ih;rw[yJt,y4n]at hv;by_cases e:v.price=o.price
   ·rw[y1a e];exact y4n.2 ⟨λw hw=>hv.1 w hw,hv.2⟩
   ·rw[y0y e];obtain⟨o',r,e2,e3⟩:=zNa hg;have hb:btr s o.price v.price=aw:=by
     rw[<- e3];refine yIc (h.1 o' (by rw[e2];exact y1f)) (by rw[e3];exact e)
    refine y4n.2 ⟨λw hw=> ?_,ih⟩;rcases y1r.1 hw with rfl|hw
    ·exact hb
    ·exact yPl hb (hv.1 w hw)
def yKx {p:Prd} {B:List (List zG)} (h:BWf p B) {k:Nat} {L:List zG} (hL:B[k]? =ay L) {s:Int} (hs:s=1\/s=2):yJt s (uD L s)/\yZr (uD L s):=
 ⟨z2z (h.srt k L hL s hs),λl hl=>(z2s (λo ho=>(h.od k L hL).1 o (y2x.1 ho).1) hl).1⟩
def gZ (l:List Quote) (b:Quote):Int×Int:=l.foldl (λa q=>if q.price=b.price then(if q.qty>a.1 then q.qty else a.1,a.2+1)else a) (b.qty,0)
def x5 (l:List Quote) (s:Int):Lv×Bool:=if(zU l s).2 then(⟨(zU l s).1.price,(gZ l (zU l s).1).1,(gZ l (zU l s).1).2⟩,aw)else(⟨0,0,0⟩,ax)
def showC:Con:=zR BsI (λi=>[roV 6 (i.l.map zI),zA i.s]) (λ_=>[]) (λi=>(i.s=1\/i.s=2)/\i.l.length<=1000000) (λi=> .tup [zA (x5 i.l i.s).1.price,zA (x5 i.l i.s).1.qty,zA (x5 i.l i.s).1.count,yT (x5 i.l i.s).2]) (λ_=>[])
def ySr (i:BsI):List SAnn:=[{ι:=Nat,slots:=λk=>[(8,.nm 0 0),(10,zA (gZ (i.l.take k) (zU i.l i.s).1).1),(11,zA (gZ (i.l.take k) (zU i.l i.s).1).2),(26,zA k)],rows:=λ_=>[.cells (zTr (zU i.l i.s).1).cl 172]}]
def zCx (p:Prd) (B:List (List zG)) (n:Nat) (s:Int):Sd:=⟨uD (B.getD n []) s,(x5 (xO ⟨p,B.map qI,n⟩ s) s).1,(x5 (xO ⟨p,B.map qI,n⟩ s) s).2⟩
def yU (p:Prd) (B:List (List zG)):Vw:=(List.range p.count).map λn=>(zCx p B n 1,zCx p B n 2)
structure LkI where
 s:MSt
 p:Prd
 B:List (List zG)
def yWj (i:LkI):List SAnn:=[
 {ι:=Nat,slots:=λj=>[(5,.nm 0 0),(6,.own 2),(27,zA j)],rows:=λj=>[.cells [.own 1] 71,.own 130 10 (((yU i.p i.B).take j).map yF),.fro 6 ((i.B.map qI).map zZ)]},
 {ι:=Unit,slots:=λ_=>[],rows:=λ_=>[],un:=3}]
def xI (m:zTf):List D:=[.v (.int .i64 m.seq),.v (.int .i64 m.inst),.v (.int .i64 m.side),.v (.int .i64 m.price),.v (.int .i64 m.qty),.v (.int .i64 m.count),.v (.bool m.implied)]
@[reducible] def zZc:Nat:=154
@[reducible] def z7h (l:List zTf):AObj:= .own zZc 7 (l.map xI)
def vC (seq:Int):List VM->List zTf
 |[]=>[]
 |m::M=>⟨seq+1,m.inst,m.side,m.l.price,m.l.qty,m.l.count,m.imp⟩::vC (seq+1) M
structure Dfr where
 seq:Int
 out:List zTf
@[reducible] def DfO (d:Dfr):List AObj:=[.cells [zA d.seq,.own 1] 230,z7h d.out]
@[reducible] def DfP (d:Dfr):List AObj:=[.cells [zA d.seq,.own 2] 230,.gone,z7h d.out]
def Dfr.add (d:Dfr) (M:List VM):Dfr:=⟨d.seq+M.length,d.out++vC d.seq M⟩
@[reducible] def Dfr.ok (d:Dfr) (n:Nat):Prop:= -4611686018427387904<=d.seq/\d.seq+n<=4611686018427387904/\d.out.length+n<=1000000000
structure DtI where
 d:Dfr
 m:VM
def dtellC:Con:=zR DtI (λi=>[.nm 0 0,zA i.m.inst,zA i.m.side,lvV i.m.l,yT i.m.imp]) (λi=>DfO i.d) (λi=>i.d.ok 1) (λ_=>aU) (λi=>DfP (i.d.add [i.m]))
structure DsI where
 d:Dfr
 n:Nat
 s:Int
 a:Sd
 b:Sd
def dsideC:Con:=zR DsI (λi=>[.nm 0 0,zA i.n,zA i.s,sdV i.a,sdV i.b]) (λi=>DfO i.d) (λi=>i.d.ok (i.a.levels.length+i.b.levels.length+1)) (λ_=>aU) (λi=>DfP (i.d.add (wK i.n i.s i.a i.b)))
structure DsJ where
 x:List Lv
 y:List Lv
 M:List VM
def yRu (i:DsI):List SAnn:=[{ι:=DsJ,slots:=λj=>[(0,.nm 0 0),(10,roV 3 (j.x.map lvE)),(11,roV 3 (j.y.map lvE))],rows:=λj=>DfO (i.d.add j.M)}]
def yZq:SAnn:={ι:=Dfr,slots:=λ_=>[(0,.nm 0 0)],rows:=λd=>DfO d,slots0:=λ_=>[(0,.nm 0 0)],rows0:=λd=>DfO d}
def lvT (t:Nat):SAnn:={ι:=Lv,slots:=λ_=>[(t,.nm 0 0)],rows:=λl=>[.cells [zA l.price,zA l.qty,zA l.count] 127],slots0:=λ_=>[(t,.nm 0 0)],rows0:=λl=>[.cells [zA l.price,zA l.qty,zA l.count] 127]}
def yTg:List (Nat×SAnn):=[(24,bj 41),(36,bj 73),(12,bj 29),(14,yZq),(48,bj 109),(58,lvT 12)]
structure DvI where
 v:Vw
 w:Vw
 seq:Int
def Vw.levs (v:Vw):Nat:=(v.map λb=>b.1.levels.length+b.2.levels.length).sum
def diffC:Con:=zR DvI (λi=>[vwV i.v,vwV i.w,zA i.seq]) (λ_=>[]) (λi=>i.v.length=i.w.length/\(-4000000000000000000<=i.seq/\i.seq<=4000000000000000000)/\Vw.levs i.v<=100000000/\Vw.levs i.w<=100000000/\i.v.length<=1000000) (λ_=> .own 0) (λi=>[z7h (vC i.seq (jV 0 i.v i.w))])
def yWy (i:DvI):List SAnn:=[
 {ι:=Nat,slots:=λj=>[(7,.nm 0 0),(24,zA j)],rows:=λj=>DfO (Dfr.add ⟨i.seq,[]⟩ (jV 0 (i.v.take j) (i.w.take j)))},
 {ι:=Unit,slots:=λ_=>[],rows:=λ_=>[],un:=3}]
end Sx
