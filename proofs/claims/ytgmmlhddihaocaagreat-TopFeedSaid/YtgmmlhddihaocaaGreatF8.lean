/- Texts of ours. No condition. -/
import Derived.Test.YtgmmlhddihaocaaGreatF7
set_option linter.all false
open List renaming map->ab,replicate->ac,filter_map->ae,take->af,find?_eq_none->ag,drop->aj
open Sx.fj renaming ra->ak,kg->am,jz->ao,cells->ap,own->aq
open Bool renaming false->ar,true->au
open Go.IntKind renaming i64->av
open Option renaming some->aw,none->ax
open Go.Value renaming int->ay
open Exists renaming intro->az
open And renaming intro->ba
namespace Sx
set_option maxRecDepth 100000
open Go Cv Go.Proofs
def xI (a:BF):=(a.b.iI 1 a.id a.dm)
@[reducible] def Yf (a:oH)(b:BF)(R:Prop):Prop:=ak dv 3 zI a.b.a=zS b.b 1/\ab zC a.b.fm=ab zC b.b.fm/\ab zC a.b.ej=ab zC b.b.ej/\jm a.b.at_=CA (ay av b.id) (jm b.b.at_)/\iE a.b.spare=iE b.b.spare/\(qS a)/\R
@[reducible] def HO (a:uq)(b:Int)(c:dq)(R:Prop):Prop:=a.n=b/\ak dv 3 zI a.a=ak dv 3 zI c.a/\R
@[reducible] def Qd6 (a:BF)(b:dq)(c:uq)(R:Prop):Prop:=(xI a).iH=b.iH/\(xI a).iG=b.iG/\(xI a).gp=b.gp/\(xI a).gl=b.gl/\ak dv 3 zI (xI a).a=ak dv 3 zI c.a/\jm (xI a).at_=jm b.at_/\R
def zKv (a:oH) (b:BF):Prop:=a.b.gl=b.b.gl/\Yf a b (fa ((fY a)/\∃(d:Int),zD (ab zC a.b.fm) (qC a).toNat 1 1=aw [dI d]/\∃(e:uq),HO e d a.b (True/\fa (dp ((e.a.qe e.n).count==0) (((iE a.b.spare).length+1)*(8:Nat)<=(140737488355328:Nat)/\∃(g:Li),(↑g.i:Int)=(qC a)/\(↑g.j:Int)=av.wrap ((qC a)+1)/\g.ez=ab zC a.b.fm/\(g.i<g.j/\g.j<=g.ez.length)/\fa (dl ((1:Int))/\dx (Qd6 b a.b e (ab zC (xI b).fm=af g.i g.ez++aj g.j g.ez/\ab zC (xI b).ej=ab zC a.b.ej/\iE (xI b).spare=iE a.b.spare++[[dI d]]/\True)))) (dx (Qd6 b a.b e (ab zC (xI b).fm=ab zC a.b.fm/\ab zC (xI b).ej=ab zC a.b.ej/\iE (xI b).spare=iE a.b.spare/\True)))))))
@[reducible] def Q8 (a b:dq)(R:Prop):Prop:=a.iH=b.iH/\a.iG=b.iG/\a.gp=b.gp/\R
def zKy (a:BF):Prop:=∃(b:oH),dl ((1:Int))/\b.dm=a.dm/\Q8 b.b a.b (zKv b a)
def yMo (i:BF):Prop:=
 (∀(a:Value×List D),a∈jm i.b.at_->lr (ay av i.id) a.fst=au)/\dp i.b.gp (dp (i.b.iH==i.id) (∃(a:oH),dl ((1:Int))/\a.dm=i.dm/\a.b.iH=i.b.iH/\a.b.iG=i.b.iG/\a.b.gp=ar/\zKv a i) (zKy i)) (zKy i)
def xG (a:BF):=(a.b.iI 2 a.id a.dm)
@[reducible] def Qa4 (a:BF)(b:dq)(c:uq)(R:Prop):Prop:=(xG a).iH=b.iH/\(xG a).iG=b.iG/\(xG a).gp=b.gp/\(xG a).gl=b.gl/\ak dv 3 zI (xG a).a=ak dv 3 zI c.a/\jm (xG a).at_=jm b.at_/\ab zC (xG a).fm=ab zC b.fm/\R
def ZH (a:oH) (b:BF):Prop:=Yf a b (fa ((fX a)/\∃(d:Int),zD (ab zC a.b.ej) (qB a).toNat 1 1=aw [dI d]/\∃(e:uq),HO e d a.b (True/\fa (dp ((e.a.qe e.n).count==0) (((iE a.b.spare).length+1)*(8:Nat)<=(140737488355328:Nat)/\∃(g:Li),(↑g.i:Int)=(qB a)/\(↑g.j:Int)=av.wrap ((qB a)+1)/\g.ez=ab zC a.b.ej/\(g.i<g.j/\g.j<=g.ez.length)/\fa (dl ((2:Int))/\dx (Qa4 b a.b e (ab zC (xG b).ej=af g.i g.ez++aj g.j g.ez/\iE (xG b).spare=iE a.b.spare++[[dI d]]/\True)))) (dx (Qa4 b a.b e (ab zC (xG b).ej=ab zC a.b.ej/\iE (xG b).spare=iE a.b.spare/\True)))))))
def Z5 (a:BF):Prop:=∃(b:oH),dl ((2:Int))/\b.dm=a.dm/\Q8 b.b a.b (b.b.gl=a.b.gl/\ZH b a)
def yNe (i:BF):Prop:=
 (∀(a:Value×List D),a∈jm i.b.at_->lr (ay av i.id) a.fst=au)/\dp i.b.gl (dp (i.b.iG==i.id) (∃(a:oH),dl ((2:Int))/\a.dm=i.dm/\Q8 a.b i.b (a.b.gl=ar/\ZH a i)) (Z5 i)) (Z5 i)
def zFp (a:CL):Prop:=QR a.b (True)
def zEy (a:Int) (b:CL) (c:Int) (d:Int):Prop:=∃(e:uq),HO e a b.b (e.a.du.length<=1000000/\fa (dx ((bN b.L b.id).id=b.id/\(bN b.L b.id).side=c/\(bN b.L b.id).dm=d/\(bN b.L b.id).dr=(e.a.nn e.n).fst.dr/\(bN b.L b.id).top=(e.a.nn e.n).fst.top/\vK b.L b.id=au/\IC b.b (ak dv 3 zI b.b.a=ak dv 3 zI e.a/\zFp b))))
def tJ (a:CL) (b:Int) (c:Int) (d:Int) (e:Bool):Prop:=jH (ay av a.id) (jm a.b.at_)=aw [dI b,dI c,dI d]/\e=au\/jH (ay av a.id) (jm a.b.at_)=ax/\[dI b,dI c,dI d]=[dI 0,dI 0,dI 0]/\e=ar
def yRh (i:CL):Prop:=
 (∀(a:Value×List D),a∈jm i.b.at_->lr (ay av i.id) a.fst=au)/\∃(a:Bool),∃(b:Int),∃(c:Int),∃(d:Int),(tJ i b c d a)/\dp (!a) (dx ((bN i.L i.id).id=0/\(bN i.L i.id).side=0/\(bN i.L i.id).dm=0/\(bN i.L i.id).dr=0/\(bN i.L i.id).top=ar/\vK i.L i.id=ar/\IC i.b (dl (ak dv 3 zI i.b.a)/\zFp i))) ((zEy d i b c)/\d=d/\True/\zEy d i b c)
def VW (a:dq) (b:CL):Prop:=QT a b.b (a.fv (qM b.L b.id b.dr).fst)
def uG (a:DrJ):=(a.i.b.iI (zE a.s) a.i.id a.i.dm)
def Y' (a:CL) (b:Int) (c:Int) (d:Int) (e:uq):Prop:=∃(f:DrJ),f.i.id=a.id/\zE f.s=b/\f.i.dm=c/\f.i.slot=d/\Q8 f.i.b a.b (f.i.b.gl=a.b.gl/\ak dv 3 zI f.i.b.a=ak dv 3 zI e.a/\QT f.i.b a.b (((Q2 f.i.b.a f.i.b (f.i.b.spare.length<=1000000))/\z8 (zE f.s) (f.i.b.dz (zE f.s)) f.i.dm<(f.i.b.dz (zE f.s)).length)/\fa (∃(h:dq),(qM a.L a.id a.dr).snd=0/\h.iH=(uG f).iH/\h.iG=(uG f).iG/\h.gp=(uG f).gp/\h.gl=(uG f).gl/\ak dv 3 zI h.a=ak dv 3 zI (uG f).a/\ab zC h.fm=ab zC (uG f).fm/\ab zC h.ej=ab zC (uG f).ej/\jm h.at_=jm (uG f).at_/\iE h.spare=iE (uG f).spare/\h.fv (qM a.L a.id a.dr).fst)))
def Zo (a:Int) (b:Ck) (c:CL) (d:Int) (e:Int):Prop:=∃(f:uq),f.n=a/\ak dv 3 zI f.a=ak dv 3 zI (b.a.gq b.n b.dr).fst/\f.a.du.length<=1000000/\fa (dp (!(f.a.nn f.n).snd) (Y' c d e a f) (dp ((f.a.nn f.n).fst.id !=c.id) (Y' c d e a f) (∃(h:dq),(qM c.L c.id c.dr).snd=0/\Q8 h c.b (h.gl=c.b.gl/\ak dv 3 zI h.a=ak dv 3 zI f.a/\VW h c))))
def y1h (i:CL):Prop:=
 (∀(a:Value×List D),a∈jm i.b.at_->lr (ay av i.id) a.fst=au)/\∃(a:Bool),∃(b:Int),∃(c:Int),∃(d:Int),(tJ i b c d a)/\dp (!a) (∃(e:dq),(qM i.L i.id i.dr).snd=26/\Q8 e i.b (e.gl=i.b.gl/\ak dv 3 zI e.a=ak dv 3 zI i.b.a/\VW e i)) (∃(e:Ck),e.n=d/\e.dr=i.dr/\ak dv 3 zI e.a=ak dv 3 zI i.b.a/\(e.a.du.length<=1000000/\∀(k:Nat) (s:Slot),e.a.du[k]?=aw s->s.used=au->(0<=s.queue/\s.queue<(↑e.a.dy.length:Int))/\s.dr<=1000000/\(s.ahead=(-1)\/0<=s.ahead/\s.ahead<(↑e.a.du.length:Int)/\s.ahead≠(↑k:Int))/\(s.back=(-1)\/0<=s.back/\s.back<(↑e.a.du.length:Int)/\s.back≠(↑k:Int)))/\fa (dp ((e.a.gq e.n e.dr).snd !=0) (∃(g:dq),(qM i.L i.id i.dr).snd=(e.a.gq e.n e.dr).snd/\Q8 g i.b (g.gl=i.b.gl/\ak dv 3 zI g.a=ak dv 3 zI (e.a.gq e.n e.dr).fst/\VW g i)) ((Zo d e i b c)/\d=d/\True/\Zo d e i b c)))
@[reducible] def Qf (a:dq)(R:Prop):Prop:=a.iH=a.iH/\a.iG=a.iG/\a.gp=a.gp/\a.gl=a.gl/\ak dv 3 zI a.a=ak dv 3 zI a.a/\ab zC a.fm=ab zC a.fm/\ab zC a.ej=ab zC a.ej/\jm a.at_=jm a.at_/\iE a.spare=iE a.spare/\R
def xAq (i:II):Prop:=
 ∃(a:Int),a=zE ar/\True/\fa (dp (kU a) (dx (Qf i.b (ab uA (vm i.L (zE ar) i.dm)=[]/\True))) (∃(c:oH),1=zE ar/\c.dm=i.dm/\Qe c.b i.b ((qS c)/\fa (dp (!jV 1 (c.b.dz 1) c.dm) (dx (Qe i.b c.b (ab uA (vm i.L (zE ar) i.dm)=[]/\True))) ((fY c)/\∃(e:Int),∃(f:Int),zD (ab zC c.b.fm) (qC c).toNat 0 2=aw [dI e,dI f]/\∃(g:Ff),g.s=zE ar/\g.r.dm=e/\g.r.queue=f/\Qe g.b c.b (g.b.a.pz g.r.queue g.l/\fa (dx (yE i.b=yE g.b/\ab uA (vm i.L (zE ar) i.dm)=ab uA g.ox/\True))))))))
def xCz (i:II):Prop:=
 ∃(a:Int),a=zE au/\True/\fa (dp (kU a) (dx (Qf i.b (ab uA (vm i.L (zE au) i.dm)=[]/\True))) (∃(c:oH),2=zE au/\c.dm=i.dm/\Qe c.b i.b ((qS c)/\fa (dp (!jV 2 (c.b.dz 2) c.dm) (dx (Qe i.b c.b (ab uA (vm i.L (zE au) i.dm)=[]/\True))) ((fX c)/\∃(e:Int),∃(f:Int),zD (ab zC c.b.ej) (qB c).toNat 0 2=aw [dI e,dI f]/\∃(g:Ff),g.s=zE au/\g.r.dm=e/\g.r.queue=f/\Qe g.b c.b (g.b.a.pz g.r.queue g.l/\fa (dx (yE i.b=yE g.b/\ab uA (vm i.L (zE au) i.dm)=ab uA g.ox/\True))))))))
def lX {L:List zK} (h:(L.map (·.id)).Nodup) {o:zK} (ho:o∈L):bN L o.id=o:=by
 induction L with
 |nil=>cases ho
 |cons x L ih=>
  rw[jj,yk]at h;rw[bN,LA];rcases jq.1 ho with rfl|ho
  ·rw[jk rfl];rfl
  ·have:x.id≠o.id:=λe=>h.1 (e▸rz (f:=(·.id)) ho)
   rw[jt this];exact ih h.2 ho
def m3 {α β:Type} {f g:α->Option β}:∀{l:List α},(∀x∈l,f x=g x)->l.filterMap f=l.filterMap g
 |[],_=>rfl
 |x::l,h=>by rw[List.filterMap_cons,List.filterMap_cons,h x iS,m3 λy hy=>h y (jc _ hy)]
def y6e {L:List zK} {id:Int} (h:vK L id=ar):bN L id=xAf:=by
 rw[bN];have:L.find? (λo=>decide (o.id=id))=ax:=by
  rw[ag];intro o ho;rw[vK,N0]at h;exact h o ho
 rw[this];rfl
structure Told (b:dq) (Q:List (List Nat)) (id:Int) (s:Int) (r:xV) (k:Nat):Prop where
 hs:s=1\/s=2
 hr:r∈b.dz s
 hk:k∈xJ Q r
 e:km b.at_ id=aw ⟨s,r.dm,k⟩
 ident:(b.a.fb k).id=id
 get:bN (b.flat Q) id=vZ b.a s r.dm k
 has:vK (b.flat Q) id=au
def yZm {b:dq} {Q:List (List Nat)} {s:Int} (hs:s=1\/s=2) {r:xV} (hr:r∈b.dz s) {k:Nat} (hk:k∈xJ Q r):vZ b.a s r.dm k∈b.flat Q:=
 B5 hs (A8.2 ⟨r,hr,rz hk⟩)
def dq.Core.told {b:dq} {Q:List (List Nat)} (c:b.Core Q (-1)) (id:Int):(km b.at_ id=ax/\vK (b.flat Q) id=ar)\/∃s r k,Told b Q id s r k:=by
 cases hg:km b.at_ id with
 |none=>
  have:=zLt hg;rw[c.Ab.mem_iff,<- kh]at this;exact .inl ⟨rfl,by simpa using this⟩
 |some x=>
  obtain⟨k,r,hs,hr,hk,hx,Bf⟩:=c.SR (Pu hg);have hm:=yZm hs hr hk;have j':=lX c.ids hm;have e:(vZ b.a x.side r.dm k).id=id:=Bf;rw[e]at j';exact .inr ⟨x.side,r,k,hs,hr,hk,by rw[hg];exact congrArg aw hx,Bf,j',kh.2 (by rw[<- e];exact rz hm)⟩
def Told.only {b:dq} {Q:List (List Nat)} (c:b.Core Q (-1)) {id s:Int} {r:xV} {k:Nat} (h:Told b Q id s r k) {s':Int} (iK:s'=1\/s'=2) {r':xV} (ou:r'∈b.dz s') {j:Nat} (hj:j∈xJ Q r'):(b.a.fb j).id=id↔j=k:=by
 constructor
 ·intro e;have h1:=c.FF iK ou hj;have h2:=c.FF h.hs h.hr h.hk;rw[e]at h1;rw[h.ident]at h2;have:=congrArg Place.slot (UH c.keys h1 h2);dsimp only at this;omega
 ·rintro rfl;exact h.ident
def dq.Core.less {b:dq} {Q:List (List Nat)} (c:b.Core Q (-1)) (ht:b.BO (b.flat Q)) {id s:Int} {r:xV} {k:Nat} (h:Told b Q id s r k) {q:Int} (hq:1<=q/\q<(b.a.fb k).dr):
 (b.a.gq k q).2=0/\({b with a:=(b.a.gq k q).1}:dq).fv (gS (b.flat Q) id q)/\(b.a.gq k q).1.du.length=250/\(b.a.gq k q).1.nn k=((((b.a.gq k q).1.fb k)).pk,au)/\((b.a.gq k q).1.fb k).id=id:=by
 obtain⟨t1,t2,t3⟩:=c.wf.take (c.get h.hs h.hr) h.hk (q:=q) ⟨hq.1,oM⟩;rw[eg (by omega)]at t3;obtain⟨w,t4,t5⟩:=t3;have Ez:∀j,((b.a.gq k q).1.fb j).pk=if j=k then{(b.a.fb k).pk with dr:=(b.a.fb k).dr-q}else(b.a.fb j).pk:=by
  intro j;split
  ·rename_i e;rw[e,t4];rfl
  ·rename_i e;exact(t2 j e).1
 have Bf:∀j,((b.a.gq k q).1.fb j).id=(b.a.fb j).id:=by
  intro j;have:=congrArg Ek.id (Ez j);split at this
  ·rename_i e;rw[e]at this ⊢;exact this
  ·exact this
 have ru:({b with a:=(b.a.gq k q).1}:dq).flat Q=gS (b.flat Q) id q:=by
  have side:∀s',s'=1\/s'=2->({b with a:=(b.a.gq k q).1}:dq).im Q s'=gS (b.im Q s') id q:=by
   intro s' iK;rw[gS,dq.im,dq.im,List.filterMap_flatMap];refine xK λr' ou=> ?_
   rw[dq.ia,dq.ia,List.filterMap_map];have:(xJ Q r').filterMap (λj=>aw (vZ (b.a.gq k q).1 s' r'.dm j))=(xJ Q r').map (vZ (b.a.gq k q).1 s' r'.dm):=by rw[<- List.filterMap_eq_map];rfl
   refine this.symm.trans (m3 λj hj=> ?_);simp only[Function.comp,vZ,yNd,Ez];have XQ:=h.only c iK ou hj;by_cases e:j=k
   ·subst e;rw[fc rfl];refine((fc (show(b.a.fb j).pk.id=id from h.ident)).trans (eg λe=> ?_)).symm;have e:(b.a.fb j).dr=q:=e;omega
   ·rw[eg e];exact(eg (λe2=>e (XQ.1 e2))).symm
  rw[dq.flat,side 1 (.inl rfl),side 2 (.inr rfl),dq.flat,gS,gS,gS,List.filterMap_append]
 have hu:(b.a.gq k q).1.iu k=au:=by
  obtain⟨oU,⟨_,_,h2⟩,h3⟩:=w.toyq.mem (c.get h.hs h.hr) h.hk;have gn:=w.len;simp only[dv.iu,lj,tq,om];exact⟨oM,oM,h2.used⟩
 refine⟨t1,⟨Q,c.flag w Bf,⟨λo ho=> ?_,λs' iK hh=> ?_⟩,ru.symm⟩,w.len,by rw[dv.nn,fc hu,om],by rw[Bf,h.ident]⟩
 ·obtain⟨o',oG,e⟩:=N4.1 ho;have:=ht.fl o' oG;split at e
  ·split at e
   ·cases e
   ·cases e;exact this
  ·cases e;exact this
 ·obtain⟨o,ho,o1,o2⟩:=ht.th s' iK hh;by_cases e:o.id=id
  ·refine⟨{o with dr:=o.dr-q},N4.2 ⟨o,ho,?_⟩,o1,o2⟩;have hg:=lX c.ids ho;rw[e,h.get]at hg;rw[fc e,eg (λe2=>by
    rw[<- hg]at e2;have:(b.a.fb k).dr=q:=e2;omega)]
  ·exact⟨o,N4.2 ⟨o,ho,eg e⟩,o1,o2⟩
def yEn:∀{l:List (Int×Place)} {k:Int},(l.map (·.1)).Nodup->rH k l=l.filter λx=> !decide (x.1=k)
 |[],k,_=>rfl
 |(a,b)::l,k,h=>by
  rw[jj,yk]at h;rw[rH];by_cases e:k=a
  ·subst e;rw[fc rfl,Rn (by simp)];symm;rw[Ii];intro x hx;have:x.1≠k:=λe=>h.1 (e▸rz (f:=(·.1)) hx)
   simp[this]
  ·rw[eg e,Ro (by simp[Ne.symm e]),yEn h.2]
def zJx {l:List Nat} (h:l.Nodup) (k:Nat):l.erase k=l.filter λj=> !decide (j=k):=by
 rw[h.erase_eq_filter];refine List.filter_congr λj _=> ?_
 simp[bne,BEq.beq]
def yMi {s:Int} {l:List xV} (hs:l.Pairwise λr r'=>je s r.dm r'.dm=au) {R1 R2:List xV} {r:xV} (hl:l=R1++r::R2):z8 s l r.dm=R1.length:=by
 subst hl;rw[List.pairwise_append]at hs;refine sU (by simp) (λk hk x hx=> ?_) (λx hx=> ?_)
 ·rw[FC hk]at hx;exact hs.2.2 x (ku hx) r iS
 ·rw[Dg (lh _),JF]at hx;cases hx;exact NC _ _
def ySx (b:dq) (id:Int) {s:Int} (hs:s=1\/s=2):(b.jy s id).a=b.a/\(b.jy s id).fm=b.fm/\(b.jy s id).ej=b.ej/\(b.jy s id).spare=b.spare/\∀s',s'=1\/s'=2->(b.jy s id).iX s'=b.iX s'/\(b.jy s id).ml s'=if s'=s/\b.iX s=id then ar else b.ml s':=by
 rw[dq.jy];by_cases hc:b.ml s=au/\b.iX s=id
 ·rw[fc hc];rcases hs with rfl|rfl
  ·exact(mn (λs' h=>by rcases h with rfl|rfl;exact⟨rfl,(fc ⟨rfl,hc.2⟩).symm⟩;exact⟨rfl,(eg (λe=>absurd e.1 Z8)).symm⟩))
  ·exact(mn (λs' h=>by rcases h with rfl|rfl;exact⟨rfl,(eg (λe=>absurd e.1 Z8)).symm⟩;exact⟨rfl,(fc ⟨rfl,hc.2⟩).symm⟩))
 ·rw[eg hc];refine(mn (λs' h=>⟨rfl,?_⟩));split
  ·rename_i e;rw[e.1];cases hh:b.ml s with
   |false=>rfl
   |true=>exact absurd ⟨hh,e.2⟩ hc
  ·rfl
def dq.Core.close {b:dq} {Q:List (List Nat)} {s:Int} (hs:s=1\/s=2) {r:xV} {R1 R2:List xV} (hr:b.dz s=R1++r::R2) (c:b.Core Q r.queue) (he:xJ Q r=[]) {b':dq} (hb:b'=({b with spare:=b.spare++[r.queue]}:dq).rh s (R1++R2)):
 b'.Core Q (-1)/\b'.flat Q=b.flat Q:=by
 obtain⟨g1,g2⟩:=zRs ({b with spare:=b.spare++[r.queue]}:dq) hs (R1++R2);rw[<- hb]at g1 g2;have ha:b'.a=b.a:=by rw[hb];rcases hs with rfl|rfl<;>rfl
 have ta:b'.at_=b.at_:=by rw[hb];rcases hs with rfl|rfl<;>rfl
 have tv:b'.spare=b.spare++[r.queue]:=by rw[hb];rcases hs with rfl|rfl<;>rfl
 have FK:b'.qs.Perm b.qs:=by
  rw[hb];rcases hs with rfl|rfl
  ·have hr:b.fm=R1++r::R2:=hr;show((R1++R2).map (·.queue)++b.ej.map (·.queue)++(b.spare++[r.queue])).Perm (b.fm.map (·.queue)++b.ej.map (·.queue)++b.spare)
   rw[hr,<- iY];refine(Rs _ _).trans ?_;simp only[jl,jj,iY,ui];exact mh.symm
  ·have hr:b.ej=R1++r::R2:=hr;show(b.fm.map (·.queue)++(R1++R2).map (·.queue)++(b.spare++[r.queue])).Perm (b.fm.map (·.queue)++b.ej.map (·.queue)++b.spare)
   rw[hr,<- iY];refine(Rs _ _).trans ?_;simp only[jl,jj,iY,ui];refine .trans ?_ (List.Perm.append_left _ mh.symm);exact mh.symm
 have oY:∀s',s'=1\/s'=2->b'.im Q s'=b.im Q s':=by
  intro s' iK;have ho:∀x,b'.ia Q s' x=b.ia Q s' x:=λx=>by rw[dq.ia,dq.ia,ha]
  rw[dq.im,dq.im];by_cases e:s'=s
  ·subst e;rw[g1,hr,yu,yu,vi,xK (λx _=>ho x),xK (l:=R2) (λx _=>ho x)];rw[show b.ia Q s' r=[]by rw[dq.ia,he];rfl,xi]
  ·rw[g2 s' e iK];exact xK λx _=>ho x
 have zj:∀s',s'=1\/s'=2->b'.mg Q s'=b.mg Q s':=by
  intro s' iK;rw[dq.mg,dq.mg,ha];by_cases e:s'=s
  ·subst e;rw[g1,hr,yu,yu,vi,he,B9,xi]
  ·rw[g2 s' e iK];rfl
 have ru:b'.flat Q=b.flat Q:=by rw[dq.flat,dq.flat,oY 1 (.inl rfl),oY 2 (.inr rfl)]
 have qz:=FK.nodup_iff.2 c.nd;have aaG:r.queue∉(R1++R2).map (·.queue):=by
  intro hm;have h1:r.queue∈(b'.dz s).map (·.queue):=by rw[g1];exact hm
  rw[dq.qs]at qz;have h2:=(Ap.1 qz).2.2 r.queue (by
   rcases hs with rfl|rfl
   ·exact yl _ h1
   ·exact zu _ h1) r.queue (by rw[tv];simp)
  exact h2 rfl
 refine⟨⟨by rw[ha];exact c.wf,λs' iK=> ?_,λq hq=>c.uj q (FK.mem_iff.1 hq),qz,by rw[FK.length_eq];exact c.ql,λs' iK x hx _=> ?_,λq hq=> ?_,by rw[ta,zj 1 (.inl rfl),zj 2 (.inr rfl)];exact c.at_,by rw[ru];exact c.ids,c.qb⟩,ru⟩
 ·by_cases e:s'=s
  ·subst e;have:=c.xk s' iK;rw[hr]at this;rw[g1];exact this.sublist (List.Sublist.append_left (List.sublist_cons_self _ _) _)
  ·rw[g2 s' e iK];exact c.xk s' iK
 ·by_cases e:s'=s
  ·subst e;rw[g1]at hx;refine c.ne s' iK x (by rw[hr];rcases oK.1 hx with h|h;exact yl _ h;exact zu _ (jc _ h)) λe2=>aaG (e2▸rz (f:=(·.queue)) hx)
  ·rw[g2 s' e iK]at hx;refine c.ne s' iK x hx λe2=> ?_
   have h1:r.queue∈(b'.dz s').map (·.queue):=by rw[g2 s' e iK,<- e2];exact rz (f:=(·.queue)) hx
   rw[dq.qs]at qz;exact(Ap.1 qz).2.2 r.queue (by
    rcases iK with rfl|rfl
    ·exact yl _ h1
    ·exact zu _ h1) r.queue (by rw[tv];simp) rfl
 ·rw[tv]at hq;rcases oK.1 hq with hq|hq
  ·exact c.sp q hq
  ·rw[uc.1 hq];exact he
def zWi {L:List zK} (h:(L.map (·.id)).Nodup) {id:Int} (hh:vK L id=au):gS L id (bN L id).dr=L.filter λo=> !decide (o.id=id):=by
 rw[gS,<- List.filterMap_eq_filter];refine m3 λo ho=> ?_
 by_cases e:o.id=id
 ·have hg:=lX h ho;rw[e]at hg;rw[fc e,fc (by rw[hg])];simp[Option.guard,e]
 ·rw[eg e];simp[Option.guard,e]
def dq.Core.gone {b:dq} {Q:List (List Nat)} (c:b.Core Q (-1)) (ht:b.BO (b.flat Q)) {id s:Int} {r:xV} {k:Nat} (h:Told b Q id s r k) {q:Int} (hq:1<=q/\q=(b.a.fb k).dr):
 (b.a.gq k q).2=0/\(({b with a:=(b.a.gq k q).1}:dq).iI s id r.dm).fv (gS (b.flat Q) id q)/\(b.a.gq k q).1.du.length=250/\(b.a.gq k q).1.dy.length=b.a.dy.length/\((b.a.gq k q).1.nn k).2=ar/\z8 s (b.dz s) r.dm<(b.dz s).length:=by
 obtain⟨t1,t2,t3⟩:=c.wf.take (c.get h.hs h.hr) h.hk (q:=q) ⟨hq.1,oM⟩;rw[fc hq.2.symm]at t3;obtain⟨w,t4,t5⟩:=t3;generalize hA:(b.a.gq k q).1=a1 at*;have j':=c.get h.hs h.hr;have FO:=(jf.1 j').1;have Ou:=c.uj _ (gX h.hs h.hr);generalize Sm:Q.set r.queue.toNat ((xJ Q r).erase k)=Q' at*;have J5:Q'.length=Q.length:=by rw[<- Sm,qm]
 have qz:(xJ Q r).Nodup:=c.wf.nd _ _ j';have FL:∀s' (r':xV),(s'=1\/s'=2)->r'∈b.dz s'->xJ Q' r'=(xJ Q r').erase k:=by
  intro s' r' iK ou;by_cases e:r'.queue=r.queue
  ·have e1:xJ Q r'=xJ Q r:=by rw[xJ,xJ,e]
   rw[e1,xJ,e,<- Sm];exact zY (dZ FO)
  ·have h2:xJ Q' r'=xJ Q r':=by
    have:=c.uj _ (gX iK ou);rw[xJ,xJ,oc,oc,<- Sm,uV (by omega)]
   rw[h2];symm;refine List.erase_of_not_mem λhk=> ?_
   have:=c.wf.toyq.one (c.get iK ou) j' hk h.hk;have:=c.uj _ (gX iK ou);omega
 have hQo:∀q:Int,0<=q->q≠r.queue->Q'.getD q.toNat []=Q.getD q.toNat []:=by
  intro q h0 jr;rw[<- Sm,oc,uV (by omega),oc]
 obtain⟨u1,u2,u3,u4,u5⟩:=ySx ({b with a:=a1}:dq) id h.hs;obtain⟨b1,qc⟩:∃b1:dq,b1={({b with a:=a1}:dq).jy s id with at_:=rH id b.at_}:=⟨_,rfl⟩
 have v1:b1.a=a1:=by rw[qc];exact u1
 have v2:b1.fm=b.fm:=by rw[qc];exact u2
 have v3:b1.ej=b.ej:=by rw[qc];exact u3
 have v4:b1.spare=b.spare:=by rw[qc];exact u4
 have v5:b1.at_=rH id b.at_:=by rw[qc]
 have v6:∀s',s'=1\/s'=2->b1.iX s'=b.iX s'/\b1.ml s'=if s'=s/\b.iX s=id then ar else b.ml s':=by
  intro s' iK;rw[qc];exact u5 s' iK
 have vr:∀s',b1.dz s'=b.dz s':=by intro s';rw[dq.dz,dq.dz,v2,v3]
 have vq:b1.qs=b.qs:=by rw[dq.qs,dq.qs,v2,v3,v4]
 have AJ:∀s',s'=1\/s'=2->b1.im Q' s'=(b.im Q s').filter (λo=> !decide (o.id=id))/\b1.mg Q' s'=(b.mg Q s').filter λx=> !decide (x.1=id):=by
  intro s' iK;rw[dq.im,dq.im,dq.mg,dq.mg,vr,List.filter_flatMap,List.filter_flatMap];have key:∀r'∈b.dz s',∀j∈xJ Q r',((b.a.fb j).id=id↔j=k)/\(j≠k->vZ a1 s' r'.dm j=vZ b.a s' r'.dm j/\uM a1 s' r'.dm j=uM b.a s' r'.dm j):=by
   intro r' ou j hj;refine⟨h.only c iK ou hj,λe=> ?_⟩;have:=(t2 j e).1;refine⟨by rw[vZ,vZ,this],?_⟩;have:=congrArg Ek.id this;rw[uM,uM];exact congrArg (λi=>(i,(⟨s',r'.dm,j⟩:Place))) this
  refine⟨xK λr' ou=> ?_,xK λr' ou=> ?_⟩
  ·rw[dq.ia,dq.ia,FL s' r' iK ou,zJx (c.wf.nd _ _ (c.get iK ou)),ae,v1];have e1:(xJ Q r').filter ((λo:zK=> !decide (o.id=id))∘vZ b.a s' r'.dm)=(xJ Q r').filter λj=> !decide (j=k):=by
    refine List.filter_congr λj hj=> ?_
    show(!decide ((b.a.fb j).id=id))=_;rw[decide_eq_decide.2 (key r' ou j hj).1]
   rw[e1];refine uz λj hj=> ?_
   rw[wb]at hj;exact((key r' ou j hj.1).2 (by simpa using hj.2)).1
  ·rw[FL s' r' iK ou,zJx (c.wf.nd _ _ (c.get iK ou)),ae,v1];have e1:(xJ Q r').filter ((λx:Int×Place=> !decide (x.1=id))∘uM b.a s' r'.dm)=(xJ Q r').filter λj=> !decide (j=k):=by
    refine List.filter_congr λj hj=> ?_
    show(!decide ((b.a.fb j).id=id))=_;rw[decide_eq_decide.2 (key r' ou j hj).1]
   rw[e1];refine uz λj hj=> ?_
   rw[wb]at hj;exact((key r' ou j hj.1).2 (by simpa using hj.2)).2
 have ru:b1.flat Q'=(b.flat Q).filter λo=> !decide (o.id=id):=by
  rw[dq.flat,(AJ 1 (.inl rfl)).1,(AJ 2 (.inr rfl)).1,dq.flat,Df]
 have ta:b1.at_.Perm (b1.mg Q' 1++b1.mg Q' 2):=by
  rw[v5,yEn c.keys,(AJ 1 (.inl rfl)).2,(AJ 2 (.inr rfl)).2,<- Df];exact c.at_.filter _
 have hold:∀s' (r':xV),(s'=1\/s'=2)->r'∈b.dz s'->xJ Q r'≠[]:=λs' r' iK ou=>c.ne s' iK r' ou λe=>by
  have:=c.uj _ (gX iK ou);omega
 have c1:b1.Core Q' r.queue:=by
  refine⟨by rw[v1];exact w,λs' iK=>by rw[vr];exact c.xk s' iK,by rw[vq,J5];exact c.uj,by rw[vq];exact c.nd,by rw[vq,J5];exact c.ql,λs' iK r' ou jr=> ?_,λq hq=> ?_,ta,?_,by rw[J5];exact c.qb⟩
  ·rw[vr]at ou;have e:=hQo r'.queue (c.uj _ (gX iK ou)).1 jr;rw[xJ,e];exact hold s' r' iK ou
  ·rw[v4]at hq;have Ow:q∈b.qs:=zu _ hq;rw[hQo q (c.uj q Ow).1 λe=> ?_]
   ·exact c.sp q hq
   ·have BA:=c.nd;rw[dq.qs]at BA;refine(Ap.1 BA).2.2 r.queue ?_ q hq e.symm;rcases h.hs with rfl|rfl
    ·exact yl _ (rz (f:=(·.queue)) h.hr)
    ·exact zu _ (rz (f:=(·.queue)) h.hr)
  ·rw[ru];exact c.ids.sublist (List.Sublist.map _ Rj)
 have htk:gS (b.flat Q) id q=b1.flat Q':=by
  rw[ru,<- zWi c.ids h.has,h.get,hq.2];rfl
 have hm1:∀o,o∈b1.flat Q'↔o∈b.flat Q/\o.id≠id:=by
  intro o;rw[ru,wb];simp
 have ht1:∀b2:dq,(∀x,b2.ml x=b1.ml x/\b2.iX x=b1.iX x)->b2.BO (b1.flat Q'):=by
  intro b2 my;refine⟨λo ho=> ?_,λs' iK hh=> ?_⟩
  ·rw[(my _).1,(my _).2];obtain⟨ho,jr⟩:=(hm1 o).1 ho;have iK:=(sO ho).1;rw[(v6 _ iK).1,(v6 _ iK).2,ht.fl o ho];split
   ·rename_i e;rw[e.1,e.2,jt jr,JG,JG]
   ·rfl
  ·rw[(my _).1,(v6 s' iK).2]at hh;rw[(my _).2,(v6 s' iK).1];split at hh
   ·cases hh
   ·rename_i e;obtain⟨o,ho,o1,o2⟩:=ht.th s' iK hh;refine⟨o,(hm1 o).2 ⟨ho,λe2=>e ?_⟩,o1,o2⟩;have hg:=lX c.ids ho;rw[e2,h.get]at hg;have EU:s'=s:=by rw[<- o1,<- hg];rfl
    exact⟨EU,by rw[<- EU,<- o2,e2]⟩
 obtain⟨R1,R2,o5⟩:=List.append_of_mem h.hr;have FQ:=yMi (c.xk s h.hs) o5;have qn:(b.dz s).getD (z8 s (b.dz s) r.dm) ⟨0,0⟩=r:=by
  rw[FQ,o5];refine zY ?_;rw[Dg (lh _),JF];rfl
 have Bz:z8 s (b.dz s) r.dm<(b.dz s).length:=by rw[FQ,o5];simp
 have hQr:Q'[r.queue.toNat]? =aw ((xJ Q r).erase k):=by rw[<- Sm];exact dZ FO
 have MW:(a1.qe r.queue).count=((xJ Q r).erase k).length:=by
  have:=w.q _ _ hQr;have Iv:=w.ql;rw[Wp Ou.1 this]
 have er:xJ Q' r=(xJ Q r).erase k:=zY hQr;have hru:({b with a:=a1}:dq).dz s=b.dz s:=rfl;have RJ:(a1.nn k).2=ar:=by
  have:a1.iu k=ar:=by
   have e:a1.fb k=iB:=t4;rw[dv.fb]at e;rw[dv.iu,om,e];simp[iB]
  rw[dv.nn,eg (by rw[this];decide)]
 refine⟨t1,?_,w.len,by rw[w.ql,c.wf.ql,J5],RJ,Bz⟩;rw[dq.iI,hru,qn];by_cases hz:(a1.qe r.queue).count=0
 ·rw[fc hz];have he:xJ Q' r=[]:=by
   rw[er];refine xu ?_;omega
  obtain⟨k1,k2⟩:=dq.Core.close h.hs (by rw[vr];exact o5) c1 he rfl;have ebk:(({({b with a:=a1}:dq).jy s id with at_:=rH id b.at_,spare:=b.spare++[r.queue]}:dq).rh s ((b.dz s).take (z8 s (b.dz s) r.dm)++(b.dz s).drop (z8 s (b.dz s) r.dm+1)))=(({b1 with spare:=b1.spare++[r.queue]}:dq).rh s (R1++R2)):=by
   have e1:(b.dz s).take (z8 s (b.dz s) r.dm)++(b.dz s).drop (z8 s (b.dz s) r.dm+1)=R1++R2:=by
    rw[FQ,o5,Lz];congr 1;rw[LF,Ik (by omega),Nat.add_sub_cancel_left];rfl
   rw[e1,v4,qc]
  refine⟨Q',?_,?_,?_⟩
  ·exact ebk▸k1
  ·rw[htk];refine ht1 _ λx=> ?_
   show(dq.ml (({({b with a:=a1}:dq).jy s id with at_:=rH id b.at_,spare:=b.spare++[r.queue]}:dq).rh s ((b.dz s).take (z8 s (b.dz s) r.dm)++(b.dz s).drop (z8 s (b.dz s) r.dm+1))) x=_/\dq.iX (({({b with a:=a1}:dq).jy s id with at_:=rH id b.at_,spare:=b.spare++[r.queue]}:dq).rh s ((b.dz s).take (z8 s (b.dz s) r.dm)++(b.dz s).drop (z8 s (b.dz s) r.dm+1))) x=_);rw[ebk];rcases h.hs with rfl|rfl<;>exact⟨rfl,rfl⟩
  ·rw[htk];show _=dq.flat (({({b with a:=a1}:dq).jy s id with at_:=rH id b.at_,spare:=b.spare++[r.queue]}:dq).rh s ((b.dz s).take (z8 s (b.dz s) r.dm)++(b.dz s).drop (z8 s (b.dz s) r.dm+1))) Q';rw[ebk];exact k2.symm
 ·rw[eg hz];have c2:b1.Core Q' (-1):=⟨c1.wf,c1.xk,c1.uj,c1.nd,c1.ql,λs' iK r' ou _=>by
   by_cases e:r'.queue=r.queue
   ·rw[xJ,e];intro e2;rw[xJ]at er;rw[er]at e2;rw[MW,e2]at hz;exact hz rfl
   ·exact c1.ne s' iK r' ou e,c1.sp,c1.at_,c1.ids,c1.qb⟩
  have hh:({({b with a:=a1}:dq).jy s id with at_:=rH id b.at_}:dq)=b1:=qc.symm;show dq.fv {({b with a:=a1}:dq).jy s id with at_:=rH id b.at_} _;rw[hh,htk];exact⟨Q',c2,ht1 b1 λ_=>⟨rfl,rfl⟩,rfl⟩
def tQ (k:Int):∀l,CA (ay av k) (jm l)=jm (rH k l)
 |[]=>rfl
 |(a,b)::l=>by
  have ih:=tQ k l;show(bif (xa .i64 .i64 && decide (k=a))then jm l else _::CA _ (jm l))=_;rw[ih,rH];by_cases h:k=a
  ·subst h;simp[xa]
  ·simp[h,jm]
def yCn:Uh.ok Tryz.prog 246:=
 DZ mixed Tryz.func246 rfl (by kernel_rfl) (by kernel_rfl) (by kernel_rfl) (by kernel_rfl) zLx rfl Z8 (λs sn sk i j w R=>by kernel_rfl)
def dup {X:Prop} {n:Int} (h:X):X/\n=n/\True/\X:=⟨h,rfl,trivial,h⟩
def dq.Core.small {b:dq} {Q:List (List Nat)} (c:b.Core Q (-1)):b.small:=by
 have hq:=c.qb;have h1:=c.ql;have h2:=c.wf.ql;have h3:=c.wf.len;rw[dq.qs,iv,iv,gy,gy]at h1;exact⟨⟨oM,oM⟩,oM,oM,oM⟩
def y9r (i:BF) (h:GO.dp i):yMo i:=by
 obtain⟨qf,hn⟩:i.ok 1:=h;obtain⟨⟨ha1,ha2⟩,qc,my,tv⟩:=id qf;have hn:z8 1 i.b.fm i.dm<i.b.fm.length:=hn;obtain⟨r,hr⟩:=z6 (l:=i.b.fm) hn;have qn:((i.b.dz 1).getD (z8 1 (i.b.dz 1) i.dm) ⟨0,0⟩)=r:=zY hr;have hw:∀k:Int,av.wrap ((z8 1 (i.b.dz 1) i.dm:Int)+1)=((z8 1 (i.b.dz 1) i.dm+1:Nat):Int):=λ_=>by
  have:=Vn 1 i.dm (i.b.dz 1);have hl:(i.b.dz 1).length<=1000000:=by show i.b.fm.length<=_;omega
  rw[iq (by omega)];rfl
 have LU:((z8 1 (i.b.dz 1) i.dm:Nat):Int)<((ab zC i.b.fm).length:Int):=by
  rw[gy];show((z8 1 i.b.fm i.dm:Nat):Int)<_;omega
 unfold yMo zKy Q8 zKv Yf HO Qd6 fa dx fY uW qS Q2 qC xI dI;refine⟨wU _ _,Cv.dp.mk (λc1=>Cv.dp.mk (λc2=> ?_) (λc2=> ?_)) (λc1=> ?_)⟩
 ·have c2:i.b.iH=i.id:=by simpa using c2
  have hu:i.b.jy 1 i.id={i.b with gp:=ar}:=by rw[dq.jy,fc ⟨c1,c2⟩];rfl
  refine⟨⟨{i.b with gp:=ar,at_:=rH i.id i.b.at_},i.dm⟩,iw ⟨rfl,(tQ _ _).symm,rfl,qf,λ_ _=>⟨⟨oM,LU⟩,r.queue,ju hr (by simp[zC]) rfl,⟨i.b.a,r.queue⟩,rfl,rfl,trivial,λ_ _=>Cv.dp.mk (λe=>⟨by simp only[y8];omega,⟨i.b.fm.map zC,z8 1 (i.b.dz 1) i.dm,z8 1 (i.b.dz 1) i.dm+1⟩,rfl,(hw 0).symm,rfl,⟨LC _,by rw[gy];exact hn⟩,λ_ _=>⟨rfl,(),?_⟩⟩) (λe=>⟨(),?_⟩)⟩⟩⟩
  ·have e:(i.b.a.qe r.queue).count=0:=by simpa using e
   rw[dq.iI,qn,fc e,hu];refine(tg ⟨rfl,?_,rfl,?_,trivial⟩)
   ·show ab zC (i.b.fm.take _++i.b.fm.drop _)=_;rw[jl,D9,Fx]
   ·show iE (i.b.spare++[r.queue])=_;simp[iE]
  ·have e:¬(i.b.a.qe r.queue).count=0:=by simpa using e
   rw[dq.iI,qn,eg e,hu];exact(ni (iJ trivial))
 ·have c2:¬i.b.iH=i.id:=by simpa using c2
  have hu:i.b.jy 1 i.id={i.b with gp:=i.b.gp}:=by rw[dq.jy,eg (λe=>c2 e.2)]
  refine⟨⟨{i.b with gp:=i.b.gp,at_:=rH i.id i.b.at_},i.dm⟩,iw ⟨rfl,(tQ _ _).symm,rfl,qf,λ_ _=>⟨⟨oM,LU⟩,r.queue,ju hr (by simp[zC]) rfl,⟨i.b.a,r.queue⟩,rfl,rfl,trivial,λ_ _=>Cv.dp.mk (λe=>⟨by simp only[y8];omega,⟨i.b.fm.map zC,z8 1 (i.b.dz 1) i.dm,z8 1 (i.b.dz 1) i.dm+1⟩,rfl,(hw 0).symm,rfl,⟨LC _,by rw[gy];exact hn⟩,λ_ _=>⟨rfl,(),?_⟩⟩) (λe=>⟨(),?_⟩)⟩⟩⟩
  ·have e:(i.b.a.qe r.queue).count=0:=by simpa using e
   rw[dq.iI,qn,fc e,hu];refine(tg ⟨rfl,?_,rfl,?_,trivial⟩)
   ·show ab zC (i.b.fm.take _++i.b.fm.drop _)=_;rw[jl,D9,Fx]
   ·show iE (i.b.spare++[r.queue])=_;simp[iE]
  ·have e:¬(i.b.a.qe r.queue).count=0:=by simpa using e
   rw[dq.iI,qn,eg e,hu];exact(ni (iJ trivial))
 ·have hu:i.b.jy 1 i.id={i.b with gp:=i.b.gp}:=by
   rw[dq.jy,eg];rintro⟨e,_⟩;exact absurd (show i.b.gp=au from e) (by rw[c1];decide)
  refine⟨⟨{i.b with gp:=i.b.gp,at_:=rH i.id i.b.at_},i.dm⟩,iw ⟨rfl,(tQ _ _).symm,rfl,qf,λ_ _=>⟨⟨oM,LU⟩,r.queue,ju hr (by simp[zC]) rfl,⟨i.b.a,r.queue⟩,rfl,rfl,trivial,λ_ _=>Cv.dp.mk (λe=>⟨by simp only[y8];omega,⟨i.b.fm.map zC,z8 1 (i.b.dz 1) i.dm,z8 1 (i.b.dz 1) i.dm+1⟩,rfl,(hw 0).symm,rfl,⟨LC _,by rw[gy];exact hn⟩,λ_ _=>⟨rfl,(),?_⟩⟩) (λe=>⟨(),?_⟩)⟩⟩⟩
  ·have e:(i.b.a.qe r.queue).count=0:=by simpa using e
   rw[dq.iI,qn,fc e,hu];refine(tg ⟨rfl,?_,rfl,?_,trivial⟩)
   ·show ab zC (i.b.fm.take _++i.b.fm.drop _)=_;rw[jl,D9,Fx]
   ·show iE (i.b.spare++[r.queue])=_;simp[iE]
  ·have e:¬(i.b.a.qe r.queue).count=0:=by simpa using e
   rw[dq.iI,qn,eg e,hu];exact(ni (iJ trivial))
def yNm:GO.ok Tryz.prog 235:=gu mixed (dw YX (dw sW (dw yCn fg))) 0 (λ_=>[]) (λ_=>[]) [] Tryz.func235 y9r
def y8u (i:BF) (h:GN.dp i):yNe i:=by
 obtain⟨qf,hn⟩:i.ok 2:=h;obtain⟨⟨ha1,ha2⟩,qc,my,tv⟩:=id qf;have hn:z8 2 i.b.ej i.dm<i.b.ej.length:=hn;obtain⟨r,hr⟩:=z6 (l:=i.b.ej) hn;have qn:((i.b.dz 2).getD (z8 2 (i.b.dz 2) i.dm) ⟨0,0⟩)=r:=zY hr;have hw:∀k:Int,av.wrap ((z8 2 (i.b.dz 2) i.dm:Int)+1)=((z8 2 (i.b.dz 2) i.dm+1:Nat):Int):=λ_=>by
  have:=Vn 2 i.dm (i.b.dz 2);have hl:(i.b.dz 2).length<=1000000:=by show i.b.ej.length<=_;omega
  rw[iq (by omega)];rfl
 have LU:((z8 2 (i.b.dz 2) i.dm:Nat):Int)<((ab zC i.b.ej).length:Int):=by
  rw[gy];show((z8 2 i.b.ej i.dm:Nat):Int)<_;omega
 unfold yNe Q8 Z5 Q8 ZH Yf Qa4 HO fa dx fX uY qS Q2 qB xG dI;refine⟨wU _ _,Cv.dp.mk (λc1=>Cv.dp.mk (λc2=> ?_) (λc2=> ?_)) (λc1=> ?_)⟩
 ·have c2:i.b.iG=i.id:=by simpa using c2
  have hu:i.b.jy 2 i.id={i.b with gl:=ar}:=by rw[dq.jy,fc ⟨c1,c2⟩];rfl
  refine⟨⟨{i.b with gl:=ar,at_:=rH i.id i.b.at_},i.dm⟩,iw ⟨rfl,(tQ _ _).symm,rfl,qf,λ_ _=>⟨⟨oM,LU⟩,r.queue,ju hr (by simp[zC]) rfl,⟨i.b.a,r.queue⟩,rfl,rfl,trivial,λ_ _=>Cv.dp.mk (λe=>⟨by simp only[y8];omega,⟨i.b.ej.map zC,z8 2 (i.b.dz 2) i.dm,z8 2 (i.b.dz 2) i.dm+1⟩,rfl,(hw 0).symm,rfl,⟨LC _,by rw[gy];exact hn⟩,λ_ _=>⟨rfl,(),?_⟩⟩) (λe=>⟨(),?_⟩)⟩⟩⟩
  ·have e:(i.b.a.qe r.queue).count=0:=by simpa using e
   rw[dq.iI,qn,fc e,hu];refine(ni ⟨rfl,?_,?_,trivial⟩)
   ·show ab zC (i.b.ej.take _++i.b.ej.drop _)=_;rw[jl,D9,Fx]
   ·show iE (i.b.spare++[r.queue])=_;simp[iE]
  ·have e:¬(i.b.a.qe r.queue).count=0:=by simpa using e
   rw[dq.iI,qn,eg e,hu];exact(ni (iJ trivial))
 ·have c2:¬i.b.iG=i.id:=by simpa using c2
  have hu:i.b.jy 2 i.id={i.b with gl:=i.b.gl}:=by rw[dq.jy,eg (λe=>c2 e.2)]
  refine⟨⟨{i.b with gl:=i.b.gl,at_:=rH i.id i.b.at_},i.dm⟩,iw ⟨rfl,(tQ _ _).symm,rfl,qf,λ_ _=>⟨⟨oM,LU⟩,r.queue,ju hr (by simp[zC]) rfl,⟨i.b.a,r.queue⟩,rfl,rfl,trivial,λ_ _=>Cv.dp.mk (λe=>⟨by simp only[y8];omega,⟨i.b.ej.map zC,z8 2 (i.b.dz 2) i.dm,z8 2 (i.b.dz 2) i.dm+1⟩,rfl,(hw 0).symm,rfl,⟨LC _,by rw[gy];exact hn⟩,λ_ _=>⟨rfl,(),?_⟩⟩) (λe=>⟨(),?_⟩)⟩⟩⟩
  ·have e:(i.b.a.qe r.queue).count=0:=by simpa using e
   rw[dq.iI,qn,fc e,hu];refine(ni ⟨rfl,?_,?_,trivial⟩)
   ·show ab zC (i.b.ej.take _++i.b.ej.drop _)=_;rw[jl,D9,Fx]
   ·show iE (i.b.spare++[r.queue])=_;simp[iE]
  ·have e:¬(i.b.a.qe r.queue).count=0:=by simpa using e
   rw[dq.iI,qn,eg e,hu];exact(ni (iJ trivial))
 ·have hu:i.b.jy 2 i.id={i.b with gl:=i.b.gl}:=by
   rw[dq.jy,eg];rintro⟨e,_⟩;exact absurd (show i.b.gl=au from e) (by rw[c1];decide)
  refine⟨⟨{i.b with gl:=i.b.gl,at_:=rH i.id i.b.at_},i.dm⟩,iw ⟨rfl,(tQ _ _).symm,rfl,qf,λ_ _=>⟨⟨oM,LU⟩,r.queue,ju hr (by simp[zC]) rfl,⟨i.b.a,r.queue⟩,rfl,rfl,trivial,λ_ _=>Cv.dp.mk (λe=>⟨by simp only[y8];omega,⟨i.b.ej.map zC,z8 2 (i.b.dz 2) i.dm,z8 2 (i.b.dz 2) i.dm+1⟩,rfl,(hw 0).symm,rfl,⟨LC _,by rw[gy];exact hn⟩,λ_ _=>⟨rfl,(),?_⟩⟩) (λe=>⟨(),?_⟩)⟩⟩⟩
  ·have e:(i.b.a.qe r.queue).count=0:=by simpa using e
   rw[dq.iI,qn,fc e,hu];refine(ni ⟨rfl,?_,?_,trivial⟩)
   ·show ab zC (i.b.ej.take _++i.b.ej.drop _)=_;rw[jl,D9,Fx]
   ·show iE (i.b.spare++[r.queue])=_;simp[iE]
  ·have e:¬(i.b.a.qe r.queue).count=0:=by simpa using e
   rw[dq.iI,qn,eg e,hu];exact(ni (iJ trivial))
def yTe:GN.ok Tryz.prog 235:=gu mixed (dw YZ (dw sW (dw yCn fg))) 0 (λ_=>[]) (λ_=>[]) [] Tryz.func235 y8u
def yVl:Ue.ok Tryz.prog 235:=λj=>match j with
 |⟨i,ar⟩=>yNm i
 |⟨i,au⟩=>yTe i
def yYv {a:dv} {k:Nat} {p t:Int} {m:Nat} (h:Wq (a.fb k) m k p t) (hl:k<a.du.length):a.nn k=((a.fb k).pk,au):=by
 have:a.iu k=au:=by
  simp only[dv.iu,lj,tq,om];exact⟨oM,oM,h.used⟩
 rw[dv.nn,fc this,om]
def z2z {b:dq} {Q:List (List Nat)} (c:b.Core Q (-1)) {id s:Int} {r:xV} {k:Nat} (h:Told b Q id s r k):b.a.nn k=((b.a.fb k).pk,au)/\(b.a.fb k).dr<=1000000/\1<=(b.a.fb k).dr:=by
 obtain⟨h1,⟨p,t,h2⟩,h3⟩:=c.wf.toyq.mem (c.get h.hs h.hr) h.hk;exact⟨yYv h2 (by rw[c.wf.len];exact h1),h2.q2,c.wf.pos _ _ (c.get h.hs h.hr) _ h.hk⟩
def y3k (i:CL) (h:GU.dp i):yRh i:=by
 obtain⟨Q,c,ht,hL⟩:i.b.fv i.L:=h;unfold yRh IC dx tJ zEy IC HO fa dx zFp QR dI;rcases c.told i.id with⟨hg,hn⟩|⟨s,r,k,hT⟩
 ·refine⟨wU _ _,ar,0,0,0,.inr ⟨?_,rfl,rfl⟩,Cv.dp.mk (λ_=> ?_) (λe=>absurd e Z8)⟩
  ·rw[Ns,hg];rfl
  ·rw[<- hL]at hn;rw[y6e hn,hn];exact⟨(),gg⟩
 ·refine⟨wU _ _,au,s,r.dm,k,.inl ⟨?_,rfl⟩,Cv.dp.mk (λe=>absurd e Z8) (λ_=>dup ⟨⟨i.b.a,k⟩,rfl,rfl,by dsimp only;rw[c.wf.len];decide,λ_ _=>⟨(),?_⟩⟩)⟩
  ·rw[Ns,hT.e];rfl
  ·have h1:=hT.get;have h2:=hT.has;rw[<- hL]at h1 h2;rw[h1,h2,(z2z c hT).1];exact⟨hT.ident,gg⟩
def z7b:GU.ok Tryz.prog 198:=gu mixed (dw yFc fg) 0 (λ_=>[]) (λ_=>[]) [0] Tryz.func198 y3k
def dq.Core.Eo {b:dq} {Q:List (List Nat)} (c:b.Core Q (-1)):b.a.Eo:=c.wf.toyq.ok
def xEz (i:CL) (h:KO.dp i):y1h i:=by
 have hR:i.b.fv i.L:=h;obtain⟨Q,c,ht,hL⟩:=id hR;unfold y1h Q8 fa Zo Q8 fa Y' Q2 Q8 QT fa uG VW QT tJ dI;rcases c.told i.id with⟨hg,hn⟩|⟨s,r,k,hT⟩
 ·refine⟨wU _ _,ar,0,0,0,.inr ⟨?_,rfl,rfl⟩,Cv.dp.mk (λ_=> ?_) (λe=>absurd e (by simp))⟩
  ·rw[Ns,hg];rfl
  ·rw[<- hL]at hn;rw[qM,fc hn];exact⟨i.b,oF (iJ hR)⟩
 have hg:=hT.get;have hh:=hT.has;rw[<- hL]at hg hh;obtain⟨JW,vl,uf⟩:=z2z c hT;have Ow:(bN i.L i.id).dr=(i.b.a.fb k).dr:=by rw[hg];rfl
 refine⟨wU _ _,au,s,r.dm,k,.inl ⟨?_,rfl⟩,Cv.dp.mk (λe=>absurd e (by simp)) (λ_=>⟨⟨i.b.a,k,i.dr⟩,rfl,rfl,rfl,c.Eo,λ_ _=> ?_⟩)⟩
 ·rw[Ns,hT.e];rfl
 dsimp only;have hu:i.b.a.iu k=au:=by
  cases hu:i.b.a.iu k with
  |true=>rfl
  |false=>rw[dv.nn,eg (by rw[hu];decide)]at JW;exact absurd (congrArg Prod.snd JW) (by simp)
 by_cases hb:i.dr<1\/(i.b.a.fb k).dr<i.dr
 ·have ht:i.b.a.gq k i.dr=(i.b.a,24):=by rw[dv.gq,eg (by rw[hu];decide),om,fc hb]
  rw[ht];refine Cv.dp.mk (λ_=> ?_) (λe=>absurd e (by simp));rw[qM,eg (by rw[hh];decide),fc (by rw[Ow];exact hb)];exact⟨i.b,oF (iJ hR)⟩
 have Bz:qM i.L i.id i.dr=(gS i.L i.id i.dr,0):=by rw[qM,eg (by rw[hh];decide),eg (by rw[Ow];exact hb)]
 by_cases hf:i.dr=(i.b.a.fb k).dr
 ·obtain⟨g1,g2,g3,g4,g5,g6⟩:=c.gone (by rw[<- hL];exact ht) hT (q:=i.dr) ⟨oM,hf⟩;rw[<- hL]at g2;have qf:=c.small;rw[g1];refine Cv.dp.mk (λe=>absurd e (by simp)) (λ_=>dup ⟨⟨(i.b.a.gq k i.dr).1,k⟩,rfl,rfl,by dsimp only;rw[g3];decide,λ_ _=> ?_⟩);dsimp only;rw[g5];refine Cv.dp.mk (λ_=> ?_) (λe=>absurd e (by simp));rcases hT.hs with rfl|rfl
  ·refine⟨⟨⟨{i.b with a:=(i.b.a.gq k i.dr).1},i.id,r.dm,k⟩,ar⟩,iw (mn ⟨rfl,⟨⟨⟨by dsimp only;rw[g3];decide,by dsimp only;rw[g4];exact qf.1.2⟩,qf.2⟩,g6⟩,λ_ _=> ?_⟩)⟩;refine⟨({i.b with a:=(i.b.a.gq k i.dr).1}:dq).iI 1 i.id r.dm,by rw[Bz],ni (iJ (by rw[Bz];exact g2))⟩
  ·refine⟨⟨⟨{i.b with a:=(i.b.a.gq k i.dr).1},i.id,r.dm,k⟩,au⟩,iw (mn ⟨rfl,⟨⟨⟨by dsimp only;rw[g3];decide,by dsimp only;rw[g4];exact qf.1.2⟩,qf.2⟩,g6⟩,λ_ _=> ?_⟩)⟩;refine⟨({i.b with a:=(i.b.a.gq k i.dr).1}:dq).iI 2 i.id r.dm,by rw[Bz],ni (iJ (by rw[Bz];exact g2))⟩
 ·obtain⟨g1,g2,g3,g4,g5⟩:=c.less (by rw[<- hL];exact ht) hT (q:=i.dr) oM;rw[<- hL]at g2;rw[g1];refine Cv.dp.mk (λe=>absurd e (by simp)) (λ_=>dup ⟨⟨(i.b.a.gq k i.dr).1,k⟩,rfl,rfl,by dsimp only;rw[g3];decide,λ_ _=> ?_⟩);dsimp only;rw[g4];refine Cv.dp.mk (λe=>absurd e (by simp)) (λ_=>Cv.dp.mk (λe=> ?_) (λ_=> ?_))
  ·have e:¬((i.b.a.gq k i.dr).1.fb k).pk.id=i.id:=by simpa using e
   exact absurd g5 e
  ·exact⟨{i.b with a:=(i.b.a.gq k i.dr).1},by rw[Bz],ni (iJ (by rw[Bz];exact g2))⟩
def yZn:KO.ok Tryz.prog 222:=gu mixed (dw yPl (dw yFc (dw yVl fg))) 0 (λ_=>[]) (λ_=>[]) [0] Tryz.func222 xEz
def Yn (A B:List zK) (s p:Int):vm (A++B) s p=vm A s p++vm B s p:=Df _ _
def Wu {A:List zK} {s p:Int} (h:∀o∈A,o.side=s->o.dm≠p):vm A s p=[]:=by
 rw[vm,JR];intro o ho;by_cases e:o.side=s
 ·simp[h o ho e]
 ·simp[e]
def yVd {A:List zK} {s p:Int} (h:∀o∈A,o.side=s/\o.dm=p):vm A s p=A:=by
 rw[vm,Ii];intro o ho;simp[h o ho]
def OY {s x y:Int} (h:je s x y=au):x≠y:=by
 rintro rfl;rw[NC]at h;cases h
def dq.Core.KV {b:dq} {Q:List (List Nat)} (c:b.Core Q (-1)) {s p:Int} (hs:s=1\/s=2) (h:jV s (b.dz s) p=ar):vm (b.flat Q) s p=[]:=by
 have tv:=zFl (p:=p) (c.xk s hs);rw[eg (by rw[h];decide)]at tv;refine Wu λo ho e=> ?_
 obtain⟨_,r,hr,_,hp⟩:=sO ho;rw[e]at hr;rw[hp];rw[<- Bb (z8 s (b.dz s) p) (b.dz s)]at hr;rcases oK.1 hr with hr|hr
 ·exact OY (tv.1 r hr)
 ·exact(OY (tv.2 r hr)).symm
def dq.Core.GZ {b:dq} {Q:List (List Nat)} (c:b.Core Q (-1)) {s p:Int} (hs:s=1\/s=2) (h:jV s (b.dz s) p=au):∃r,(b.dz s)[z8 s (b.dz s) p]? =aw r/\r.dm=p/\r∈b.dz s/\vm (b.flat Q) s p=b.ia Q s r:=by
 have tv:=zFl (p:=p) (c.xk s hs);rw[fc h]at tv;obtain⟨h1,r,hr,hp,h2⟩:=tv;have gn:=(jf.1 hr).1;refine⟨r,hr,hp,ku hr,?_⟩;have o5:b.dz s=(b.dz s).take (z8 s (b.dz s) p)++r::(b.dz s).drop (z8 s (b.dz s) p+1):=by
  conv=>lhs;rw[<- Bb (z8 s (b.dz s) p) (b.dz s)]
  rw[CD gn,(jf.1 hr).2]
 have oY:vm (b.im Q s) s p=b.ia Q s r:=by
  rw[dq.im,o5,yu,vi,Yn,Yn,Wu,yVd,Wu,oJ,xi]
  ·intro o ho _;obtain⟨r',ou,ho⟩:=A8.1 ho;rw[(qW ho).2];exact(OY (h2 r' ou)).symm
  ·intro o ho;rw[<- hp];exact qW ho
  ·intro o ho _;obtain⟨r',ou,ho⟩:=A8.1 ho;rw[(qW ho).2];exact OY (h1 r' ou)
 have GD:∀s',s'≠s->vm (b.im Q s') s p=[]:=λs' jr=>Wu λo ho e=>absurd ((nS ho).1.symm.trans e) jr
 rw[dq.flat,Yn];rcases hs with rfl|rfl
 ·rw[oY,GD 2 (by decide),oJ]
 ·rw[oY,GD 1 (by decide),xi]
def dq.Core.pz {b:dq} {Q:List (List Nat)} (c:b.Core Q (-1)) {s:Int} (hs:s=1\/s=2) {r:xV} (hr:r∈b.dz s):b.a.pz r.queue (xJ Q r):=by
 have hg:=c.get hs hr;have Ou:=c.uj _ (gX hs hr);refine⟨by have:=c.wf.toyq.short hg;omega,?_⟩;rw[fc ⟨Ou.1,by rw[c.wf.ql];exact Ou.2⟩,zY (c.wf.q _ _ hg)];exact zWx (c.wf.sg _ _ hg)
def xHc (i:II) (h:Tv.dp i):xAq i:=by
 obtain⟨Q,c,ht,hL⟩:i.b.fv i.L:=h;unfold xAq fa dx Qe Qf fY uW qS Q2 qC kU dI;refine⟨1,rfl,trivial,λ_ _=>Cv.dp.mk (λe=>absurd e Z8) λ_=>⟨⟨i.b,i.dm⟩,oF (iJ ⟨rfl,c.small,λ_ _=>Cv.dp.mk (λe=> ?_) (λe=> ?_)⟩)⟩⟩
 ·have e:jV 1 (i.b.dz 1) i.dm=ar:=by simpa using e
  have:=c.KV (.inl rfl) e;rw[<- hL]at this;refine⟨(),iw ⟨rfl,?_,trivial⟩⟩;show ab uA (vm i.L 1 i.dm)=[];rw[this];rfl
 ·have e:jV 1 (i.b.dz 1) i.dm=au:=by simpa using e
  obtain⟨r,hr,hp,hm,ha⟩:=c.GZ (.inl rfl) e;rw[<- hL]at ha;have gn:=(jf.1 hr).1;refine⟨⟨oM,by rw[gy];exact Int.ofNat_lt.2 gn⟩,r.dm,r.queue,ju hr (by simp[zC]) rfl,⟨i.b,1,r,xJ Q r⟩,iw (iJ ⟨rfl,c.pz (.inl rfl) hm,λ_ _=>⟨(),rfl,?_,trivial⟩⟩)⟩;show ab uA (vm i.L 1 i.dm)=_;rw[ha,Ff.ox,dq.ia,dv.fu];simp only[vy];rfl
def y7n:Tv.ok Tryz.prog 237:=gu mixed (dw Jr (dw YX (dw zXz fg))) 0 (λ_=>[]) (λ_=>[]) [0] Tryz.func237 xHc
def xGx (i:II) (h:Tu.dp i):xCz i:=by
 obtain⟨Q,c,ht,hL⟩:i.b.fv i.L:=h;unfold xCz fa dx Qe Qf fX uY qS Q2 qB kU dI;refine⟨2,rfl,trivial,λ_ _=>Cv.dp.mk (λe=>absurd e Z8) λ_=>⟨⟨i.b,i.dm⟩,oF (iJ ⟨rfl,c.small,λ_ _=>Cv.dp.mk (λe=> ?_) (λe=> ?_)⟩)⟩⟩
 ·have e:jV 2 (i.b.dz 2) i.dm=ar:=by simpa using e
  have:=c.KV (.inr rfl) e;rw[<- hL]at this;refine⟨(),iw ⟨rfl,?_,trivial⟩⟩;show ab uA (vm i.L 2 i.dm)=[];rw[this];rfl
 ·have e:jV 2 (i.b.dz 2) i.dm=au:=by simpa using e
  obtain⟨r,hr,hp,hm,ha⟩:=c.GZ (.inr rfl) e;rw[<- hL]at ha;have gn:=(jf.1 hr).1;refine⟨⟨oM,by rw[gy];exact Int.ofNat_lt.2 gn⟩,r.dm,r.queue,ju hr (by simp[zC]) rfl,⟨i.b,2,r,xJ Q r⟩,iw (iJ ⟨rfl,c.pz (.inr rfl) hm,λ_ _=>⟨(),rfl,?_,trivial⟩⟩)⟩;show ab uA (vm i.L 2 i.dm)=_;rw[ha,Ff.ox,dq.ia,dv.fu];simp only[vy];rfl
def y9j:Tu.ok Tryz.prog 237:=gu mixed (dw Jr (dw YZ (dw zXz fg))) 0 (λ_=>[]) (λ_=>[]) [0] Tryz.func237 xGx
def xAz:atC.ok Tryz.prog 237:=λj=>match j with
 |⟨b,L,ar,p⟩=>y7n ⟨b,L,ar,p⟩
 |⟨b,L,au,p⟩=>y9j ⟨b,L,au,p⟩
def Jx (p:Int) (l:List zK):Lv:=⟨p,(l.map (·.dr)).sum,l.length⟩
def Y5:∀{l:List zK} {v:Lv} {vs:List Lv},xx l=v::vs->∃o r,l=o::r/\o.dm=v.dm
 |[],v,vs,h=>by cases h
 |o::r,v,vs,h=>by
  refine⟨o,r,rfl,?_⟩;rw[xx]at h;split at h
  ·cases h;rfl
  ·split at h
   ·rename_i e;cases h;exact e.symm
   ·cases h;rfl
def yGy {p:Int}:∀{l:List zK} {m:List zK},l≠[]->(∀o∈l,o.dm=p)->(∀o r,m=o::r->o.dm≠p)->xx (l++m)=Jx p l::xx m
 |[],m,h,_,_=>absurd rfl h
 |[o],m,_,h,hm=>by
  have e:=h o iS;rw[List.singleton_append,xx];split
  ·rename_i g;simp[Jx,e,g]
  ·rename_i v vs g;obtain⟨o',r,e1,e2⟩:=Y5 g;have:=hm o' r e1;rw[eg (by omega)];simp[Jx,e,g]
 |o::o'::l,m,_,h,hm=>by
  have e:=h o iS;have ih:=yGy (l:=o'::l) (m:=m) (by simp) (λx hx=>h x (jc _ hx)) hm;rw[ui,xx,ih];dsimp only;rw[fc (show(Jx p (o'::l)).dm=o.dm from e.symm)];simp only[Jx,jj,rk,iC];rfl
def z3r {f:xV->List zK}:∀{R:List xV},(∀r∈R,f r≠[]/\∀o∈f r,o.dm=r.dm)->R.Pairwise (λr r'=>r.dm≠r'.dm)->xx (R.flatMap f)=R.map λr=>Jx r.dm (f r)
 |[],_,_=>rfl
 |r::R,h,hp=>by
  rw[yt]at hp;have ih:=z3r (R:=R) (λx hx=>h x (jc _ hx)) hp.2;rw[vi,yGy (h r iS).1 (h r iS).2,ih,jj];intro o l e;cases R with
  |nil=>cases e
  |cons r' R'=>
   rw[vi]at e;obtain⟨h1,h2⟩:=h r' (jc _ iS);cases hf:f r' with
   |nil=>exact absurd hf h1
   |cons x y=>
    rw[hf,ui]at e;cases e;rw[h2 o (by rw[hf];exact iS)];exact(hp.1 r' iS).symm
def zYt {b:dq} {Q:List (List Nat)} {s:Int} (hs:s=1\/s=2):(b.flat Q).filter (λo=>decide (o.side=s))=b.im Q s:=by
 have h1:∀s',(b.im Q s').filter (λo=>decide (o.side=s))=if s'=s then b.im Q s' else[]:=by
  intro s';split
  ·rename_i e;rw[Ii];intro o ho;rw[(nS ho).1,e];simp
  ·rename_i e;rw[JR];intro o ho;rw[(nS ho).1];simp[e]
 rw[dq.flat,Df,h1,h1];rcases hs with rfl|rfl
 ·simp
 ·simp
def dq.Core.neL {b:dq} {Q:List (List Nat)} (c:b.Core Q (-1)) {s:Int} (hs:s=1\/s=2) {r:xV} (hr:r∈b.dz s):xJ Q r≠[]:=c.ne s hs r hr λe=>by have:=c.uj _ (gX hs hr);omega
def dq.Core.TA {b:dq} {Q:List (List Nat)} (c:b.Core Q (-1)) {s:Int} (hs:s=1\/s=2) {r:xV} (hr:r∈b.dz s):b.told r=Jx r.dm (b.ia Q s r):=by
 have hg:=c.get hs hr;have Ou:=c.uj _ (gX hs hr);have hq:=c.wf.q _ _ hg;have Iv:=c.wf.ql;rw[dq.told,Wp Ou.1 hq,Jx,dq.ia,vy,gy];rfl
def dq.Core.lad {b:dq} {Q:List (List Nat)} (c:b.Core Q (-1)) {s:Int} (hs:s=1\/s=2):gY (b.flat Q) s=(b.dz s).map b.told:=by
 rw[gY,zYt hs,dq.im,z3r]
 ·exact uz λr hr=>(c.TA hs hr).symm
 ·intro r hr;refine⟨λe=>c.neL hs hr (List.map_eq_nil_iff.1 e),λo ho=>(qW ho).2⟩
 ·exact(c.xk s hs).imp λh=>OY h
def dq.Core.iA {b:dq} {Q:List (List Nat)} (c:b.Core Q (-1)) {s:Int} (hs:s=1\/s=2):b.ir (b.dz s)=Sx.iA (b.flat Q) s:=by
 rw[Sx.iA,c.lad hs];cases b.dz s<;>rfl
def dq.Core.E9 {b:dq} {Q:List (List Nat)} (c:b.Core Q (-1)):b.nt:=by
 intro q hq;obtain⟨n,hn⟩:=Bt.1 hq;have gn:=(jf.1 hn).1;rw[c.wf.ql]at gn;obtain⟨l,hl⟩:=z6 gn;have:=c.wf.q n l hl;rw[hn]at this;cases this;have:=c.wf.toyq.short hl;constructor<;>dsimp only<;>omega
def qA (L:List zK):jv:=(jw.FX (iA L 1)).AF (iA L 2)
def dq.fv.top {b:dq} {L:List zK} (h:b.fv L):b.top=qA L:=by
 obtain⟨Q,c,ht,rfl⟩:=h;rw[dq.top,qA,<- c.iA (.inl rfl),<- c.iA (.inr rfl)];rfl
def dq.fv.E9 {b:dq} {L:List zK} (h:b.fv L):b.nt:=by
 obtain⟨Q,c,ht,rfl⟩:=h;exact c.E9
structure K2 (o:zK):Prop where
 s:o.side=1\/o.side=2
 q:1<=o.dr/\o.dr<=1000000
def dq.fv.ox {b:dq} {L:List zK} (h:b.fv L):(∀o∈L,K2 o)/\(L.map (·.id)).Nodup/\L.length<=250:=by
 obtain⟨Q,c,ht,rfl⟩:=h;refine⟨λo ho=> ?_,c.ids,?_⟩
 ·obtain⟨hs,r,hr,ho,hp⟩:=sO ho;refine⟨hs,?_⟩;obtain⟨k,hk,e⟩:=oe.1 ho;obtain⟨_,⟨_,_,h2⟩,_⟩:=c.wf.toyq.mem (c.get hs hr) hk;have eq:o.dr=(b.a.fb k).dr:=by rw[<- e];rfl
  rw[eq];exact⟨c.wf.pos _ _ (c.get hs hr) _ hk,h2.q2⟩
 ·have qz:(((b.dz 1).flatMap (xJ Q)++(b.dz 2).flatMap (xJ Q))).Nodup:=by
   have hm:((b.flat Q).map (·.id))=((b.dz 1).flatMap (xJ Q)++(b.dz 2).flatMap (xJ Q)).map λk=>(b.a.fb k).id:=by
    rw[dq.flat,jl,jl,dq.im,dq.im,Jo,Jo,Jo,Jo];congr 1
    ·exact xK λr _=>by rw[dq.ia,vy];rfl
    ·exact xK λr _=>by rw[dq.ia,vy];rfl
   have:=c.ids;rw[hm]at this;exact List.Pairwise.of_map _ (λa b Ds e=>Ds (by rw[e])) this
  have hl:(b.flat Q).length=((b.dz 1).flatMap (xJ Q)++(b.dz 2).flatMap (xJ Q)).length:=by
   rw[dq.flat,iv,iv,dq.im,dq.im,N5,N5,N5,N5];congr 1
   ·congr 1;exact uz λr _=>by rw[dq.ia,gy]
   ·congr 1;exact uz λr _=>by rw[dq.ia,gy]
  rw[hl];refine YH 250 qz λk hk=> ?_
  rcases oK.1 hk with hk|hk
  ·obtain⟨r,hr,hk⟩:=A8.1 hk;exact(c.wf.toyq.mem (c.get (.inl rfl) hr) hk).1
  ·obtain⟨r,hr,hk⟩:=A8.1 hk;exact(c.wf.toyq.mem (c.get (.inr rfl) hr) hk).1
def dq.fv.fit {b:dq} {L:List zK} (h:b.fv L):b.fit:=by
 obtain⟨Q,c,ht,rfl⟩:=h;have hs:=c.small;have h1:=c.ql;have h2:=c.wf.ql;have RO:=c.qb;rw[dq.qs,iv,iv,gy,gy]at h1;refine⟨⟨hs.1.1,λhf=> ?_,λq hq=> ?_⟩,oM,oM,oM,oM⟩
 ·obtain⟨k,_,hk,Au,HH,_⟩:=c.wf.toyq.unused hf;exact⟨_,ku Au,HH⟩
 ·obtain⟨n,hn⟩:=Bt.1 hq;have gn:=(jf.1 hn).1;rw[c.wf.ql]at gn;obtain⟨l,hl⟩:=z6 gn;have:=c.wf.q n l hl;rw[hn]at this;cases this;dsimp only;rcases vN l with e|⟨y,j,e,e2⟩
  ·exact .inl ((sE l).2 e)
  ·rw[e2];have:=(c.wf.toyq.mem hl (k:=j) (by rw[e];simp)).1;rw[c.wf.len];exact .inr ⟨oM,oM⟩
def sc:Nat->List (List zK)->List (Int×Int)
 |_,[]=>[]
 |k,L::B=>L.map (λo=>(o.id,(k:Int)))++sc (k+1) B
def AU:∀{B:List (List zK)} {n:Nat} {x:Int×Int},x∈sc n B↔∃(k:Nat) (L:List zK),B[k]? =aw L/\x.1∈L.map (·.id)/\x.2=((n+k:Nat):Int)
 |[],n,x=>by simp[sc]
 |L::B,n,x=>by
  rw[sc,oK,AU (B:=B)];constructor
  ·rintro(h|⟨k,L',h1,h2,h3⟩)
   ·obtain⟨o,ho,rfl⟩:=oe.1 h;exact⟨0,L,rfl,rz (f:=(·.id)) ho,rfl⟩
   ·exact⟨k+1,L',h1,h2,by rw[h3];omega⟩
  ·rintro⟨k,L',h1,h2,h3⟩;cases k with
   |zero=>
    cases h1;obtain⟨o,ho,e⟩:=oe.1 h2;exact .inl (oe.2 ⟨o,ho,Prod.ext e h3.symm⟩)
   |succ k=>exact .inr ⟨k,L',h1,h2,by rw[h3];omega⟩
def Uw:∀{B:List (List zK)} (n k:Nat),k<B.length->∃rest,∀X:List zK,(sc n (B.set k X)).Perm (X.map (λo=>(o.id,((n+k:Nat):Int)))++rest)
 |[],n,k,h=>absurd h (by simp)
 |L::B,n,0,h=>⟨sc (n+1) B,λX=> .refl _⟩
 |L::B,n,k+1,h=>by
  obtain⟨rest,hr⟩:=Uw (B:=B) (n+1) k (by simpa using h);refine⟨L.map (λo=>(o.id,(n:Int)))++rest,λX=> ?_⟩;rw[Rg,sc];refine((hr X).append_left _).trans ?_;rw[<- iY,<- iY,show n+1+k=n+(k+1)by omega];exact Bu.append_right _
structure gv.fv (s:gv) (p:ff) (B:List (List zK)):Prop where
 ep:s.p=p
 bl:s.ei.length=B.length
 bk:∀(k:Nat) (b:dq) (L:List zK),s.ei[k]? =aw b->B[k]? =aw L->b.fv L
 wh:s.wh.Perm (sc 0 B)
 ids:((sc 0 B).map (·.1)).Nodup
def pH (B:List (List zK)) (id:Int):Option Nat:=B.findIdx? λL=>vK L id
def fK {B:List (List zK)} {id:Int} {k:Nat} (h:pH B id=aw k):∃L,B[k]? =aw L/\vK L id=au:=by
 rw[pH,LJ]at h;obtain⟨h1,h2,_⟩:=h;exact⟨_,u' h1,h2⟩
def yBo {B:List (List zK)} {id:Int} (h:pH B id=ax):∀L∈B,vK L id=ar:=by
 rw[pH,N9]at h;exact h
def z1t:∀{l:List (Int×Int)},(l.map (·.1)).Nodup->∀{k x:Int},(k,x)∈l->Cy l k=aw x
 |[],_,k,x,hx=>by cases hx
 |p::l,h,k,x,hx=>by
  rw[jj,yk]at h;rw[Cy,LA];rcases jq.1 hx with ex|hx
  ·subst ex;simp
  ·have:p.1≠k:=by rintro e;exact h.1 (e▸rz (f:=(·.1)) hx)
   rw[jt this];exact z1t h.2 hx
def yKy {l:List (Int×Int)} {k:Int} (h:k∉l.map (·.1)):Cy l k=ax:=by
 rw[Cy,Option.map_eq_none_iff,ag];intro x hx e;have e:x.1=k:=by simpa using e
 exact h (e▸rz (f:=(·.1)) hx)
def gv.fv.keys {s:gv} {p:ff} {B:List (List zK)} (h:s.fv p B):(s.wh.map (·.1)).Nodup:=(h.wh.map (·.1)).nodup_iff.2 h.ids
def gv.fv.at_ {s:gv} {p:ff} {B:List (List zK)} (h:s.fv p B) (id:Int):Cy s.wh id=(pH B id).map (λk:Nat=>(k:Int)):=by
 cases hi:pH B id with
 |none=>
  refine yKy λhm=> ?_
  rw[(h.wh.map (·.1)).mem_iff]at hm
  obtain⟨x,hx,rfl⟩:=oe.1 hm;obtain⟨k,L,h1,h2,_⟩:=AU.1 hx;have:=yBo hi L (ku h1);rw[kh.2 h2]at this;cases this
 |some k=>
  obtain⟨L,h1,h2⟩:=fK hi;refine z1t h.keys (h.wh.mem_iff.2 (AU.2 ⟨k,L,h1,kh.1 h2,by simp⟩))
def jG (B:List (List zK)) (id q:Int):List (List zK)×Int:=match pH B id with
 |none=>(B,26)
 |some k=>(B.set k (qM (B.getD k []) id q).1,(qM (B.getD k []) id q).2)
def YC {L:List zK} (h:(L.map (·.id)).Nodup) (id q:Int):((qM L id q).1.map (·.id)=L.map (·.id)/\vK (qM L id q).1 id=vK L id)\/((qM L id q).1=L.filter (λo=> !decide (o.id=id))/\vK (qM L id q).1 id=ar):=by
 rw[qM];by_cases h1:vK L id=ar
 ·rw[fc h1];exact .inl ⟨rfl,rfl⟩
 have h1:vK L id=au:=by simpa using h1
 rw[eg (by rw[h1];decide)];by_cases h2:q<1\/(bN L id).dr<q
 ·rw[fc h2];exact .inl ⟨rfl,rfl⟩
 rw[eg h2];dsimp only;by_cases h3:(bN L id).dr=q
 ·refine .inr ?_;have e:gS L id q=L.filter λo=> !decide (o.id=id):=by rw[<- h3];exact zWi h h1
  refine⟨e,?_⟩;rw[e,vK,N0];intro o ho;rw[wb]at ho;simpa using ho.2
 ·refine .inl ?_;have hm:(gS L id q).map (·.id)=L.map (·.id):=by
   have:gS L id q=L.map λo=>if o.id=id then{o with dr:=o.dr-q}else o:=by
    rw[gS,<- List.filterMap_eq_map];refine m3 λo ho=> ?_
    simp only[Function.comp];by_cases e:o.id=id
    ·have hg:=lX h ho;rw[e]at hg;rw[fc e,fc e,eg (λe2=>h3 (by rw[hg];exact e2))]
    ·rw[eg e,eg e]
   rw[this,vy];refine uz λo _=> ?_
   simp only[Function.comp];split<;>rfl
  refine⟨hm,?_⟩;rw[Dc,kh,kh,hm]
def yGn:∀{l:List (Int×Int)} {k:Int},(l.map (·.1)).Nodup->Lf k l=l.filter λx=> !decide (x.1=k)
 |[],k,_=>rfl
 |(a,b)::l,k,h=>by
  rw[jj,yk]at h;rw[Lf];by_cases e:k=a
  ·subst e;rw[fc rfl,Rn (by simp)];symm;rw[Ii];intro x hx;have:x.1≠k:=λe=>h.1 (e▸rz (f:=(·.1)) hx)
   simp[this]
  ·rw[eg e,Ro (by simp[Ne.symm e]),yGn h.2]
def z4r:∀{l:List (Int×Int)} {k x:Int},k∉l.map (·.1)->Ju k x l=l++[(k,x)]
 |[],k,x,_=>rfl
 |p::l,k,x,h=>by
  rw[jj,jq,not_or]at h;rw[Ju,eg h.1,z4r h.2];rfl
def gJ {α:Type} {l:List α} {k:Nat} {x:α} (h:l[k]? =aw x):l.set k x=l:=by
 apply Dd;intro i;rw[Ca];split
 ·rename_i e;subst e;rw[fc (jf.1 h).1,h]
 ·rfl
def gv.fv.set {s:gv} {p:ff} {B:List (List zK)} (h:s.fv p B) {k:Nat} {L':List zK} {b':dq} (hb:b'.fv L') (hk:k<B.length) {wh':List (Int×Int)} (hw:wh'.Perm (sc 0 (B.set k L'))) (hi:((sc 0 (B.set k L')).map (·.1)).Nodup):({s with ei:=s.ei.set k b',wh:=wh'}:gv).fv p (B.set k L'):=by
 refine⟨h.ep,by simpa using h.bl,λj b L h1 h2=> ?_,hw,hi⟩;by_cases e:k=j
 ·subst e;have h1:(s.ei.set k b')[k]? =aw b:=h1;rw[dZ (by rw[h.bl];exact hk)]at h1;rw[dZ hk]at h2;cases h1;cases h2;exact hb
 ·have h1:(s.ei.set k b')[j]? =aw b:=h1;rw[uV e]at h1 h2;exact h.bk j b L h1 h2
def gv.fv.take {s:gv} {p:ff} {B:List (List zK)} (h:s.fv p B) {id q:Int} {k:Nat} (hi:pH B id=aw k) {L:List zK} (hL:B[k]? =aw L) (hn:(L.map (·.id)).Nodup) {b':dq} (hb:b'.fv (qM L id q).1):
 ({s with ei:=s.ei.set k b',wh:=if vK (qM L id q).1 id=au then s.wh else Lf id s.wh}:gv).fv p (jG B id q).1:=by
 have hk:=(jf.1 hL).1;have ht:(jG B id q).1=B.set k (qM L id q).1:=by simp only[jG,hi,zY hL]
 obtain⟨L2,e1,hh⟩:=fK hi;rw[hL]at e1;cases e1;obtain⟨rest,hr⟩:=Uw (B:=B) 0 k hk;have L4:=hr L;rw[gJ hL]at L4;rw[ht];rcases YC hn id q with⟨e1,e2⟩|⟨e1,e2⟩
 ·have hm:∀X Y:List zK,X.map (·.id)=Y.map (·.id)->X.map (λo=>(o.id,((0+k:Nat):Int)))=Y.map (λo=>(o.id,((0+k:Nat):Int))):=by
   intro X Y e;have:=congrArg (ab λi:Int=>(i,((0+k:Nat):Int))) e;rw[vy,vy]at this;exact this
  have hp:(sc 0 (B.set k (qM L id q).1)).Perm (sc 0 B):=by
   refine(hr _).trans ?_;rw[hm _ _ e1];exact L4.symm
  rw[e2,hh,fc rfl];exact h.set hb hk (h.wh.trans hp.symm) ((hp.map (·.1)).nodup_iff.2 h.ids)
 ·rw[e2,eg (by decide)];have BS:∀x∈rest,x.1≠id:=by
   intro x hx e;have qz:=(L4.map (·.1)).nodup_iff.1 h.ids
   rw[jl,vy]at qz;have h1:id∈L.map ((·.1)∘λo:zK=>(o.id,((0+k:Nat):Int))):=kh.1 hh
   exact(Ap.1 qz).2.2 id h1 x.1 (rz (f:=(·.1)) hx) e.symm
  have hp:(sc 0 (B.set k (qM L id q).1)).Perm ((sc 0 B).filter λx=> !decide (x.1=id)):=by
   refine(hr _).trans (.trans ?_ (L4.filter _).symm);rw[e1,Df,ae];have:rest.filter (λx=> !decide (x.1=id))=rest:=by
    rw[Ii];intro x hx;simp[BS x hx]
   rw[this];exact .refl _
  refine h.set hb hk ?_ ((hp.map (·.1)).nodup_iff.2 (h.ids.sublist (List.Sublist.map _ Rj)))
  rw[yGn h.keys];exact(h.wh.filter _).trans hp.symm
def Ld (p:ff) (B:List (List zK)) (inst id:Int) (s dm q:Int):List (List zK)×Int:=
 if inst<0\/B.length<=inst then(B,20)else if(pH B id).isSome=au then(B,25)else if 250<=(sc 0 B).length then(B,13)else if p.dm inst dm≠0 then(B,p.dm inst dm)
 else(B.set inst.toNat (ED (B.getD inst.toNat []) s id dm q).1,(ED (B.getD inst.toNat []) s id dm q).2)
def yPu (L:List zK) (s id p q:Int):((HU L s id p q).map (·.id)).Perm (id::L.map (·.id)):=by
 have:∀X:List zK,((X.takeWhile (before s p)++⟨id,s,p,q,fS L s p⟩::X.dropWhile (before s p)).map (·.id)).Perm (id::X.map (·.id)):=by
  intro X
  conv=>rhs;rw[<- xPd (p:=before s p) (l:=X)]
  rw[jl,jj,jl];exact mh
 rw[HU];split
 ·refine(this _).trans ?_;rw[yDr]
 ·exact this _
def gv.fv.add {s:gv} {p:ff} {B:List (List zK)} (h:s.fv p B) (inst id:Int) (sd:Bool) (dm q:Int):
 (gv.iz ⟨s,inst,id,sd,dm,q⟩).1.fv p (Ld p B inst id (zE sd) dm q).1/\(gv.iz ⟨s,inst,id,sd,dm,q⟩).2=(Ld p B inst id (zE sd) dm q).2:=by
 have EU:zE sd=1\/zE sd=2:=by cases sd;exact .inl rfl;exact .inr rfl
 rw[gv.iz,Ld];dsimp only;rw[h.bl,h.at_,h.wh.length_eq,show s.p.dm inst dm=p.dm inst dm by rw[h.ep],Option.isSome_map];by_cases c1:inst<0\/(B.length:Int)<=inst
 ·rw[fc c1,fc c1];exact⟨h,rfl⟩
 rw[eg c1,eg c1];by_cases c2:(pH B id).isSome=au
 ·rw[fc c2,fc c2];exact⟨h,rfl⟩
 rw[eg c2,eg c2];by_cases c3:250<=(sc 0 B).length
 ·rw[fc c3,fc c3];exact⟨h,rfl⟩
 rw[eg c3,eg c3];by_cases c4:p.dm inst dm≠0
 ·rw[fc c4,fc c4];exact⟨h,rfl⟩
 rw[eg c4,eg c4];obtain⟨k,hk⟩:∃k:Nat,inst=k:=⟨inst.toNat,oM⟩
 subst hk;rw[om];have o6:k<B.length:=by omega
 obtain⟨b,hb⟩:=z6 (l:=s.ei) (i:=k) (by rw[h.bl];exact o6);obtain⟨L,hL⟩:=z6 (l:=B) (i:=k) o6;have hba:s.AQ k=b:=by rw[gv.AQ,om];exact zY hb
 rw[hba,zY hL];obtain⟨r1,r2⟩:=(h.bk k b L hb hL).add EU id dm q;refine⟨?_,r2⟩;rw[r2];obtain⟨rest,hr⟩:=Uw (B:=B) 0 k o6;have L4:=hr L;rw[gJ hL]at L4;have T8:(ED L (zE sd) id dm q).2≠0/\(ED L (zE sd) id dm q).1=L\/(ED L (zE sd) id dm q).2=0/\(ED L (zE sd) id dm q).1=HU L (zE sd) id dm q:=by
  rw[ED]
  repeat' split
  ·exact .inl ⟨by simp,rfl⟩
  ·exact .inl ⟨by simp,rfl⟩
  ·exact .inl ⟨by simp,rfl⟩
  ·exact .inr ⟨rfl,rfl⟩
 rcases T8 with⟨e1,e2⟩|⟨e1,e2⟩
 ·rw[eg e1];refine h.set r1 o6 ?_ ?_
  ·rw[e2,gJ hL];exact h.wh
  ·rw[e2,gJ hL];exact h.ids
 ·rw[fc e1];have Iw:id∉s.wh.map (·.1):=by
   intro hm;obtain⟨x,hx,rfl⟩:=oe.1 hm;have:=z1t h.keys hx;rw[h.at_]at this;cases hq:pH B x.1 with
   |none=>rw[hq]at this;cases this
   |some j=>rw[hq]at c2;exact c2 rfl
  have hp:(sc 0 (B.set k (ED L (zE sd) id dm q).1)).Perm ((id,(k:Int))::sc 0 B):=by
   refine(hr _).trans (.trans ?_ (L4.symm.cons _));rw[e2,<- ui];refine List.Perm.append_right _ ?_;have:=(yPu L (zE sd) id dm q).map λi:Int=>(i,(k:Int))
   rw[vy,jj,vy]at this;rw[nh];exact this
  refine h.set r1 o6 ?_ ((hp.map (·.1)).nodup_iff.2 (yk.2 ⟨?_,h.ids⟩))
  ·rw[z4r Iw];exact(Rs _ _).trans ((h.wh.cons _).trans hp.symm)
  ·rw[<- (h.wh.map (·.1)).mem_iff];exact Iw
def z1u:∀(n k:Nat),sc k (ac n [])=[]
 |0,_=>rfl
 |n+1,k=>by rw[LI,sc,z1u];rfl
def yBr (p:ff):(nU p).fv p (ac p.count []):=by
 refine⟨rfl,by simp[nU],λk b L h1 h2=> ?_,?_,?_⟩
 ·have e1:b=nu:=Rp (ku (show(ac p.count nu)[k]? =aw b from h1));have e2:L=[]:=Rp (ku h2);rw[e1,e2];exact yIa
 ·rw[z1u];exact .refl _
 ·rw[z1u];exact NV
def y1t (s:Bool):fy:=fi IH (λi=>[.nm 0 0,zB (zE s)]) (λi=>[yE i.b]) (λi=>i.b.fv i.L) (λ_=> .own 1) (λi=>[yE i.b,.own 177 3 ((gY i.L (zE s)).map ic)])
def Ky:fy:=y1t ar
def Kx:fy:=y1t au
def xCb (s:Bool) (i:IH):List gm:=[{ι:=Nat,du:=λj=>[(5,.own 0),(19,zB j)],rows:=λj=>[.own 177 3 (((gY i.L (zE s)).take j).map ic)]}]
structure BkT where
 b:dq
 L:List zK
 s:Bool
def aan:fy:=fi BkT (λi=>[.nm 0 0,zB (zE i.s)]) (λi=>[yE i.b]) (λi=>i.b.fv i.L) (λ_=> .own 1) (λi=>[yE i.b,.own 177 3 ((gY i.L (zE i.s)).map ic)])
@[reducible] def yPw (s:gv):List fj:=[x6 s 0,x6 s 1,x6 s 2,x6 s 3,x6 s 4]
def Gh:fy:=fi gv (λ_=>[.nm 0 0]) (λs=>yPw s) gv.nt (λs=> .own 5) (λs=>yPw s++[.own 122 6 (s.fh.map yB)])
structure Bh where
 s:gv
 p:ff
 B:List (List zK)
 id:Int
 q:Int
def Gl:fy where
 ι:=Bh
 pat:=λi=>[.nm 0 0,zB i.id,zB i.q]
 pre:=λi=>[zF i.s]
 dp:=λi=>i.s.fv i.p i.B/\i.B.length<=1000
 alts:=λi=>[{o:=gv,res:=λ_=>zB (jG i.B i.id i.q).2,post:=λs=>[zF s],rel:=λs=>s.fv i.p (jG i.B i.id i.q).1}]
def yA (B:List (List zK)) (id:Int):Int×zK×Bool:=match pH B id with
 |none=>(0,xAf,ar)
 |some k=>(k,bN (B.getD k []) id,au)
def Gm:fy:=fi Bh (λi=>[.nm 0 0,zB i.id]) (λi=>[zF i.s]) (λi=>i.s.fv i.p i.B/\i.B.length<=1000) (λi=> .iZ [zB (yA i.B i.id).1,NI (yA i.B i.id).2.1,yL (yA i.B i.id).2.2]) (λi=>[zF i.s])
def U' (a:Nat->Prop) (b:Nat) (c:Nat->Nat) (d:Nat) (e:IH) (f:uq):Prop:=a b/\c b<c d/\dl (ap [V.nm 1 0,V.own 2,V.own 3,V.mp 4,V.d (dI e.b.iH),V.d (dI e.b.iG),V.own 5,V.d (D.v (.bool e.b.gp)),V.d (D.v (.bool e.b.gl))] (273:TypeId))/\ak dv 3 zI f.a=ak dv 3 zI e.b.a/\QQ e.b (dl (aq 3 1 (iE e.b.spare)))
def mS (a:Nat) (b:IH):=(af a (gY b.L (zE ar)))
def y1e (i:IH):Prop:=
 ∃(a:Int),a=zE ar/\True/\fa (dp (kU a) (dx (Qf i.b (ab ic (gY i.L (zE ar))=[]/\True))) (∃(c:Nat),(↑c:Int)=0/\ab ic (mS c i)=[]/\∃(d:Nat->Prop),∃(e:Nat->Nat),d c/\∀(f:Nat),d f->dp (decide ((↑f:Int)<(↑(ab zC i.b.fm).length:Int))) ((0<=(↑f:Int)/\(↑f:Int)<(↑(ab zC i.b.fm).length:Int))/\∃(g:Int),∃(h:Int),zD (ab zC i.b.fm) (↑f:Int).toNat 0 2=aw [dI g,dI h]/\∃(j:uq),HO j h i.b (True/\fa (h=h/\True/\g=g/\∃(l:uq),l.n=h/\ak dv 3 zI l.a=ak dv 3 zI j.a/\True/\fa (g=g/\((ab ic (mS f i)).length+1)*(24:Nat)<=(140737488355328:Nat)/\∃(n:Nat),(↑n:Int)=av.wrap ((↑f:Int)+1)/\ab ic (mS n i)=ab ic (mS f i)++[[dI g,dI ((j.a.qe j.n).total),dI ((l.a.qe l.n).count)]]/\U' d n e f i l)))) (dx (Qf i.b (ab ic (gY i.L (zE ar))=ab ic (mS f i)/\True)))))
def mP (a:Nat) (b:IH):=(af a (gY b.L (zE au)))
def y1x (i:IH):Prop:=
 ∃(a:Int),a=zE au/\True/\fa (dp (kU a) (dx (Qf i.b (ab ic (gY i.L (zE au))=[]/\True))) (∃(c:Nat),(↑c:Int)=0/\ab ic (mP c i)=[]/\∃(d:Nat->Prop),∃(e:Nat->Nat),d c/\∀(f:Nat),d f->dp (decide ((↑f:Int)<(↑(ab zC i.b.ej).length:Int))) ((0<=(↑f:Int)/\(↑f:Int)<(↑(ab zC i.b.ej).length:Int))/\∃(g:Int),∃(h:Int),zD (ab zC i.b.ej) (↑f:Int).toNat 0 2=aw [dI g,dI h]/\∃(j:uq),HO j h i.b (True/\fa (h=h/\True/\g=g/\∃(l:uq),l.n=h/\ak dv 3 zI l.a=ak dv 3 zI j.a/\True/\fa (g=g/\((ab ic (mP f i)).length+1)*(24:Nat)<=(140737488355328:Nat)/\∃(n:Nat),(↑n:Int)=av.wrap ((↑f:Int)+1)/\ab ic (mP n i)=ab ic (mP f i)++[[dI g,dI ((j.a.qe j.n).total),dI ((l.a.qe l.n).count)]]/\U' d n e f i l)))) (dx (Qf i.b (ab ic (gY i.L (zE au))=ab ic (mP f i)/\True)))))
def tN (a:Nat×jv->Prop) (b:Nat×jv) (c:gv) (d:Nat) (e:dq):Prop:=a b/\dl (aq 3 1 [[dI 1],[dI 2]])/\dl (x6 c 0)/\ao 211 dq 6 zS (c.ei.set (↑d:Int).toNat e) ax=x6 c 1/\dl (x6 c 2)/\dl (x6 c 3)/\dl (x6 c 4)
def zGl (a:gv) (b:Nat×jv) (c:Nat×jv->Prop) (d:Nat) (e:dq):Prop:=∃(f:Nat×jv),ab yB (qD a f.fst f.snd)=ab yB (qD a b.fst b.snd)/\tN c f a d e
def yRk (s:gv):Prop:=
 (V5 s)/\∃(a:Nat),(↑a:Int)=0/\ab yB (qI s a)=ac (↑s.ei.length:Int).toNat [D.v (.bool ar),D.v (.bool ar),dI 0,dI 0,dI 0,dI 0]/\∃(b:Nat->Prop),∃(c:Nat->Nat),b a/\∀(d:Nat),b d->dp (decide ((↑d:Int)<(↑s.ei.length:Int))) ((0<=(↑d:Int)/\(↑d:Int)<(↑s.ei.length:Int))/\(↑d:Int).toNat<s.ei.length/\∃(e:Nat×jv),ab yB (qD s e.fst e.snd)=ab yB (qI s d)/\∃(f:Nat×jv->Prop),(((0:Int)<=(0:Int)/\0<(↑(2:Nat):Int))/\∃(g:Int),zD [[dI 1],[dI 2]] (Int.toNat 0) 0 1=aw [dI g]/\∃(h:dq),s.ei[(↑d:Int).toNat]?=aw h/\∃(j:Aa),zE j.side=g/\yE j.b=yE h/\(uD j)/\fa (∃(l:dq),ON j l d s (dp (z7 j).snd (Yd d s e j (∃(m:Nat×jv),ab yB (qD s m.fst m.snd)=zJ (cT s e d j) (↑d:Int).toNat 4 [dI (gF j)]/\tN f m s d l)) (zGl s e f d l))))/\∀(g:Nat×jv),f g->∃(h:Nat×jv),ab yB (qD s h.fst h.snd)=ab yB (qD s g.fst g.snd)/\∃(j:Nat×jv->Prop),((hU)/\∃(k:Int),zD [[dI 1],[dI 2]] (av.wrap ((0:Int)+(1:Int))).toNat 0 1=aw [dI k]/\∃(l:dq),s.ei[(↑d:Int).toNat]?=aw l/\∃(m:Aa),zE m.side=k/\yE m.b=yE l/\(uD m)/\fa (∃(p:dq),ON m p d s (dp (z7 m).snd (Yc d s h m (∃(q:Nat×jv),ab yB (qD s q.fst q.snd)=zJ (bF s h d m) (↑d:Int).toNat 5 [dI (gF m)]/\tN j q s d p)) (zGl s h j d p))))/\∀(k:Nat×jv),j k->∃(l:Nat),(↑l:Int)=av.wrap ((↑d:Int)+1)/\ab yB (qI s l)=ab yB (qD s k.fst k.snd)/\b l/\c l<c d/\dl (x6 s 0)/\dl (x6 s 1)/\dl (x6 s 2)/\dl (x6 s 3)/\dl (x6 s 4)) (dx (Qc s.p (ao 211 dq 6 zS s.ei ax=x6 s 1/\dl (yY s.wh)/\am 1 (iE s.p.dt)=x6 s 3/\am 1 (iE s.p.settle)=x6 s 4/\ab yB s.fh=ab yB (qI s d)/\True)))
@[reducible] def BD (a b:ff)(R:Prop):Prop:=am 1 (iE a.dt)=am 1 (iE b.dt)/\am 1 (iE a.settle)=am 1 (iE b.settle)/\R
def zHg (a:gv) (b:Bh):Prop:=BD a.p b.s.p (a.fv b.p (jG b.B b.id b.q).fst)
def zGq (a:gv) (b:Bh):Prop:=yY a.wh=yY b.s.wh/\zHg a b
def eE (a:Bh) (b:Int) (c:Bool):Prop:=jH (ay av a.id) (yY a.s.wh)=aw [dI b]/\c=au\/jH (ay av a.id) (yY a.s.wh)=ax/\[dI b]=[dI 0]/\c=ar
def nM (a:Bh):Prop:=∀(b:Value×List D),b∈yY a.s.wh->lr (ay av a.id) b.fst=au
@[reducible] def Qa (a b:ff)(R:Prop):Prop:=sb a.code=sb b.code/\a.tick=b.tick/\a.low=b.low/\a.high=b.high/\a.wide=b.wide/\a.gi=b.gi/\a.top=b.top/\a.least=b.least/\a.part=b.part/\R
def yTx (i:Bh):Prop:=
 (nM i)/\∃(a:Bool),∃(b:Int),(eE i b a)/\dp (!a) (∃(c:gv),(jG i.B i.id i.q).snd=26/\Qa c.p i.s.p (ao 211 dq 6 zS c.ei ax=ao 211 dq 6 zS i.s.ei ax/\zGq c i)) ((0<=b/\b<(↑i.s.ei.length:Int))/\b.toNat<i.s.ei.length/\∃(c:dq),i.s.ei[b.toNat]?=aw c/\∃(d:CL),d.id=i.id/\d.dr=i.q/\yE d.b=yE c/\d.b.fv d.L/\∀(e:dq),e.fv (qM d.L d.id d.dr).fst->∃(f:dq),yE e=yE f/\Fa b i.s.ei ((0<=b/\b<(↑(i.s.ei.set b.toNat f).length:Int))/\b.toNat<(i.s.ei.set b.toNat f).length/\∃(g:dq),(i.s.ei.set b.toNat f)[b.toNat]?=aw g/\∃(h:CL),h.id=i.id/\yE h.b=yE g/\h.b.fv h.L/\fa (∃(k:dq),yE h.b=yE k/\dl b.toNat/\b.toNat<(i.s.ei.set b.toNat f).length/\dp (!vK h.L h.id) ((nM i)/\∃(l:gv),(jG i.B i.id i.q).snd=(qM d.L d.id d.dr).snd/\Qa l.p i.s.p (ao 211 dq 6 zS l.ei ax=ao 211 dq 6 zS ((i.s.ei.set b.toNat f).set b.toNat k) ax/\yY l.wh=CA (ay av i.id) (yY i.s.wh)/\zHg l i)) (∃(l:gv),(jG i.B i.id i.q).snd=(qM d.L d.id d.dr).snd/\Qa l.p i.s.p (ao 211 dq 6 zS l.ei ax=ao 211 dq 6 zS ((i.s.ei.set b.toNat f).set b.toNat k) ax/\zGq l i)))))
def xCx (i:IH) (h:Ky.dp i):y1e i:=by
 obtain⟨Q,c,ht,hL⟩:i.b.fv i.L:=h;have qf:=c.small;obtain⟨⟨ha1,ha2⟩,qc,my,tv⟩:=id qf;have AL:=c.lad (.inl rfl);rw[<- hL]at AL;have AL:gY i.L (zE ar)=i.b.fm.map i.b.told:=AL;unfold y1e HO fa dx Qf U' QQ mS kU dI;simp only[AL,gy];refine⟨1,rfl,trivial,λ_ _=>Cv.dp.mk (λe=>absurd e Z8) λ_=>⟨0,by(first|exact rfl|exact trivial),by(first|exact rfl|exact trivial),λj=>j<=i.b.fm.length,λj=>i.b.fm.length-j,mi _,λj hj=>zH (λe=> ?_) (λe=> ?_)⟩⟩
 ·obtain⟨r,hr⟩:=z6 (l:=i.b.fm) (i:=j) oM;have hi:=c.E9;refine⟨⟨oM,oM⟩,r.dm,r.queue,ju hr (by simp[zC]) rfl,⟨i.b.a,r.queue⟩,by(first|exact rfl|exact trivial),by(first|exact rfl|exact trivial),trivial,λ_ _=>⟨by(first|exact rfl|exact trivial),by(first|exact rfl|exact trivial),by(first|exact rfl|exact trivial),⟨i.b.a,r.queue⟩,by(first|exact rfl|exact trivial),by(first|exact rfl|exact trivial),by(first|exact rfl|exact trivial),λ_ _=>⟨by(first|exact rfl|exact trivial),by simp only[ng,gy];omega,j+1,qy oM,?_,oM,Z9,gg⟩⟩⟩;have RL:(i.b.fm.map i.b.told)[j]? =aw (i.b.told r):=by rw[rf,hr];rfl
  rw[qx,RL];simp[ic,dq.told]
 ·rw[mo (by rw[gy];omega)];exact⟨(),gg⟩
def yWh:Ky.ok Tryz.prog 148:=gu mixed (dw Jr (dw Z4 (dw sW fg))) 1 (λ_=>[]) (λi=>xCb ar i) [0] Tryz.func148 xCx
def xBt (i:IH) (h:Kx.dp i):y1x i:=by
 obtain⟨Q,c,ht,hL⟩:i.b.fv i.L:=h;have qf:=c.small;obtain⟨⟨ha1,ha2⟩,qc,my,tv⟩:=id qf;have AL:=c.lad (.inr rfl);rw[<- hL]at AL;have AL:gY i.L (zE au)=i.b.ej.map i.b.told:=AL;unfold y1x HO fa dx Qf mP U' QQ kU dI;simp only[AL,gy];refine⟨2,rfl,trivial,λ_ _=>Cv.dp.mk (λe=>absurd e Z8) λ_=>⟨0,by(first|exact rfl|exact trivial),by(first|exact rfl|exact trivial),λj=>j<=i.b.ej.length,λj=>i.b.ej.length-j,mi _,λj hj=>zH (λe=> ?_) (λe=> ?_)⟩⟩
 ·obtain⟨r,hr⟩:=z6 (l:=i.b.ej) (i:=j) oM;have hi:=c.E9;refine⟨⟨oM,oM⟩,r.dm,r.queue,ju hr (by simp[zC]) rfl,⟨i.b.a,r.queue⟩,by(first|exact rfl|exact trivial),by(first|exact rfl|exact trivial),trivial,λ_ _=>⟨by(first|exact rfl|exact trivial),by(first|exact rfl|exact trivial),by(first|exact rfl|exact trivial),⟨i.b.a,r.queue⟩,by(first|exact rfl|exact trivial),by(first|exact rfl|exact trivial),by(first|exact rfl|exact trivial),λ_ _=>⟨by(first|exact rfl|exact trivial),by simp only[ng,gy];omega,j+1,qy oM,?_,oM,Z9,gg⟩⟩⟩;have RL:(i.b.ej.map i.b.told)[j]? =aw (i.b.told r):=by rw[rf,hr];rfl
  rw[qx,RL];simp[ic,dq.told]
 ·rw[mo (by rw[gy];omega)];exact⟨(),gg⟩
def yYk:Kx.ok Tryz.prog 148:=gu mixed (dw Jr (dw Z4 (dw sW fg))) 1 (λ_=>[]) (λi=>xCb au i) [0] Tryz.func148 xBt
def y9x:aan.ok Tryz.prog 148:=λj=>match j with
 |⟨b,L,ar⟩=>yWh ⟨b,L⟩
 |⟨b,L,au⟩=>yYk ⟨b,L⟩
def y7w (s:gv) (h:Gh.dp s):yRk s:=by
 obtain⟨h1,h2⟩:s.nt:=h;unfold yRk Yd Yc ON Qc fa dx gF kL uD hU mN mR V5 zDl cT mL zCy bF c8 z7 mH gE zGl tN dI;have p48:(2:Int) ^ (48:Nat)=281474976710656:=by decide
 refine⟨⟨oM,oM,oM,by rw[p48];omega⟩,0,rfl,?_,λj=>j<=s.ei.length,λj=>s.ei.length-j,oM,λj hj=>zH (λgn=> ?_) (λgn=> ?_)⟩
 ·rw[qI,jl,Rf];rfl
 ·have ov:j<s.ei.length:=by omega
  obtain⟨b,hb⟩:=z6 ov;have hc:=h2 b (ku hb);simp only[om];have ha:∀x,(ab yB (qD s j x)).length=s.ei.length:=λx=>by rw[gy,zRl ov]
  have w1:av.wrap (0+1)=1:=by decide
  have w2:(0+1) % ((2:Int) ^ av.bits).natAbs=1:=by decide
  refine⟨⟨oM,oM⟩,oM,(j,jw),by rw[zOn ov],λx=>x=(j,jw.FX (b.ir b.fm)),⟨⟨Z8,Z8⟩,1,rfl,b,hb,⟨ar,b⟩,rfl,rfl,hc,λ_ _=>⟨b,rfl,kp,oM,?_⟩⟩,?_⟩
  ·refine Cv.dp.mk (λc=> ?_) (λc=> ?_)
   ·have c:(b.ir b.fm).2=au:=c;have e1:=kV (s:=s) ov (x:=jw) (y:={jw with gp:=au}) (f:=0+0+0*1) (ds:=[D.v (.bool au)]) rfl;have e2:=kV (s:=s) ov (x:={jw with gp:=au}) (y:={jw with gp:=au,p1:=(b.ir b.fm).1.dm}) (f:=0+2+0*1) (ds:=[D.v (.int .i64 (b.ir b.fm).1.dm)]) rfl;have e3:=kV (s:=s) ov (x:={jw with gp:=au,p1:=(b.ir b.fm).1.dm}) (y:={jw with gp:=au,p1:=(b.ir b.fm).1.dm,q1:=(b.ir b.fm).1.dr}) (f:=0+4+0*1) (ds:=[D.v (.int .i64 (b.ir b.fm).1.dr)]) rfl;dsimp only;simp only[show b.side ar=b.fm from rfl,e1,e2,e3,ha]
    (repeat'(first|exact rfl|exact trivial|assumption|apply ba|refineλ(_:Unit) (_:True)=>?_|refine az () ?_|omega|(dsimp only;omega)))
    refine⟨(j,{jw with gp:=au,p1:=(b.ir b.fm).1.dm,q1:=(b.ir b.fm).1.dr}),rfl,?_,?_⟩
    ·rw[jv.FX,fc c]
    ·(repeat'(first|exact rfl|exact trivial|assumption|apply ba|refineλ(_:Unit) (_:True)=>?_|refine az () ?_|omega|(dsimp only;omega)))
     rw[cG hb];rfl
   ·have c:(b.ir b.fm).2=ar:=c;refine⟨(j,jw),rfl,?_,?_⟩
    ·rw[jv.FX,eg (by rw[c];simp)]
    ·(repeat'(first|exact rfl|exact trivial|assumption|apply ba|refineλ(_:Unit) (_:True)=>?_|refine az () ?_|omega|(dsimp only;omega)))
     rw[cG hb];rfl
  ·rintro _ rfl;rw[w1];generalize hx:jw.FX (b.ir b.fm)=x;have RE:b.top=x.AF (b.ir b.ej):=by rw[dq.top,hx]
   refine⟨(j,x),rfl,λy=>y=(j,b.top),⟨⟨Z8,Z8⟩,2,rfl,b,hb,⟨au,b⟩,rfl,rfl,hc,λ_ _=>⟨b,rfl,kp,oM,?_⟩⟩,?_⟩
   ·refine Cv.dp.mk (λc=> ?_) (λc=> ?_)
    ·have c:(b.ir b.ej).2=au:=c;have e1:=kV (s:=s) ov (x:=x) (y:={x with gl:=au}) (f:=0+0+1*1) (ds:=[D.v (.bool au)]) rfl;have e2:=kV (s:=s) ov (x:={x with gl:=au}) (y:={x with gl:=au,p2:=(b.ir b.ej).1.dm}) (f:=0+2+1*1) (ds:=[D.v (.int .i64 (b.ir b.ej).1.dm)]) rfl;have e3:=kV (s:=s) ov (x:={x with gl:=au,p2:=(b.ir b.ej).1.dm}) (y:={x with gl:=au,p2:=(b.ir b.ej).1.dm,q2:=(b.ir b.ej).1.dr}) (f:=0+4+1*1) (ds:=[D.v (.int .i64 (b.ir b.ej).1.dr)]) rfl;dsimp only;simp only[w2,show b.side au=b.ej from rfl,e1,e2,e3,ha]
     (repeat'(first|exact rfl|exact trivial|assumption|apply ba|refineλ(_:Unit) (_:True)=>?_|refine az () ?_|omega|(dsimp only;omega)))
     refine⟨(j,{x with gl:=au,p2:=(b.ir b.ej).1.dm,q2:=(b.ir b.ej).1.dr}),rfl,?_,?_⟩
     ·rw[RE,jv.AF,fc c]
     ·(repeat'(first|exact rfl|exact trivial|assumption|apply ba|refineλ(_:Unit) (_:True)=>?_|refine az () ?_|omega|(dsimp only;omega)))
      rw[cG hb];rfl
    ·have c:(b.ir b.ej).2=ar:=c;refine⟨(j,x),rfl,?_,?_⟩
     ·rw[RE,jv.AF,eg (by rw[c];simp)]
     ·(repeat'(first|exact rfl|exact trivial|assumption|apply ba|refineλ(_:Unit) (_:True)=>?_|refine az () ?_|omega|(dsimp only;omega)))
      rw[cG hb];rfl
   ·rintro _ rfl;refine⟨j+1,by rw[iq (by omega)];rfl,?_⟩;refine⟨by dsimp only;rw[zNw hb],?_⟩;exact kp
 ·have hj:j<=s.ei.length:=hj;obtain rfl:j=s.ei.length:=by omega
  have e:qI s s.ei.length=s.fh:=by
   rw[qI,JF,List.replicate_zero,oJ,mo (by rw[gv.fh,gy];omega)]
  rw[e];exact kp
def z3o:Gh.ok Tryz.prog 59:=gu mixed (dw US fg) 0 (λs=>y2h s) (λs=>y0l s) [] Tryz.func59 y7w
def y9q (i:Bh) (h:Gl.dp i):yTx i:=by
 obtain⟨hR,hB⟩:i.s.fv i.p i.B/\i.B.length<=1000:=h;have ta:=hR.at_ i.id;unfold yTx Qa Fa fa nM eE zGq zHg BD dI;cases hi:pH i.B i.id with
 |none=>
  rw[hi]at ta;refine⟨cX _ _,ar,0,.inr ⟨by rw[sY,ta];rfl,rfl,rfl⟩,Cv.dp.mk (λ_=>⟨i.s,?_⟩) (λe=>absurd e Z8)⟩;have ht:jG i.B i.id i.q=(i.B,26):=by rw[jG,hi]
  rw[ht];exact(iw (ni hR))
 |some k=>
  rw[hi]at ta;obtain⟨L,hL,hh⟩:=fK hi;have hk:=(jf.1 hL).1;obtain⟨b,hb⟩:=z6 (l:=i.s.ei) (i:=k) (by rw[hR.bl];exact hk);have Ef:=hR.bk k b L hb hL;have Ax:=hR.bl;have qz:=Ef.ox.2.1;refine⟨cX _ _,au,k,.inl ⟨by rw[sY,ta];rfl,rfl⟩,Cv.dp.mk (λe=>absurd e Z8) (λ_=> ?_)⟩;rw[om];refine⟨⟨oM,oM⟩,oM,b,hb,⟨b,L,i.id,i.q⟩,rfl,rfl,rfl,Ef,λb' Ay=> ?_⟩;have hT:=hR.take (q:=i.q) hi hL qz Ay;have oU:(jG i.B i.id i.q).2=(qM L i.id i.q).2:=by simp only[jG,hi,zY hL]
  refine⟨b',rfl,rfl,oM,by rw[qm];omega,by rw[qm];omega,b',dZ oM,⟨b',(qM L i.id i.q).1,i.id,0⟩,rfl,rfl,Ay,λ_ _=>⟨b',rfl,rfl,by rw[qm];omega,Cv.dp.mk (λe=>⟨cX _ _,?_⟩) (λe=> ?_)⟩⟩
  ·have e:vK (qM L i.id i.q).1 i.id=ar:=by simpa using e
   rw[e,eg (by decide)]at hT;refine⟨{i.s with ei:=i.s.ei.set k b',wh:=Lf i.id i.s.wh},oU,iw ⟨rfl,?_,(z2p _ _).symm,rfl,rfl,hT⟩⟩;rw[D8]
  ·have e:vK (qM L i.id i.q).1 i.id=au:=by simpa using e
   rw[e,fc rfl]at hT;refine⟨{i.s with ei:=i.s.ei.set k b',wh:=i.s.wh},oU,iw ⟨rfl,?_,rfl,rfl,rfl,hT⟩⟩;rw[D8]
def U5:Gl.ok Tryz.prog 199:=gu mixed (dw yZn (dw z7b fg)) 0 (λ_=>[]) (λ_=>[]) [0] Tryz.func199 y9q
structure jb (p:ff) (B:List (List zK)):Prop where
 pc:p.check=0
 ps:p.small
 bl:B.length=p.count
 pr:∀(k:Nat) (L:List zK),B[k]? =aw L->∀o∈L,p.dm k o.dm=0
def I7:fy:=fi Bool (λb=>[zB (zE b)]) (λ_=>[]) (λ_=>True) (λb=>zB (zE (!b))) (λ_=>[])
def aR (s:Bool) (p x:Int):Bool:=if s then decide (p<=x)else decide (x<=p)
structure SB where
 s:Bool
 p:Int
 x:Int
def MT:fy:=fi SB (λi=>[zB (zE i.s),zB i.p,zB i.x]) (λ_=>[]) (λ_=>True) (λi=>yL (aR i.s i.p i.x)) (λ_=>[])
def yZ (p:ff) (B:List (List zK)) (inst:Int) (s:Int):Quote×Bool×Bool:=
 let bq:=zZ (xN ⟨p,B.map qA,inst⟩ s) s
 let l:=iA (B.getD inst.toNat []) s
 if(l.2 && !(bq.2 && je s bq.1.dm l.1.dm))=au then(⟨l.1.dm,l.1.dr,⟨0,0⟩,⟨0,0⟩⟩,ar,au)else(bq.1,bq.2,bq.2)
structure Fc where
 s:gv
 p:ff
 B:List (List zK)
 inst:Int
 sd:Bool
def Kr:fy:=fi Fc (λi=>[.nm 0 0,zB i.inst,zB (zE i.sd)]) (λi=>[zF i.s]) (λi=>i.s.fv i.p i.B/\jb i.p i.B/\0<=i.inst/\i.inst<i.B.length)
 (λi=> .iZ [Wy (yZ i.p i.B i.inst (zE i.sd)).1,yL (yZ i.p i.B i.inst (zE i.sd)).2.1,yL (yZ i.p i.B i.inst (zE i.sd)).2.2]) (λi=>[zF i.s])
structure aI where
 id:Int
 inst:Int
 side:Int
 dm:Int
 dr:Int
 left:Int
 deriving DecidableEq
def y5 (f:aI):List D:=[.v (.int .i64 f.id),.v (.int .i64 f.inst),.v (.int .i64 f.side),.v (.int .i64 f.dm),.v (.int .i64 f.dr),.v (.int .i64 f.left)]
def qG (inst s:Int):List zK->List Int->List aI
 |o::os,k::ks=>if 0<k then⟨o.id,inst,s,o.dm,k,o.dr-k⟩::qG inst s os ks else qG inst s os ks
 |_,_=>[]
def jM (B:List (List zK)) (fs:List aI):List (List zK):=fs.foldl (λB f=>(jG B f.id f.dr).1) B
def WD (B:List (List zK)) (inst s:Int):List zK:=vm (B.getD inst.toNat []) s (iA (B.getD inst.toNat []) s).1.dm
def kO (p:ff) (B:List (List zK)) (inst s q:Int):List aI:=qG inst s (WD B inst s) (jB ⟨p,WD B inst s,q⟩)
structure AB where
 s:gv
 p:ff
 B:List (List zK)
 inst:Int
 sd:Bool
 q:Int
def AB.os (i:AB):List zK:=WD i.B i.inst (zE i.sd)
def AB.sh (i:AB):List Int:=jB ⟨i.p,i.os,i.q⟩
def AB.fs (i:AB) (j:Nat):List aI:=qG i.inst (zE i.sd) (i.os.take j) (i.sh.take j)
def Gg:fy where
 ι:=AB
 pat:=λi=>[.nm 0 0,.agg [zB i.inst,zB (zE i.sd)],zB i.q]
 pre:=λi=>[zF i.s]
 dp:=λi=>i.s.fv i.p i.B/\jb i.p i.B/\0<=i.inst/\i.inst<i.B.length/\gr i.q
 alts:=λi=>[{o:=gv,res:=λ_=> .own 1,post:=λs=>[zF s,.own 346 6 ((kO i.p i.B i.inst (zE i.sd) i.q).map y5)],rel:=λs=>s.fv i.p (jM i.B (kO i.p i.B i.inst (zE i.sd) i.q))}]
def y7g (i:AB):List gm:=[{ι:=Nat×gv,du:=λj=>[(0,.nm 0 0),(11,.own 1),(44,zB j.1)],rows:=λj=>[zF j.2,.own 346 6 ((i.fs j.1).map y5)]}]
def yDp (b:Bool):Prop:=
 dx ((zE !b)=av.wrap (3-zE b)/\True)
def yRz (i:SB):Prop:=
 dp (zE i.s==1) (dp (decide (i.x<=i.p)) (dx (aR i.s i.p i.x=au/\True)) (dp (zE i.s==2) (dx (aR i.s i.p i.x=decide (i.x>=i.p)/\True)) (dx (aR i.s i.p i.x=ar/\True)))) (dp (zE i.s==2) (dx (aR i.s i.p i.x=decide (i.x>=i.p)/\True)) (dx (aR i.s i.p i.x=ar/\True)))
def zLe (a:gv) (b:Fc):Prop:=sb a.p.code=sb b.s.p.code/\True/\Qs a.p b.s.p (True/\True)
def dO (a:zz):Prop:=(a.s=1\/a.s=2)/\a.l.length<=1000000
def zLp (a:Fc) (b:gv) (c:dq):Prop:=Qa a.s.p b.p (ao 211 dq 6 zS a.s.ei ax=ao 211 dq 6 zS (b.ei.set a.inst.toNat c) ax/\yY a.s.wh=yY b.wh/\BD a.s.p b.p (True))
def yF (a:Fc):=(yZ a.p a.B a.inst (zE a.sd))
def Y1 (a:Fc) (b:zz) (c:gv) (d:dq):Prop:=dx ((yF a).fst.dm=(zZ b.l b.s).fst.dm/\(yF a).fst.dr=(zZ b.l b.s).fst.dr/\(yF a).fst.a.inst=(zZ b.l b.s).fst.a.inst/\(yF a).fst.a.side=(zZ b.l b.s).fst.a.side/\(yF a).fst.b.inst=(zZ b.l b.s).fst.b.inst/\(yF a).fst.b.side=(zZ b.l b.s).fst.b.side/\(yF a).snd.fst=(zZ b.l b.s).snd/\(yF a).snd.snd=(zZ b.l b.s).snd/\zLp a c d)
def Y2 (a:Fc) (b:Aa) (c:gv) (d:dq):Prop:=dx ((yF a).fst.dm=(z7 b).fst.dm/\(yF a).fst.dr=(z7 b).fst.dr/\(yF a).fst.a.inst=0/\(yF a).fst.a.side=0/\(yF a).fst.b.inst=0/\(yF a).fst.b.side=0/\(yF a).snd.fst=ar/\(yF a).snd.snd=au/\zLp a c d)
def Uy (a:Br) (b:Fc) (c:gv):Prop:=∃(d:zz),ab zL d.l=ab zL (xN a.i (zE a.s))/\d.s=zE b.sd/\(dO d)/\fa ((0<=b.inst/\b.inst<(↑c.ei.length:Int))/\b.inst.toNat<c.ei.length/\∃(f:dq),c.ei[b.inst.toNat]?=aw f/\∃(g:Aa),zE g.side=zE b.sd/\yE g.b=yE f/\(uD g)/\fa (∃(j:dq),yE g.b=yE j/\Fa b.inst c.ei (dp (z7 g).snd (dp (zZ d.l d.s).snd (∃(k:Ej),k.side=zE b.sd/\k.x=(zZ d.l d.s).fst.dm/\k.y=(z7 g).fst.dm/\True/\fa (dp (!je k.side k.x k.y) (Y2 b g c j) (Y1 b d c j))) (Y2 b g c j)) (Y1 b d c j))))
@[reducible] def Qo (a:cV)(b c:gv)(R:Prop):Prop:=sb a.p.code=sb b.p.code/\iE a.p.dt=iE c.p.dt/\a.p.tick=b.p.tick/\a.p.low=b.p.low/\a.p.high=b.p.high/\a.p.wide=b.p.wide/\a.p.gi=b.p.gi/\a.p.top=b.p.top/\a.p.least=b.p.least/\a.p.part=b.p.part/\iE a.p.settle=iE c.p.settle/\ab yB a.fh=ab yB c.fh/\R
def Ym (a:gv) (b:Fc):Prop:=(zLe a b)/\∃(c:Br),Qo c.i b.s a (c.i.inst=b.inst/\zE c.s=zE b.sd/\(kJ c)/\fa (Uy c b a))
def gN (a:gv):Prop:=a.ei.length<=1000000/\∀(b:dq),b∈a.ei->∀(c:aK),c∈b.a.dy->(-9223372036854775808)<=c.count/\c.count<=9223372036854775807
@[reducible] def Ql (a:ff)(R:Prop):Prop:=sb a.code=sb a.code/\True/\a.tick=a.tick/\a.low=a.low/\a.high=a.high/\a.wide=a.wide/\a.gi=a.gi/\a.top=a.top/\a.least=a.least/\a.part=a.part/\True/\R
@[reducible] def QI (a b:gv)(R:Prop):Prop:=ao 211 dq 6 zS a.ei ax=ao 211 dq 6 zS b.ei ax/\yY a.wh=yY b.wh/\am 1 (iE a.p.dt)=am 1 (iE b.p.dt)/\am 1 (iE a.p.settle)=am 1 (iE b.p.settle)/\R
def y2a (i:Fc):Prop:=
 (∃(a:gv),Qa a.p i.s.p (QI a i.s ((gN a)/\fa ((zLe a i)/\(∃(c:Br),Qo c.i i.s a (c.i.inst=i.inst/\zE c.s=zE i.sd/\(kJ c)/\fa ((Uy c i a)/\Uy c i a)))/\Ym a i))))/\(Ql i.s.p (True))/\∃(a:gv),Qa a.p i.s.p (QI a i.s ((gN a)/\fa (Ym a i)))
def nQ (a:II):=(ab uA (vm a.L (zE a.s) a.dm))
def ZL (a:Nat×gv->Prop) (b:Nat×gv) (c:Nat×gv->Nat) (d:Nat×gv) (e:CM) (f:II) (g:Aa) (h:AB):Prop:=a b/\c b<c d/\dl (aq 2 1 (iE (jB e)))/\dl (am 5 (nQ f))/\dl (ap [V.d (dI (c8 g)),V.d (dI (gF g)),V.d (dI ((z7 g).fst.count))] 177)/\dl (ap [V.d (dI h.inst),V.d (dI (zE h.sd))] 125)/\dl (am 1 (iE h.s.p.dt))/\dl (am 1 (iE h.s.p.settle))
def fM (a:AB):=(kO a.p a.B a.inst (zE a.sd) a.q)
def cZ (a:AB):=(jM a.B (fM a))
def ySh (i:AB):Prop:=
 (0<=i.inst/\i.inst<(↑i.s.ei.length:Int))/\i.inst.toNat<i.s.ei.length/\∃(a:dq),i.s.ei[i.inst.toNat]?=aw a/\∃(b:Aa),zE b.side=zE i.sd/\yE b.b=yE a/\(uD b)/\fa (∃(d:dq),yE b.b=yE d/\Fa i.inst i.s.ei (∃(e:dq),(i.s.ei.set i.inst.toNat d)[i.inst.toNat]?=aw e/\∃(f:II),zE f.s=zE i.sd/\f.dm=(z7 b).fst.dm/\yE f.b=yE e/\f.b.fv f.L/\fa (∃(h:dq),yE f.b=yE h/\dl i.inst.toNat/\i.inst.toNat<(i.s.ei.set i.inst.toNat d).length/\∃(j:CM),Qb j.p i.s.p (ab uA j.l=ab uA (vm f.L (zE f.s) f.dm)/\j.q=i.q/\(j.l.length<=1000/\((-9223372036854775808)<=j.q/\j.q<=9223372036854775807)/\((-9223372036854775808)<=j.p.least/\j.p.least<=9223372036854775807)/\((-9223372036854775808)<=j.p.top/\j.p.top<=9223372036854775807)/\(-9223372036854775808)<=j.p.part/\j.p.part<=9223372036854775807)/\fa (∃(l:Nat×gv),(↑l.fst:Int)=0/\Qa l.snd.p i.s.p (ao 211 dq 6 zS l.snd.ei ax=ao 211 dq 6 zS ((i.s.ei.set i.inst.toNat d).set i.inst.toNat h) ax/\yY l.snd.wh=yY i.s.wh/\BD l.snd.p i.s.p (ab y5 (i.fs l.fst)=[]/\∃(m:Nat×gv->Prop),∃(n:Nat×gv->Nat),m l/\∀(p:Nat×gv),m p->dp (decide ((↑p.fst:Int)<(↑(iE (jB j)).length:Int))) ((0<=(↑p.fst:Int)/\(↑p.fst:Int)<(↑(iE (jB j)).length:Int))/\∃(q:Int),zD (iE (jB j)) (↑p.fst:Int).toNat 0 1=aw [dI q]/\dp (decide (q>0)) ((0<=(↑p.fst:Int)/\(↑p.fst:Int)<(↑(nQ f).length:Int))/\∃(r:Int),∃(s:Int),∃(t:Int),∃(u:Int),∃(v:Bool),zD (nQ f) (↑p.fst:Int).toNat 0 5=aw [dI r,dI s,dI t,dI u,D.v (.bool v)]/\∃(w:Bh),w.id=r/\w.q=q/\zF w.s=zF p.snd/\(w.s.fv w.p w.B/\w.B.length<=1000)/\∀(x:gv),x.fv w.p (jG w.B w.id w.q).fst->((ab y5 (i.fs p.fst)).length+1)*(48:Nat)<=(140737488355328:Nat)/\∃(y:Nat×gv),(↑y.fst:Int)=av.wrap ((↑p.fst:Int)+1)/\zF y.snd=zF x/\ab y5 (i.fs y.fst)=ab y5 (i.fs p.fst)++[[dI r,dI i.inst,dI (zE i.sd),dI t,dI q,dI (av.wrap (u-q))]]/\ZL m y n p j f b i) (∃(r:Nat×gv),(↑r.fst:Int)=av.wrap ((↑p.fst:Int)+1)/\zF r.snd=zF p.snd/\ab y5 (i.fs r.fst)=ab y5 (i.fs p.fst)/\ZL m r n p j f b i)) (∃(q:gv),zF q=zF p.snd/\ab y5 (fM i)=ab y5 (i.fs p.fst)/\q.fv i.p (cZ i)))))))))
def Pv {p:ff} (hc:p.check=0) {k v:Int} (h:p.dm k v=0): -2000000<=v/\v<=2000000:=by
 have ok:=jE hc;have:=ok.b1;have:=ok.b2;have:=ok.b3;have:=ok.b4;have:=ok.b5;rw[ff.dm]at h;by_cases c1:p.count=0
 ·rw[fc c1]at h;cases h
 by_cases c2:k<0\/(p.count:Int)<=k
 ·rw[eg c1,fc c2]at h;cases h
 cases c3:kH p.tick v with
 |true=>rw[eg c1,eg c2,fc c3]at h;cases h
 |false=>
  rw[eg c1,eg c2,eg (by rw[c3];decide)]at h;by_cases c4:(p.dt.length:Int)<=k
  ·simp only[fc c4]at h;by_cases c5:v< -p.wide\/p.wide<v
   ·rw[fc c5]at h;cases h
   ·omega
  ·simp only[eg c4]at h;by_cases c5:v<p.low\/p.high<v
   ·rw[fc c5]at h;cases h
   ·omega
def NH {t:Int} (k:Int):kH t (t*k)=ar:=by
 simp[kH,Int.mul_tmod_right]
def zNs (x:ff):(ib x).small:=by
 have:=yOy x;refine⟨by simp[ib],?_,?_⟩
 ·show(qO _).length<=_;rw[zBi];omega
 ·show(kZ _ _).length<=_;rw[pU];omega
def rC (x:ff):(ib x).check=0:=by
 have ht:=U8 x;have hn:=yOy x;have hw:=y3 (n:=x.wide) (lo:=0) (hi:=60) oM;have hr:=y3 (n:=x.gi) (lo:=0) (hi:=2) oM;have ho:=y3 (n:=x.top) (lo:=0) (hi:=9) oM;have hl:=y3 (n:=x.least) (lo:=0) (hi:=4) oM;have hp:=y3 (n:=x.part) (lo:=0) (hi:=100) oM;have h1:vB (ib x).code=au:=by show vB [206,169]=au;decide+kernel
 obtain⟨k,hk,Au⟩:∃k:Nat,(kN x).toNat=k/\(2<=k/\k<=5):=⟨_,rfl,oM⟩
 have h2:xP (ib x).dt=au:=by
  show xP (qO (kN x).toNat)=au;rw[hk];have:k=2\/k=3\/k=4\/k=5:=by omega
  rcases this with rfl|rfl|rfl|rfl<;>decide
 have h3:kD (ib x)=au:=by
  have a:kH (zV x) (-20*zV x)=ar:=by rw[D7];exact NH _
  have b:kH (zV x) (100*zV x)=ar:=by rw[D7];exact NH _
  have c:(kZ (zV x) (kN x).toNat).any (kH (zV x))=ar:=by
   rw[N0];intro y hy;obtain⟨j,_,rfl⟩:=oe.1 hy;rw[NH];decide
  simp only[kD,ib,a,b,c,NH,JH,Bool.and_true,lj];exact⟨jk oM,jk oM⟩
 have mw:=Jp (a:=zV x) (b:=5+zG x.wide 0 60) (m:=zV x) (n:=65) oM oM;have h4:kF (ib x)=ar:=by
  simp only[kF,ib,Hu];exact⟨⟨⟨⟨jt oM,jt oM⟩,jt oM⟩,jt oM⟩,jt oM⟩
 have h5:xS (ib x)=ar:=by
  have e:(kZ (zV x) (kN x).toNat).length=(qO (kN x).toNat).length:=by rw[pU,zBi]
  have ne:kZ (zV x) (kN x).toNat≠[]:=by
   intro hc;have:=pU (zV x) (kN x).toNat;rw[hc]at this;simp at this;omega
  have bd:∀y∈kZ (zV x) (kN x).toNat,0<=y/\y<=zV x*15:=by
   intro y hy;obtain⟨j,hj,rfl⟩:=oe.1 hy;have:=CB.1 hj;exact Jp oM oM
  have m1:=bd _ (z6e ne);have m2:=bd _ (z3d ne);simp only[xS,ib,e,ne_eq,not_true_eq_false,decide_false,Ly,Hu];exact⟨jt oM,jt oM⟩
 have h6:k0 (ib x)=ar:=by
  simp only[k0,ib,Hu];exact⟨jt oM,jt oM⟩
 have h7:qJ (ib x)=ar:=by
  simp only[qJ,ib,Hu];exact⟨⟨⟨⟨⟨jt oM,jt oM⟩,jt oM⟩,jt oM⟩,jt oM⟩,jt oM⟩
 rw[ff.check,h1,h2,h3,h4,h5,h6,h7];rfl
structure WC (qs sh:List Int) (q:Int):Prop where
 len:sh.length=qs.length
 bd:∀n,0<=sh.getD n 0/\sh.getD n 0<=qs.getD n 0
 sum:sh.sum=q
def yOf:∀{l:List Int},(∀x∈l,0<=x)->0<=l.sum
 |[],_=>xq 0
 |a::l,h=>by
  have:=yOf (l:=l) λx hx=>h x (jc _ hx)
  have:=h a iS;rw[rk];omega
def yDy:∀{z:List (Int×Int)},(∀y∈z,0<=y.2/\y.2<=y.1)->(z.map (·.2)).sum<=(z.map (·.1)).sum
 |[],_=>xq 0
 |a::l,h=>by
  have:=yDy (z:=l) λx hx=>h x (jc _ hx)
  have:=h a iS;rw[jj,jj,rk,rk];omega
def zCi:∀(l:List Int) (q:Int),(∀x∈l,0<=x)->0<=q->q<=l.sum->WC l (gT l q) q
 |[],q,_,h0,h1=>⟨rfl,λn=>by simp[gT],by simp at h1;simp[gT];omega⟩
 |n::l,q,h,h0,h1=>by
  have hn:=h n iS;rw[rk]at h1;have:=yOf λx hx=>h x (jc _ hx)
  have ih:=zCi l (q-min n q) (λx hx=>h x (jc _ hx)) oM oM;refine⟨by rw[gT,iC,iC,ih.len],λk=> ?_,by rw[gT,rk,ih.sum];omega⟩;cases k with
  |zero=>exact⟨by show 0<=min n q;omega,by show min n q<=n;omega⟩
  |succ k=>exact ih.bd k
def zEw:∀(z:List (Int×Int)) (q:Int),(∀y∈z,0<=y.2/\y.2<=y.1)->0<=q->q<=(z.map (·.1)).sum-(z.map (·.2)).sum->(vE z q).length=z.length/\(∀n,0<=(vE z q).getD n 0/\(vE z q).getD n 0<=(z.map (·.1)).getD n 0)/\(vE z q).sum=(z.map (·.2)).sum+q
 |[],q,_,h0,h1=>⟨rfl,λn=>by simp[vE],by simp at h1;simp[vE];omega⟩
 |(n,x)::r,q,h,h0,h1=>by
  have hn:=h (n,x) iS;simp only[jj,rk]at h1;have:=yDy λy hy=>h y (jc _ hy)
  have ih:=zEw r (q-min (n-x) q) (λy hy=>h y (jc _ hy)) oM oM;refine⟨by rw[vE,iC,iC,ih.1],λk=> ?_,by rw[vE,rk,ih.2.2,jj,rk];omega⟩;cases k with
  |zero=>exact⟨by show 0<=x+min (n-x) q;have:=hn.1;have:=hn.2;dsimp only at*;omega,by show x+min (n-x) q<=n;have:=hn.2;dsimp only at*;omega⟩
  |succ k=>exact ih.2.1 k
def yRr {l:List Int} {q:Int} (h1:l.length<=250) (h2:0<=q) (h3:∀x∈l,1<=x/\x<=1000000) (h4:q<=l.sum):y6 l q=au:=by
 rw[y6,jk h1,jk h2,jk h4];simp only[Ao,Bool.and_true,Eb,lj,tq];exact h3
def zZi {i:vo} (h:y6 i.l i.q=au) (hl:1<=i.least):WC i.l (j0 i) i.q:=by
 obtain⟨r1,r2,r3,r4⟩:=j9 h;rw[j0,fc ⟨h,hl⟩];by_cases jr:i.l.length=0
 ·have e:i.l=[]:=xu jr;have hq:i.q=0:=by rw[e]at r4;simp at r4;omega
  have e0:i.p1=[]:=by rw[vo.p1,e];rfl
  rw[e0,e,hq];exact⟨rfl,λn=>by simp,rfl⟩
 ·obtain⟨_,_,f1,f2⟩:=Vx h oM;have yz:=z9y i;have m1:(i.l.zip i.p0).map (·.1)=i.l:=List.map_fst_zip oM
  have m2:(i.l.zip i.p0).map (·.2)=i.p0:=List.map_snd_zip oM
  have hp:=zEw (i.l.zip i.p0) (i.q-i.p0.sum) (λy hy=>by
   obtain⟨j,hj⟩:=Bt.1 hy;rw[Rq]at hj;exact f1 j _ _ hj.1 hj.2) oM (by rw[m1,m2];omega)
  rw[m1,m2]at hp;refine⟨?_,hp.2.1,?_⟩
  ·rw[vo.p1,hp.1,List.length_zip,yz,Nat.min_self]
  ·rw[vo.p1,hp.2.2];omega
def z1b:∀{l:List Int} {k:Nat} {x:Int},k<l.length->(l.set k x).sum=l.sum+(x-l.getD k 0)
 |[],k,x,h=>absurd h (by simp)
 |a::l,0,x,_=>by
  show x+l.sum=a+l.sum+(x-a);omega
 |a::l,k+1,x,h=>by
  have:=z1b (l:=l) (k:=k) (x:=x) (by simpa using h);show a+(l.set k x).sum=a+l.sum+(x-l.getD k 0);omega
def Y8 {l:List Int} {k n:Nat} {x:Int} (h:k<l.length):(l.set k x).getD n 0=if n=k then x else l.getD n 0:=by
 rw[oc,Ca];by_cases e:k=n
 ·subst e;rw[fc rfl,fc h,fc rfl];rfl
 ·rw[eg e,eg (λe2=>e e2.symm),oc]
def z6w {l:List Int}:∀(z:List (Nat×Int)) (o:List Int),(z.map (·.1)).Nodup->(∀y∈z,y.1<o.length/\0<=y.2/\o.getD y.1 0+y.2<=l.getD y.1 0)->(∀n,0<=o.getD n 0/\o.getD n 0<=l.getD n 0/\l.getD n 0<=1000000)->
 (z.foldl (λo y=>o.set y.1 (av.wrap (o.getD y.1 0+y.2))) o).length=o.length/\(z.foldl (λo y=>o.set y.1 (av.wrap (o.getD y.1 0+y.2))) o).sum=o.sum+(z.map (·.2)).sum/\∀n,0<=(z.foldl (λo y=>o.set y.1 (av.wrap (o.getD y.1 0+y.2))) o).getD n 0/\(z.foldl (λo y=>o.set y.1 (av.wrap (o.getD y.1 0+y.2))) o).getD n 0<=l.getD n 0
 |[],o,_,_,h=>⟨rfl,by simp,λn=>⟨(h n).1,(h n).2.1⟩⟩
 |y::z,o,hn,hz,h=>by
  obtain⟨h1,h2,h3⟩:=hz y iS;rw[jj,yk]at hn;have hw:av.wrap (o.getD y.1 0+y.2)=o.getD y.1 0+y.2:=by
   have:=h y.1;exact iq oM
  rw[A7,hw];have ih:=z6w (l:=l) z (o.set y.1 (o.getD y.1 0+y.2)) hn.2 (λx hx=>by
   obtain⟨g1,g2,g3⟩:=hz x (jc _ hx);have jr:x.1≠y.1:=λe=>hn.1 (e▸rz (f:=(·.1)) hx)
   rw[qm,Y8 h1,eg jr];exact⟨g1,g2,g3⟩) (λn=>by
   rw[Y8 h1];split
   ·rename_i e;rw[e];exact⟨by have:=h y.1;omega,h3,(h y.1).2.2⟩
   ·exact h n)
  refine⟨by rw[ih.1,qm],?_,ih.2.2⟩;rw[ih.2.1,z1b h1,jj,rk];omega
def zQu (l:List Int):(List.range l.length).map (λn=>l.getD n 0)=l:=by
 apply Dd;intro n;rw[rf];by_cases h:n<l.length
 ·rw[LH h,u' h,we,oc,u' h];rfl
 ·rw[ud (by simpa using h),ud (by omega)];rfl
def yHf {f g:Nat->Int}:∀l:List Nat,(l.map λn=>f n-g n).sum=(l.map f).sum-(l.map g).sum
 |[]=>rfl
 |a::l=>by rw[jj,jj,jj,rk,rk,rk,yHf l];omega
def zRe {f:Nat->Int} {p:Nat->Bool}:∀{l:List Nat},(∀n∈l,p n=ar->f n=0)->((l.filter p).map f).sum=(l.map f).sum
 |[],_=>rfl
 |a::l,h=>by
  have ih:=zRe (l:=l) λn hn=>h n (jc _ hn)
  rw[jj,rk];by_cases e:p a=au
  ·rw[Ro e,jj,rk,ih]
  ·rw[Rn e,ih,h a iS (by simpa using e)];omega
def zBf {i:qd} (hl:i.l.length<=250) (ho:i.out.length=i.l.length) (hn:∀n,0<=i.out.getD n 0/\i.out.getD n 0<=i.l.getD n 0/\i.l.getD n 0<=1000000) (hq:0<=i.q/\i.q<=i.l.sum-i.out.sum) (hle:1<=i.least):
 WC i.l (rZ i) (i.out.sum+i.q):=by
 have aaM:(i.idx i.l.length).length<=250:=vz (Ij _ _) (by simpa using hl);have tw:∀n∈i.idx i.l.length,n<i.l.length/\i.out.getD n 0<i.l.getD n 0:=by
  intro n hn;obtain⟨a,b⟩:=wb.1 hn;exact⟨CB.1 a,qp b⟩
 have RW:(i.left i.l.length).sum=i.l.sum-i.out.sum:=by
  rw[qd.left,qd.idx,zRe,yHf,zQu]
  ·rw[<- ho,zQu]
  ·intro n _ e;have:=LG e;have:=hn n;omega
 have hr:y6 (i.left i.l.length) i.q=au:=by
  refine yRr (by rw[qd.left,gy];exact aaM) hq.1 (λx hx=> ?_) oM;obtain⟨n,hm,rfl⟩:=oe.1 hx;have:=tw n hm;have:=hn n;omega
 have hp:=zZi (i:=⟨i.left i.l.length,i.least,i.q⟩) hr hle;have yz:i.pl.length=(i.idx i.l.length).length:=by
  have:=hp.len;rw[qd.pl,this,qd.left,gy]
 have qz:(i.idx i.l.length).Nodup:=List.nodup_range.sublist Rj;have z1:((i.idx i.l.length).zip i.pl).map (·.1)=i.idx i.l.length:=List.map_fst_zip oM
 have z2:((i.idx i.l.length).zip i.pl).map (·.2)=i.pl:=List.map_snd_zip oM
 have hf:=z6w (l:=i.l) ((i.idx i.l.length).zip i.pl) i.out (by rw[z1];exact qz) (λy hy=>by
  obtain⟨j,hj⟩:=Bt.1 hy;rw[Rq]at hj;have hm:=tw y.1 (ku hj.1);have hb:=hp.bd j;have e1:(j0 ⟨i.left i.l.length,i.least,i.q⟩).getD j 0=y.2:=by
   rw[oc];have:(j0 ⟨i.left i.l.length,i.least,i.q⟩)[j]? =aw y.2:=hj.2;rw[this];rfl
  have e2:(i.left i.l.length).getD j 0=i.l.getD y.1 0-i.out.getD y.1 0:=by
   rw[oc,qd.left,rf,hj.1];rfl
  dsimp only at hb;rw[e1,e2]at hb;exact⟨oM,hb.1,oM⟩) hn
 have tf:rZ i=((i.idx i.l.length).zip i.pl).foldl (λo y=>o.set y.1 (av.wrap (o.getD y.1 0+y.2))) i.out:=by
  rw[rZ,qd.add,mo (by rw[List.length_zip];omega)]
 rw[tf];refine⟨by rw[hf.1,ho],hf.2.2,?_⟩;rw[hf.2.1,z2];have:=hp.sum;rw[qd.pl,this]
def yFi {l:List Int} (h:∀x∈l,1<=x/\x<=1000000) (n:Nat):0<=l.getD n 0/\l.getD n 0<=1000000:=by
 by_cases hn:n<l.length
 ·obtain⟨x,hx⟩:=z6 hn;have:=h x (ku hx);rw[zY hx];omega
 ·rw[oc,ud (by omega)];decide
def y8p (n k:Nat):(ac n (0:Int)).getD k 0=0:=by
 rw[oc,Rm];split<;>rfl
def YL (n:Nat):(ac n (0:Int)).sum=0:=by
 induction n with
 |zero=>rfl
 |succ n ih=>rw[LI,rk,ih];rfl
def y8j {q part:Int} (hq:0<=q) (h0:0<=part) (h1:part<=100):0<=q*part / 100/\q*part / 100<=q:=by
 have h2:0<=q*part:=NW hq h0;have h3:q*part<=q*100:=Xq h1 hq;constructor<;>omega
def z0u {p:ff} (hc:p.check=0) {l:List zK} {q:Int} (hr:y6 (l.map (·.dr)) q=au):WC (l.map (·.dr)) (jB ⟨p,l,q⟩) q:=by
 have ok:=jE hc;obtain⟨r1,r2,r3,r4⟩:=j9 hr;have q1:=ok.q1;have q3:=ok.q3;have q5:=ok.q5;have q6:=ok.q6;have r5:=ok.r1;have r6:=ok.r2;have gb:=yFi r3;have eqs:(CM.qs ⟨p,l,q⟩)=l.map (·.dr):=rfl
 rw[jB];simp only[eqs];generalize l.map (·.dr)=qs at*
 by_cases c1:p.gi=1
 ·rw[fc c1,g9,fc hr];exact zCi _ _ (λx hx=>by have:=r3 x hx;omega) r2 r4
 by_cases c2:p.gi=2
 ·rw[eg c1,fc c2,C9,fc ⟨hr,q3,q1⟩];rw[vg.rs];dsimp only;split
  ·rename_i ht;have hk:(iX l).toNat<(ac qs.length (0:Int)).length:=by simp;omega
   have hf:0<=vg.first ⟨qs,iX l,p.top,p.least,q⟩/\vg.first ⟨qs,iX l,p.top,p.least,q⟩<=qs.getD (iX l).toNat 0/\vg.first ⟨qs,iX l,p.top,p.least,q⟩<=q:=by
    have:=gb (iX l).toNat;simp only[vg.first];omega
   have hs:((ac qs.length (0:Int)).set (iX l).toNat (vg.first ⟨qs,iX l,p.top,p.least,q⟩)).sum=vg.first ⟨qs,iX l,p.top,p.least,q⟩:=by
    rw[z1b hk,YL,y8p];omega
   have:=zBf (i:=⟨qs,(ac qs.length 0).set (iX l).toNat (vg.first ⟨qs,iX l,p.top,p.least,q⟩),p.least,q-vg.first ⟨qs,iX l,p.top,p.least,q⟩⟩) r1 (by simp) (λn=>by
    dsimp only;rw[Y8 hk,y8p];have:=gb n;split
    ·rename_i e;rw[e];exact⟨hf.1,hf.2.1,(gb _).2⟩
    ·omega) (by dsimp only;rw[hs];omega) q3
   dsimp only at this;rw[hs]at this;have e:vg.first ⟨qs,iX l,p.top,p.least,q⟩+(q-vg.first ⟨qs,iX l,p.top,p.least,q⟩)=q:=by omega
   rw[e]at this;exact this
  ·have:=zBf (i:=⟨qs,ac qs.length 0,p.least,q⟩) r1 (by simp) (λn=>by
    dsimp only;rw[y8p];have:=gb n;omega) (by dsimp only;rw[YL];omega) q3
   dsimp only at this;rw[YL,Int.zero_add]at this;exact this
 ·have c3:p.gi=3:=by omega
  rw[eg c1,eg c2,fc c3,Cz,fc ⟨hr,q5,q6,q3⟩];rw[J8.rs];dsimp only;obtain⟨d1,d2⟩:=y8j r2 q5 q6;have xo:y6 qs (q*p.part / 100)=au:=yRr r1 d1 r3 oM;have xw:=zCi qs (q*p.part / 100) (λx hx=>by have:=r3 x hx;omega) d1 oM;have e0:g9 qs (q*p.part / 100)=gT qs (q*p.part / 100):=by rw[g9,fc xo]
  have:=zBf (i:=⟨qs,g9 qs (q*p.part / 100),p.least,q-q*p.part / 100⟩) r1 (by dsimp only;rw[e0];exact xw.len) (λn=>by
   dsimp only;rw[e0];exact⟨(xw.bd n).1,(xw.bd n).2,(gb n).2⟩) (by dsimp only;rw[e0,xw.sum];omega) q3
  dsimp only at this;rw[e0,xw.sum]at this;rw[e0];have e:q*p.part / 100+(q-q*p.part / 100)=q:=by omega
  rw[e]at this;exact this
def yAr {p:ff} {l:List zK} {q:Int} (hr:y6 (l.map (·.dr)) q=ar):jB ⟨p,l,q⟩=[]:=by
 have eqs:(CM.qs ⟨p,l,q⟩)=l.map (·.dr):=rfl
 rw[jB];simp only[eqs,g9,C9,Cz,hr];simp
def zVw:I7.ok Tryz.prog 217:=gu (V:=yDp) mixed fg 0 (λ_=>[]) (λ_=>[]) [] Tryz.func217 λ(b:Bool) _=>by
 unfold yDp dx;cases b<;>exact⟨(),Z8,trivial⟩
def z5q:MT.ok Tryz.prog 218:=gu (V:=yRz) mixed fg 0 (λ_=>[]) (λ_=>[]) [] Tryz.func218 λ(i:SB) _=>by
 obtain⟨s,p,x⟩:=i;unfold yRz dx;cases s
 ·refine Cv.dp.mk (λ_=>zH (λc=>⟨(),?_,trivial⟩) (λc=>Cv.dp.mk (λe=>by simp[zE]at e) (λ_=>⟨(),?_,trivial⟩))) (λe=>by simp[zE]at e)
  ·exact jk c
  ·exact jt c
 ·exact Cv.dp.mk (λe=>by simp[zE]at e) (λ_=>Cv.dp.mk (λ_=>⟨(),rfl,trivial⟩) (λe=>by simp[zE]at e))
def z4a {L:List zK} {s:Int}:((iA L s).2=au/\∃o∈L,o.side=s/\o.dm=(iA L s).1.dm)\/(iA L s=(⟨0,0,0⟩,ar)/\∀o∈L,o.side≠s):=by
 rw[iA];cases hl:gY L s with
 |nil=>
  refine .inr ⟨rfl,λo ho e=> ?_⟩;rw[gY]at hl;cases hf:L.filter λo=>decide (o.side=s)with
  |nil=>
   rw[JR]at hf;have:=hf o ho;simp[e]at this
  |cons x y=>
   rw[hf,xx]at hl;split at hl
   ·cases hl
   ·split at hl<;>cases hl
 |cons v vs=>
  refine .inl ⟨rfl,?_⟩;rw[gY]at hl;obtain⟨o,r,e1,e2⟩:=Y5 hl;have:o∈L.filter λo=>decide (o.side=s):=by rw[e1];exact iS
  rw[wb]at this;exact⟨o,this.1,by simpa using this.2,e2⟩
def z2h {L:List zK} {s:Int} (h:∀o∈L,-2000000<=o.dm/\o.dm<=2000000): -2000000<=(iA L s).1.dm/\(iA L s).1.dm<=2000000:=by
 rcases z4a (L:=L) (s:=s)with⟨_,o,ho,_,e⟩|⟨e,_⟩
 ·rw[<- e];exact h o ho
 ·rw[e];constructor<;>decide
def UR (L:List zK):(qA L).p1=(iA L 1).1.dm/\(qA L).q1=(iA L 1).1.dr/\(qA L).gp=(iA L 1).2/\(qA L).p2=(iA L 2).1.dm/\(qA L).q2=(iA L 2).1.dr/\(qA L).gl=(iA L 2).2:=by
 have h:∀s,(iA L s).2=au\/iA L s=(⟨0,0,0⟩,ar):=λs=>by
  rcases z4a (L:=L) (s:=s)with⟨h,_⟩|⟨h,_⟩
  ·exact .inl h
  ·exact .inr h
 rw[qA,jv.AF,jv.FX];rcases h 1 with h1|h1<;>rcases h 2 with h2|h2<;>simp[h1,h2,jw]
def jb.yg {p:ff} {B:List (List zK)} (h:jb p B) {k:Nat} {L:List zK} (hL:B[k]? =aw L):∀o∈L,-2000000<=o.dm/\o.dm<=2000000:=λo ho=>Pv h.pc (h.pr k L hL o ho)
def jb.fh {p:ff} {B:List (List zK)} (h:jb p B):vU (B.map qA):=by
 have:=xF p;refine⟨by rw[gy,h.bl];omega,λt ht=> ?_⟩;obtain⟨L,hL,rfl⟩:=oe.1 ht;obtain⟨k,hk⟩:=Bt.1 hL;have b1:=z2h (s:=1) (h.yg hk);have b2:=z2h (s:=2) (h.yg hk);rw[(UR L).1,(UR L).2.2.2.1];exact⟨by constructor<;>omega,by constructor<;>omega⟩
def gv.fv.fh {s:gv} {p:ff} {B:List (List zK)} (h:s.fv p B):s.fh=B.map qA:=by
 rw[gv.fh];apply Dd;intro k;rw[rf,rf];by_cases hk:k<B.length
 ·obtain⟨L,hL⟩:=z6 hk;obtain⟨b,hb⟩:=z6 (l:=s.ei) (i:=k) (by rw[h.bl];exact hk);rw[hL,hb,we,we,(h.bk k b L hb hL).top]
 ·rw[ud (by rw[h.bl];omega),ud (by omega)];rfl
def gv.fv.E9 {s:gv} {p:ff} {B:List (List zK)} (h:s.fv p B) (hB:B.length<=1000000):s.nt:=by
 refine⟨by rw[h.bl];exact hB,λb hb=> ?_⟩;obtain⟨k,hk⟩:=Bt.1 hb;have gn:=(jf.1 hk).1;rw[h.bl]at gn;obtain⟨L,hL⟩:=z6 gn;exact(h.bk k b L hk hL).E9
def z6k {b:dq} {L:List zK} (h:b.fv L) (sd:Bool):b.ir (b.side sd)=iA L (zE sd):=by
 obtain⟨Q,c,ht,rfl⟩:=h;cases sd
 ·exact c.iA (.inl rfl)
 ·exact c.iA (.inr rfl)
def Pm (sd:Bool):zE sd=1\/zE sd=2:=by cases sd;exact .inl rfl;exact .inr rfl
def xDm (i:Fc) (h:Kr.dp i):y2a i:=by
 obtain⟨hR,hB,h0,h1⟩:i.s.fv i.p i.B/\jb i.p i.B/\0<=i.inst/\i.inst<i.B.length:=h;have wm:=xF i.p;have Ax:=hB.bl;have yo:=hR.bl;obtain⟨k,hk⟩:∃k:Nat,i.inst=k:=⟨i.inst.toNat,oM⟩
 obtain⟨L,hL⟩:=z6 (l:=i.B) (i:=k) oM;obtain⟨b,hb⟩:=z6 (l:=i.s.ei) (i:=k) oM;have Ef:=hR.bk k b L hb hL;have Cf:i.s.p.small:=by rw[hR.ep];exact hB.ps
 have si:vU i.s.fh:=by rw[hR.fh];exact hB.fh
 have EW:yZ i.p i.B i.inst (zE i.sd)=if((iA L (zE i.sd)).2 && !((zZ (xN ⟨i.s.p,i.s.fh,i.inst⟩ (zE i.sd)) (zE i.sd)).2 && je (zE i.sd) (zZ (xN ⟨i.s.p,i.s.fh,i.inst⟩ (zE i.sd)) (zE i.sd)).1.dm (iA L (zE i.sd)).1.dm))=au then(⟨(iA L (zE i.sd)).1.dm,(iA L (zE i.sd)).1.dr,⟨0,0⟩,⟨0,0⟩⟩,ar,au)else((zZ (xN ⟨i.s.p,i.s.fh,i.inst⟩ (zE i.sd)) (zE i.sd)).1,(zZ (xN ⟨i.s.p,i.s.fh,i.inst⟩ (zE i.sd)) (zE i.sd)).2,(zZ (xN ⟨i.s.p,i.s.fh,i.inst⟩ (zE i.sd)) (zE i.sd)).2):=by
  rw[yZ,hR.fh,hR.ep,hk,om,zY hL]
 have DG:=z6k Ef i.sd;unfold y2a QI Qa fa Ql Qo gN Ym fa Qo kJ o7 gO Uy Fa fa uD Y2 dx z7 Y1 dx yF zLp Qa BD dO zLe Qs;have BN:i.s.nt:=hR.E9 oM;have Iv:(xN ⟨i.s.p,i.s.fh,i.inst⟩ (zE i.sd)).length<=1000000:=by
  have:=vz (Ij (λq=>decide (i.s.p.dm i.inst q.dm=0)) _) (Vg ⟨i.s.p,i.s.fh,i.inst⟩ (zE i.sd));exact vz this Z8
 refine(λhT=>⟨⟨i.s,iw (mn ⟨rfl,BN,λ_ _=>⟨⟨rfl,trivial,oF ⟨rfl,trivial,trivial⟩⟩,⟨⟨⟨i.s.p,i.s.fh,i.inst⟩,i.sd⟩,iw (tg ⟨rfl,⟨Cf,si⟩,λ_ _=>⟨hT,hT⟩⟩)⟩,⟨rfl,trivial,oF ⟨rfl,trivial,trivial⟩⟩,⟨⟨⟨i.s.p,i.s.fh,i.inst⟩,i.sd⟩,iw (tg ⟨rfl,⟨Cf,si⟩,λ_ _=>hT⟩)⟩⟩⟩)⟩,
  ⟨rfl,trivial,oF ⟨rfl,trivial,trivial⟩⟩,⟨i.s,iw (mn ⟨rfl,BN,λ_ _=>⟨⟨rfl,trivial,oF ⟨rfl,trivial,trivial⟩⟩,⟨⟨⟨i.s.p,i.s.fh,i.inst⟩,i.sd⟩,iw (tg ⟨rfl,⟨Cf,si⟩,λ_ _=>hT⟩)⟩⟩⟩)⟩⟩) ?_
 refine⟨⟨xN ⟨i.s.p,i.s.fh,i.inst⟩ (zE i.sd),zE i.sd⟩,rfl,rfl,⟨Pm _,Iv⟩,λ_ _=>⟨⟨h0,oM⟩,oM,b,by rw[hk];exact hb,⟨i.sd,b⟩,rfl,rfl,Ef.E9,λ_ _=>⟨b,rfl,rfl,oM,?_⟩⟩⟩;dsimp only;rw[DG];generalize iA L (zE i.sd)=l at*;generalize zZ (xN ⟨i.s.p,i.s.fh,i.inst⟩ (zE i.sd)) (zE i.sd)=bq at*;have qj:i.s.ei.set i.inst.toNat b=i.s.ei:=gJ (by rw[hk];exact hb);rw[qj];refine Cv.dp.mk (λc1=>Cv.dp.mk (λc2=>⟨⟨zE i.sd,bq.1.dm,l.1.dm⟩,rfl,rfl,rfl,trivial,λ_ _=>Cv.dp.mk (λc3=> ?_) (λc3=> ?_)⟩) (λc2=> ?_)) (λc1=> ?_)
 ·dsimp only at c3;rw[fc (by rw[c1,c2];simpa using c3)]at EW;rw[EW];exact⟨(),gg⟩
 ·dsimp only at c3;rw[eg (by rw[c1,c2];simpa using c3)]at EW;rw[EW];exact⟨(),gg⟩
 ·rw[fc (by rw[c1,c2];rfl)]at EW;rw[EW];exact⟨(),gg⟩
 ·rw[eg (by rw[c1];simp)]at EW;rw[EW];exact⟨(),gg⟩
def yVg:Kr.ok Tryz.prog 226:=gu mixed (dw z3o (dw ZF (dw z6c (dw US (dw m8 fg))))) 0 (λ_=>[]) (λ_=>[]) [0] Tryz.func226 xDm
def yHl (i:qd) (k:Nat):(i.add k).length=i.out.length:=by
 have:∀(l:List (Nat×Int)) (o:List Int),(l.foldl (λo y=>o.set y.1 (av.wrap (o.getD y.1 0+y.2))) o).length=o.length:=by
  intro l
  induction l with
  |nil=>intro o;rfl
  |cons x l ih=>intro o;rw[A7,ih,qm]
 exact this _ _
def z2m (l:List Int) (q:Int):(g9 l q).length<=l.length:=by
 rw[g9];split
 ·rw[Px];exact lh _
 ·exact mi _
def yKz (i:CM):(jB i).length<=i.l.length:=by
 have hq:i.qs.length=i.l.length:=by simp[CM.qs]
 rw[jB,<- hq]
 repeat' split
 ·exact z2m _ _
 ·rw[C9];split
  ·rw[rZ,yHl,vg.rs];split
   ·simp
   ·simp
  ·exact mi _
 ·rw[Cz];split
  ·rw[rZ,yHl];exact z2m _ _
  ·exact mi _
 ·exact mi _
def zSf {inst s:Int}:∀{os:List zK} {sh:List Int} {j:Nat} {o:zK} {k:Int},os[j]? =aw o->sh[j]? =aw k->qG inst s (os.take (j+1)) (sh.take (j+1))=qG inst s (os.take j) (sh.take j)++(if 0<k then[⟨o.id,inst,s,o.dm,k,o.dr-k⟩]else[])
 |[],_,_,_,_,h,_=>by simp at h
 |_::_,[],_,_,_,_,h=>by simp at h
 |o::os,k::sh,0,_,_,h,h2=>by
  cases h;cases h2;rw[ux,ux,EN,EN,EN,EN,qG];split<;>rfl
 |o::os,k::sh,j+1,o',k',h,h2=>by
  rw[ux,ux,qG,ux,ux,qG,zSf (os:=os) (sh:=sh) (j:=j) h h2];split<;>rfl
def zXs {inst s:Int}:∀(os:List zK) (sh:List Int),qG inst s (os.take sh.length) (sh.take sh.length)=qG inst s os sh
 |[],sh=>by simp
 |_::_,[]=>by simp[qG]
 |o::os,k::sh=>by
  rw[iC,ux,ux,qG,qG,zXs os sh]
def yHz (B:List (List zK)) (a b:List aI):jM B (a++b)=jM (jM B a) b:=JK
def sP (B:List (List zK)) (id q:Int):(jG B id q).1.length=B.length:=by
 rw[jG];split
 ·rfl
 ·simp
def gC:∀(fs:List aI) (B:List (List zK)),(jM B fs).length=B.length
 |[],B=>rfl
 |f::fs,B=>by
  show(jM (jG B f.id f.dr).1 fs).length=_;rw[gC fs,sP]
def y6g {p:ff} (h:p.check=0):gr p.least/\gr p.top/\gr p.part:=by
 have ok:=jE h;have:=ok.q1;have:=ok.q2;have:=ok.q3;have:=ok.q4;have:=ok.q5;have:=ok.q6;exact⟨⟨oM,oM⟩,⟨oM,oM⟩,⟨oM,oM⟩⟩
def y4s (i:AB) (h:Gg.dp i):ySh i:=by
 obtain⟨hR,hB,h0,h1,hq⟩:i.s.fv i.p i.B/\jb i.p i.B/\0<=i.inst/\i.inst<i.B.length/\gr i.q:=h;have wm:=xF i.p;have Ax:=hB.bl;have yo:=hR.bl;have ep:=hR.ep;obtain⟨k,hk⟩:∃k:Nat,i.inst=k:=⟨i.inst.toNat,oM⟩
 obtain⟨L,hL⟩:=z6 (l:=i.B) (i:=k) oM;obtain⟨b,hb⟩:=z6 (l:=i.s.ei) (i:=k) oM;have Ef:=hR.bk k b L hb hL;have DG:=z6k Ef i.sd;have CH:vm L (zE i.sd) (iA L (zE i.sd)).1.dm=i.os:=by rw[AB.os,WD,hk,om,zY hL]
 have qj:i.s.ei.set i.inst.toNat b=i.s.ei:=gJ (by rw[hk];exact hb);have aa9:i.os.length<=250:=by
  rw[<- CH];exact vz (Ij _ _) Ef.ox.2.2
 have Ot:i.sh.length<=i.os.length:=yKz _;obtain⟨k1,k2,k3⟩:=y6g hB.pc;have EV:∀(j:Nat) (n:Int),i.sh[j]? =aw n->n<=1000000:=by
  intro j n hn;cases hr:y6 (i.os.map (·.dr)) i.q with
  |false=>
   have:i.sh=[]:=yAr hr;rw[this]at hn;cases hn
  |true=>
   have:=(z0u hB.pc hr).bd j;have e:(jB ⟨i.p,i.os,i.q⟩).getD j 0=n:=zY hn;rw[e]at this;have:=(yFi (j9 hr).2.2.1 j).2;omega
 unfold ySh Qa Qb BD Fa fa ZL gF c8 nQ cZ fM z7 uD dI;refine⟨⟨h0,oM⟩,oM,b,by rw[hk];exact hb,⟨i.sd,b⟩,rfl,rfl,Ef.E9,λ_ _=> ?_⟩;refine⟨b,rfl,rfl,oM,b,by rw[qj,hk];exact hb,⟨b,L,i.sd,(iA L (zE i.sd)).1.dm⟩,rfl,by dsimp only;rw[DG],rfl,Ef,λ_ _=> ?_⟩;dsimp only
 try rw[DG]
 rw[qj,CH];refine⟨b,rfl,rfl,oM,⟨i.p,i.os,i.q⟩,by rw[ep],by rw[ep],by rw[ep],by rw[ep],by rw[ep],by rw[ep],by rw[ep],by rw[ep],by rw[ep],by rw[ep],by rw[ep],rfl,rfl,⟨Z9,hq,k1,k2,k3⟩,λ_ _=> ?_⟩;have esh:jB ⟨i.p,i.os,i.q⟩=i.sh:=rfl;rw[esh,qj,y8,gy];refine⟨(0,i.s),iw (ni ⟨rfl,λj=>j.2.fv i.p (jM i.B (i.fs j.1))/\j.1<=i.sh.length,λj=>i.sh.length-j.1,⟨hR,mi _⟩,λj hj=> ?_⟩)⟩;obtain⟨R9,EX⟩:=hj;obtain⟨j,sj⟩:=j;dsimp only at R9 EX ⊢;refine zH (λc=> ?_) (λc=> ?_)
 ·obtain⟨n,hn⟩:=z6 (l:=i.sh) (i:=j) oM;obtain⟨o,ho⟩:=z6 (l:=i.os) (i:=j) oM;have kr:=zSf (inst:=i.inst) (s:=zE i.sd) ho hn;have hoL:o∈L:=by
   have:=ku ho;rw[<- CH]at this;exact(wb.1 this).1
  have hoq:=(Ef.ox.1 o hoL).q;have hnb:=EV j n hn;refine⟨⟨oM,oM⟩,n,rm hn,zH (λc2=> ?_) (λc2=> ?_)⟩
  ·rw[fc (show 0<n from c2)]at kr;have Bz:(i.fs j).length<=j:=by
    have:∀(os:List zK) (sh:List Int),(qG i.inst (zE i.sd) os sh).length<=os.length:=by
     intro os
     induction os with
     |nil=>intro sh;exact lh 0
     |cons o os ih=>
      intro sh;cases sh with
      |nil=>exact mi _
      |cons k sh=>
       have:=ih sh;rw[qG];split
       ·simp only[iC];omega
       ·simp only[iC];omega
    exact vz (this _ _) (by rw[ng];omega)
   refine⟨⟨oM,oM⟩,o.id,o.side,o.dm,o.dr,o.top,y5m ho,⟨sj,i.p,jM i.B (i.fs j),o.id,n⟩,rfl,rfl,rfl,⟨R9,by dsimp only;rw[gC];omega⟩,λs' iK=>⟨by rw[gy];omega,(j+1,s'),qy oM,rfl,?_,⟨?_,Z9⟩,Z9,gg⟩⟩
   ·show ab y5 (qG i.inst (zE i.sd) (i.os.take (j+1)) (i.sh.take (j+1)))=_;rw[kr,jl,iq (by omega)];rfl
   ·show s'.fv i.p (jM i.B (qG i.inst (zE i.sd) (i.os.take (j+1)) (i.sh.take (j+1))));rw[kr,yHz];exact iK
  ·rw[eg (show ¬0<n from c2),oJ]at kr;refine⟨(j+1,sj),qy oM,rfl,?_,⟨?_,Z9⟩,Z9,gg⟩
   ·show ab y5 (qG i.inst (zE i.sd) (i.os.take (j+1)) (i.sh.take (j+1)))=_;rw[kr];rfl
   ·show sj.fv i.p (jM i.B (qG i.inst (zE i.sd) (i.os.take (j+1)) (i.sh.take (j+1))));rw[kr];exact R9
 ·have FP:j=i.sh.length:=by omega
  subst FP;have hfa:i.fs i.sh.length=kO i.p i.B i.inst (zE i.sd) i.q:=zXs _ _;rw[hfa]at R9 ⊢;exact⟨sj,rfl,rfl,R9⟩
def yPv:Gg.ok Tryz.prog 227:=gu mixed (dw US (dw xAz (dw yQd (dw U5 fg)))) 0 (λ_=>[]) (λi=>y7g i) [0] Tryz.func227 y4s
structure wS where
 dm:Int
 dr:Int
 fx:Bool
 ig:List aI
 deriving DecidableEq
def wX (t:wS):List D:=[.v (.int .i64 t.dm),.v (.int .i64 t.dr),.v (.bool t.fx),.ro 6 (t.ig.map y5)]
def m4 (p:ff) (B:List (List zK)) (inst:Int) (sd:Bool) (dm dr:Int):Option (wS×List (List zK)):=
 let n:=yZ p B inst (zE (!sd))
 if(n.2.2 && (aR sd dm n.1.dm && decide (1<=n.1.dr)))=au then
  if n.2.1=au then
   let f1:=kO p B n.1.a.inst n.1.a.side (min dr n.1.dr)
   let f2:=kO p (jM B f1) n.1.b.inst n.1.b.side (min dr n.1.dr)
   aw (⟨n.1.dm,min dr n.1.dr,au,f1++f2⟩,jM (jM B f1) f2)
  else
   let f:=kO p B inst (zE (!sd)) (min dr n.1.dr)
   aw (⟨n.1.dm,min dr n.1.dr,ar,f⟩,jM B f)
 else ax
structure y3w where
 steps:List wS
 left:Int
 B:List (List zK)
def EG (p:ff) (inst:Int) (sd:Bool) (dm:Int):Nat->List (List zK)->Int->y3w
 |0,B,q=>⟨[],q,B⟩
 |n+1,B,q=>if q<=0 then⟨[],q,B⟩else match m4 p B inst sd dm q with
  |none=>⟨[],q,B⟩
  |some (t,B')=>let r:=EG p inst sd dm n B' (q-t.dr);⟨t::r.steps,r.left,r.B⟩
def vH (p:ff) (B:List (List zK)) (inst:Int) (sd:Bool) (dm q:Int):y3w:=EG p inst sd dm q.toNat B q
structure np where
 s:gv
 p:ff
 B:List (List zK)
 inst:Int
 sd:Bool
 dm:Int
 q:Int
def np.r (i:np):y3w:=vH i.p i.B i.inst i.sd i.dm i.q
def SL:fy where
 ι:=np
 pat:=λi=>[.nm 0 0,zB i.inst,zB (zE i.sd),zB i.dm,zB i.q]
 pre:=λi=>[zF i.s]
 dp:=λi=>i.s.fv i.p i.B/\jb i.p i.B/\(0<=i.inst/\i.inst<i.B.length)/\1<=i.q/\i.q<=1000000
 alts:=λi=>[{o:=gv,res:=λ_=> .iZ [.own 1,zB i.r.left],post:=λs=>[zF s,.own 331 4 (i.r.steps.map wX)],rel:=λs=>s.fv i.p i.r.B}]
structure Fl where
 s:gv
 B:List (List zK)
 steps:List wS
 q:Int
def xHn:List gm:=[
 {ι:=Fl,du:=λj=>[(0,.nm 0 0),(12,.own 1),(4,zB j.q)],rows:=λj=>[zF j.s,.own 331 4 (j.steps.map wX)]},
 {ι:=Unit,du:=λ_=>[],rows:=λ_=>[],un:=3}]
def Zf (a:Fl->Nat) (b:Fl) (c:Fl) (d:np):Prop:=a b<a c/\dl (am 1 (iE d.s.p.dt))/\dl (am 1 (iE d.s.p.settle))
def Vz (a:AB):Prop:=a.s.fv a.p a.B/\jb a.p a.B/\0<=a.inst/\a.inst<(↑a.B.length:Int)/\(-9223372036854775808)<=a.q/\a.q<=9223372036854775807
def Zt (a:np) (b:Fl) (c:Fc):Prop:=∃(d:gv),a.r.left=b.q/\zF d=zF c.s/\ab wX a.r.steps=ab wX b.steps/\d.fv a.p a.r.B
def PE (a:AB):=(ab y5 (fM a))
def yAg (a:np):Prop:=∃(b:Fl),b.q=a.q/\Qa b.s.p a.s.p (QI b.s a.s (ab wX b.steps=[]/\∃(c:Fl->Prop),∃(d:Fl->Nat),c b/\∀(e:Fl),c e->dp (decide (e.q>0)) (∃(f:Bool),zE f=zE a.sd/\True/\fa (∃(h:Fc),h.inst=a.inst/\zE h.sd=zE !f/\zF h.s=zF e.s/\(h.s.fv h.p h.B/\jb h.p h.B/\0<=h.inst/\h.inst<(↑h.B.length:Int))/\fa (dp (!(yF h).snd.snd) (Zt a e h) (∃(k:SB),zE k.s=zE a.sd/\k.p=a.dm/\k.x=(yF h).fst.dm/\True/\fa (dp (!aR k.s k.p k.x) (Zt a e h) (dp (yF h).snd.fst (∃(m:AB),m.inst=(yF h).fst.a.inst/\zE m.sd=(yF h).fst.a.side/\m.q=min e.q (yF h).fst.dr/\zF m.s=zF h.s/\(Vz m)/\∀(n:gv),n.fv m.p (cZ m)->True/\(PE m).length*(48:Nat)<=(140737488355328:Nat)/\∃(p:AB),p.inst=(yF h).fst.b.inst/\zE p.sd=(yF h).fst.b.side/\p.q=min e.q (yF h).fst.dr/\zF p.s=zF n/\(Vz p)/\∀(q:gv),q.fv p.p (cZ p)->True/\((PE m).length+(PE p).length)*(48:Nat)<=(140737488355328:Nat)/\((ab wX e.steps).length+1)*(48:Nat)<=(140737488355328:Nat)/\∃(r:Fl),r.q=av.wrap (e.q-min e.q (yF h).fst.dr)/\zF r.s=zF q/\ab wX r.steps=ab wX e.steps++[[dI ((yF h).fst.dm),dI (min e.q (yF h).fst.dr),D.v (.bool (yF h).snd.fst),D.ro 6 (ab y5 (fM m)++ab y5 (fM p))]]/\c r/\Zf d r e a) (∃(m:Bool),zE m=zE a.sd/\True/\fa (dl (min e.q (yF h).fst.dr)/\∃(p:AB),p.inst=a.inst/\zE p.sd=zE !m/\p.q=min e.q (yF h).fst.dr/\zF p.s=zF h.s/\(Vz p)/\∀(q:gv),q.fv p.p (cZ p)->((ab wX e.steps).length+1)*(48:Nat)<=(140737488355328:Nat)/\∃(r:Fl),r.q=av.wrap (e.q-min e.q (yF h).fst.dr)/\zF r.s=zF q/\ab wX r.steps=ab wX e.steps++[[dI ((yF h).fst.dm),dI (min e.q (yF h).fst.dr),D.v (.bool (yF h).snd.fst),D.ro 6 (PE p)]]/\c r/\Zf d r e a)))))))) (∃(f:gv),a.r.left=e.q/\zF f=zF e.s/\ab wX a.r.steps=ab wX e.steps/\f.fv a.p a.r.B)))
def aB (a:np):Prop:=∃(b:gv),a.r.left=a.q/\Qa b.p a.s.p (QI b a.s (ab wX a.r.steps=[]/\b.fv a.p a.r.B))
def xFi (i:np):Prop:=
 dp (decide (i.inst>=0)) (dp (decide (i.inst<(↑i.s.ei.length:Int))) (dp (zE i.sd==1) (dp (decide (i.q>=1)) (dp (!decide (i.q<=1000000)) (aB i) (yAg i)) (aB i)) (dp (zE i.sd==2) (dp (decide (i.q>=1)) (dp (!decide (i.q<=1000000)) (aB i) (yAg i)) (aB i)) (aB i))) (aB i)) (aB i)
structure QOk (T:List jv) (q:Quote):Prop where
 a:0<=q.a.inst/\q.a.inst<T.length
 b:0<=q.b.inst/\q.b.inst<T.length
 sa:q.a.side=1\/q.a.side=2
 sb:q.b.side=1\/q.b.side=2
 ne:q.a.inst≠q.b.inst
 ha:(T.getD q.a.inst.toNat jw).has q.a.side=au
 hb:(T.getD q.b.inst.toNat jw).has q.b.side=au
 dr:q.dr=min ((T.getD q.a.inst.toNat jw).dr q.a.side) ((T.getD q.b.inst.toNat jw).dr q.b.side)
def z9q {T:List jv} {a b:Co} {less:Bool} {q:Quote} (h:q∈xm T a b less) (h1:0<=a.inst/\a.inst<T.length) (h2:0<=b.inst/\b.inst<T.length) (h3:a.side=1\/a.side=2) (h4:b.side=1\/b.side=2) (jr:a.inst≠b.inst):QOk T q/\q.a=a/\q.b=b:=by
 cases less
 all_goals
  simp only[xm,oL,↓reduceIte]at h;split at h
  ·rename_i hc;simp only[lj]at hc;rw[uc]at h;subst h;exact⟨⟨h1,h2,h3,h4,jr,hc.1.1,hc.1.2,rfl⟩,rfl,rfl⟩
  ·cases h
def y4u:∀n≤6,∀k<n+n*(n-1) / 2,n<=k->(jS n k n 0).1≠(jS n k n 0).2.1:=by decide
def yDj {p:ff} (hc:p.check=0) {k:Nat} (hk:k<p.count) (hs:(p.gj k).2.2=au):(p.gj k).1≠(p.gj k).2.1:=by
 have m6:=(jE hc).m6;have pj:=hk;rw[ff.count,fc hc]at pj;by_cases h:k<p.dt.length
 ·rw[ff.gj,eg (by omega),fc (by omega)]at hs;cases hs
 ·rw[ff.gj,eg (by omega),eg (by omega)];exact y4u p.dt.length m6 k pj oM
def yIg:∀n≤6,∀a<n,∀b<n,a<b->(yP n a:Int)+b-a-1>=n:=by decide
def zWk {p:ff} (hc:p.check=0) {a b:Nat} (Ds:a<b) (hb:b<p.dt.length):(p.dt.length:Int)<=(p.spread a b).1:=by
 have m6:=(jE hc).m6;have:=yIg p.dt.length m6 a oM b hb Ds;rw[ff.spread,eg (by omega)];simpa using this
def yGi {p:ff} (hc:p.check=0) {T:List jv} (hT:T.length=p.count) {inst:Int} {s:Int} (hs:s=1\/s=2) {q:Quote} (h:q∈kX ⟨p,T,inst⟩ s):QOk T q/\0<=inst/\inst<p.count/\
 (((p.gj inst).2.2=au/\q.a=⟨(p.gj inst).1,s⟩/\q.b=⟨(p.gj inst).2.1,3-s⟩)\/(inst<p.dt.length/\q.a.inst≠inst/\(p.dt.length:Int)<=q.a.inst)):=by
 rw[kX]at h;dsimp only at h;split at h
 ·cases h
 ·rename_i hn;have h0:0<=inst/\inst<p.count:=by omega
  obtain⟨k,rfl⟩:∃k:Nat,inst=k:=⟨inst.toNat,oM⟩
  have hk:k<p.count:=by omega
  have LW:=Vq hc;split at h
  ·rename_i hl;obtain⟨q',XM,rfl⟩:=oe.1 h;have hle:=dC hc hk;rcases hle with⟨_,l1,l2,l3,l4⟩|⟨e,_⟩
   ·obtain⟨ok,e1,e2⟩:=z9q XM Z9 Z9 Z9 hs (λe=>yDj hc hk hl e.symm);refine⟨⟨by dsimp only[aQ];omega,by dsimp only[aQ];omega,hs,by dsimp only[aQ];omega,yDj hc hk hl,?_,?_,?_⟩,h0.1,h0.2,.inl ⟨hl,rfl,rfl⟩⟩
    ·have:=ok.hb;rw[e2]at this;exact this
    ·have:=ok.ha;rw[e1]at this;exact this
    ·have:=ok.dr;rw[e1,e2]at this;dsimp only[aQ];rw[this];exact Int.min_comm _ _
   ·rw[e]at hl;cases hl
  ·rename_i hl;have hm:k<p.dt.length:=by
    rcases dC hc hk with⟨e,_⟩|⟨_,e⟩
    ·exact absurd e hl
    ·exact e
   rcases oK.1 h with h|h
   ·obtain⟨j,hj,h⟩:=A8.1 h;have hj:=CB.1 hj;rw[om]at hj;have s1:=mI hc (a:=k) (b:=k+1+j) oM oM;have s2:=zWk hc (a:=k) (b:=k+1+j) oM oM;have ec:((k:Int)+1+j)=((k+1+j:Nat):Int):=by omega
    rw[ec]at h;obtain⟨ok,e1,e2⟩:=z9q h Z9 Z9 hs hs Z9;exact⟨ok,h0.1,h0.2,.inr ⟨oM,by rw[e1];dsimp only;omega,by rw[e1];exact s2⟩⟩
   ·obtain⟨j,hj,h⟩:=A8.1 h;have hj:=CB.1 hj;rw[om]at hj;have s1:=mI hc (a:=j) (b:=k) oM oM;have s2:=zWk hc (a:=j) (b:=k) oM oM;obtain⟨ok,e1,e2⟩:=z9q h Z9 Z9 Z9 hs Z9;exact⟨ok,h0.1,h0.2,.inr ⟨oM,by rw[e1];dsimp only;omega,by rw[e1];exact s2⟩⟩
def zYl {s:Int}:∀(r:List Quote) (q:Quote),r.foldl (λb q=>if je s q.dm b.dm then q else b) q∈q::r
 |[],q=>iS
 |x::r,q=>by
  rw[A7];have:=zYl (s:=s) r (if je s x.dm q.dm then x else q);rcases jq.1 this with e|h
  ·rw[e];split
   ·exact jc _ iS
   ·exact iS
  ·exact jc _ (jc _ h)
def zKp {l:List Quote} {s:Int} (h:(zZ l s).2=au):(zZ l s).1∈l:=by
 cases l with
 |nil=>cases h
 |cons q r=>exact zYl r q
def WU (B:List (List zK)):Prop:=∀(k:Nat) (L:List zK),B[k]?=aw L->(∀o∈L,K2 o)/\(L.map (·.id)).Nodup/\L.length<=250
def gv.fv.ox {s:gv} {p:ff} {B:List (List zK)} (h:s.fv p B):WU B:=by
 intro k L hL;obtain⟨b,hb⟩:=z6 (l:=s.ei) (i:=k) (by rw[h.bl];exact(jf.1 hL).1);exact(h.bk k b L hb hL).ox
def Xa:∀{l:List zK} {v:Lv},(∀o∈l,K2 o)->v∈xx l->1<=v.dr/\v.dr<=1000000*l.length
 |[],v,_,h=>by cases h
 |o::l,v,ho,h=>by
  have h0:=(ho o iS).q;have ih:∀v∈xx l,1<=v.dr/\v.dr<=1000000*l.length:=λv hv=>Xa (λx hx=>ho x (jc _ hx)) hv
  rw[xx]at h;rw[iC];split at h
  ·rw[uc]at h;subst h;dsimp only;omega
  ·rename_i w ws e;rw[e]at ih;have hw:=ih w iS;split at h
   ·rcases jq.1 h with rfl|h
    ·dsimp only;omega
    ·have:=ih v (jc _ h);omega
   ·rcases jq.1 h with rfl|h
    ·dsimp only;omega
    ·have:=ih v h;omega
def z9p {L:List zK} {s:Int} (h:∀o∈L,K2 o) (hl:L.length<=250) (hb:(iA L s).2=au):1<=(iA L s).1.dr/\(iA L s).1.dr<=250000000:=by
 rw[iA]at hb ⊢;cases Dq:gY L s with
 |nil=>rw[Dq]at hb;cases hb
 |cons v vs=>
  dsimp only;have hm:v∈xx (L.filter λo=>decide (o.side=s)):=by rw[<- gY,Dq];exact iS
  have:=Xa (λo ho=>h o (wb.1 ho).1) hm;have:=Ij (λo:zK=>decide (o.side=s)) L;omega
def yPf {B:List (List zK)} {k:Nat} {L:List zK} (hL:B[k]? =aw L):(B.map qA).getD k jw=qA L:=zY (by rw[rf,hL];rfl)
def UY (L:List zK) {s:Int} (hs:s=1\/s=2):(qA L).has s=(iA L s).2/\(qA L).dr s=(iA L s).1.dr/\(qA L).dm s=(iA L s).1.dm:=by
 obtain⟨e1,e2,e3,e4,e5,e6⟩:=UR L;rcases hs with rfl|rfl
 ·exact⟨e3,e2,e1⟩
 ·exact⟨e6,e5,e4⟩
def yHc {p:ff} {B:List (List zK)} (h:jb p B) (ho:WU B) {inst:Int} (hi:0<=inst/\inst<B.length) {s:Int} (hs:s=1\/s=2) (hn:(yZ p B inst s).2.2=au):
 (1<=(yZ p B inst s).1.dr/\(yZ p B inst s).1.dr<=250000000)/\((yZ p B inst s).2.1=au->(yZ p B inst s).1∈kX ⟨p,B.map qA,inst⟩ s/\QOk (B.map qA) (yZ p B inst s).1)/\
 ((yZ p B inst s).2.1=ar->(iA (B.getD inst.toNat []) s).2=au/\(yZ p B inst s).1.dm=(iA (B.getD inst.toNat []) s).1.dm/\(yZ p B inst s).1.dr=(iA (B.getD inst.toNat []) s).1.dr):=by
 obtain⟨k,rfl⟩:∃k:Nat,inst=k:=⟨inst.toNat,oM⟩
 obtain⟨L,hL⟩:=z6 (l:=B) (i:=k) oM;have hLo:=ho k L hL;rw[yZ]at hn ⊢;rw[om,zY hL]at hn ⊢;split
 ·rename_i c;simp only[lj]at c;exact⟨z9p hLo.1 hLo.2.2 c.1,⟨λe=>(by cases e),λ_=>⟨c.1,rfl,rfl⟩⟩⟩
 ·rename_i c;rw[eg c]at hn;dsimp only at hn ⊢;have hm:=zKp hn;have ha:(zZ (xN ⟨p,B.map qA,k⟩ s) s).1∈kX ⟨p,B.map qA,k⟩ s:=(wb.1 hm).1;obtain⟨ok,_⟩:=yGi h.pc (by rw[gy];exact h.bl) hs ha;refine⟨?_,λ_=>⟨ha,ok⟩,λe=>by rw[hn]at e;cases e⟩;generalize (zZ (xN ⟨p,B.map qA,k⟩ s) s).1=q at ok;have a:=ok.a;have b:=ok.b;rw[gy]at a b;obtain⟨La,hLa⟩:=z6 (l:=B) (i:=q.a.inst.toNat) oM;obtain⟨Lb,hLb⟩:=z6 (l:=B) (i:=q.b.inst.toNat) oM;have e1:=ok.ha;have e2:=ok.hb;have e3:=ok.dr;rw[yPf hLa]at e1 e3;rw[yPf hLb]at e2 e3;rw[(UY La ok.sa).1]at e1;rw[(UY Lb ok.sb).1]at e2;rw[(UY La ok.sa).2.1,(UY Lb ok.sb).2.1]at e3;have:=z9p (ho _ _ hLa).1 (ho _ _ hLa).2.2 e1;have:=z9p (ho _ _ hLb).1 (ho _ _ hLb).2.2 e2;omega
def ySv {L:List zK} {id q:Int} {o:zK} (h:o∈(qM L id q).1):∃o'∈L,o.dm=o'.dm/\o.side=o'.side/\o.id=o'.id:=by
 rw[qM]at h;split at h
 ·exact⟨o,h,rfl,rfl,rfl⟩
 split at h
 ·exact⟨o,h,rfl,rfl,rfl⟩
 obtain⟨o',oG,e⟩:=N4.1 h;refine⟨o',oG,?_⟩;split at e
 ·split at e
  ·cases e
  ·cases e;exact⟨rfl,rfl,rfl⟩
 ·cases e;exact⟨rfl,rfl,rfl⟩
def jb.take {p:ff} {B:List (List zK)} (h:jb p B) (id q:Int):jb p (jG B id q).1:=by
 refine⟨h.pc,h.ps,by rw[sP];exact h.bl,λk L hL o ho=> ?_⟩;rw[jG]at hL;split at hL
 ·exact h.pr k L hL o ho
 ·rename_i j hj;dsimp only at hL;rcases a8 hL with⟨rfl,rfl⟩|⟨_,hL⟩
  ·obtain⟨o',oG,e,_⟩:=ySv ho;obtain⟨L',J6,_⟩:=fK hj;rw[zY J6]at oG;rw[e];exact h.pr k L' J6 o' oG
  ·exact h.pr k L hL o ho
def jb.takes {p:ff}:∀{fs:List aI} {B:List (List zK)},jb p B->jb p (jM B fs)
 |[],B,h=>h
 |f::fs,B,h=>jb.takes (fs:=fs) (h.take f.id f.dr)
def z5a (inst s:Int):∀(os:List zK) (sh:List Int),(qG inst s os sh).length<=os.length
 |[],sh=>lh 0
 |o::os,[]=>mi _
 |o::os,k::sh=>by
  have:=z5a inst s os sh;rw[qG];split
  ·simp only[iC];omega
  ·simp only[iC];omega
def rY {p:ff} {B:List (List zK)} (ho:WU B) (inst s q:Int):(kO p B inst s q).length<=250:=by
 refine vz (z5a _ _ _ _) (vz (Ij _ _) ?_);by_cases h:inst.toNat<B.length
 ·obtain⟨L,hL⟩:=z6 h;rw[zY hL];exact(ho _ _ hL).2.2
 ·rw[oc,ud (by omega)];exact mi _
def O6 {p:ff} {B:List (List zK)} {inst:Int} {sd:Bool} {dm q:Int} {t:wS} {B':List (List zK)} (hq:1<=q) (h:m4 p B inst sd dm q=aw (t,B')):1<=t.dr/\t.dr<=q:=by
 rw[m4]at h;dsimp only at h;split at h
 ·rename_i c;simp only[lj,tq]at c;split at h
  ·cases h;dsimp only;omega
  ·cases h;dsimp only;omega
 ·cases h
def z6g {p:ff} {inst:Int} {sd:Bool} {dm:Int}:∀(m n:Nat) (B:List (List zK)) (q:Int),q.toNat<=m->q.toNat<=n->EG p inst sd dm m B q=EG p inst sd dm n B q
 |0,0,B,q,_,_=>rfl
 |0,n+1,B,q,h,_=>by rw[EG,EG,fc (by omega)]
 |m+1,0,B,q,_,h=>by rw[EG,EG,fc (by omega)]
 |m+1,n+1,B,q,h1,h2=>by
  rw[EG,EG];split
  ·rfl
  ·rename_i hq;cases hs:m4 p B inst sd dm q with
   |none=>rfl
   |some x=>
    obtain⟨t,B'⟩:=x;have:=O6 oM hs;dsimp only;rw[z6g m n B' (q-t.dr) (by omega) (by omega)]
def PF {p:ff} {B:List (List zK)} {inst:Int} {sd:Bool} {dm q:Int} (h:q<=0\/m4 p B inst sd dm q=ax):vH p B inst sd dm q=⟨[],q,B⟩:=by
 rw[vH];cases hn:q.toNat with
 |zero=>rfl
 |succ n=>
  rw[EG];rcases h with h|h
  ·rw[fc h]
  ·rw[eg (by omega),h]
def YE {p:ff} {B:List (List zK)} {inst:Int} {sd:Bool} {dm q:Int} {t:wS} {B':List (List zK)} (hq:1<=q) (h:m4 p B inst sd dm q=aw (t,B')):
 vH p B inst sd dm q=⟨t::(vH p B' inst sd dm (q-t.dr)).steps,(vH p B' inst sd dm (q-t.dr)).left,(vH p B' inst sd dm (q-t.dr)).B⟩:=by
 have ht:=O6 hq h;rw[vH];cases hn:q.toNat with
 |zero=>omega
 |succ n=>
  rw[EG,eg (by omega),h];dsimp only;rw[z6g n (q-t.dr).toNat B' (q-t.dr) (by omega) (lh _)];rfl
end Sx
