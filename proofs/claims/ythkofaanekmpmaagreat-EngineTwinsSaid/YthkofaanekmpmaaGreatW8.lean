/- Texts of ours. No condition. -/
import Derived.Test.YthkofaanekmpmaaGreatW7
set_option linter.all false
open List renaming map->aa,replicate->ab,filter_eq_nil_iff->ac,take->ae,drop->af
open Sx.AObj renaming adt->ag,fro->aj,objs->ak,cells->am,own->ao,map->ap
open Bool renaming false->aq,true->ar
open Go.IntKind renaming i64->au
open Option renaming some->av,none->aw
open Go.Value renaming int->ax
open Exists renaming intro->ay
open And renaming intro->az
namespace Sx
set_option maxRecDepth 100000
open Go Cv Go.Proofs
def xC (a:DrI):=(a.b.dropF 1 a.id a.price)
def zIv (a:BkP) (b:DrI):Prop:=a.b.has2=b.b.has2/\ag Arena 3 zG a.b.a=zP b.b 1/\aa zB a.b.buys=aa zB b.b.buys/\aa zB a.b.sells=aa zB b.b.sells/\atE a.b.at_=zBr (ax au b.id) (atE b.b.at_)/\iE a.b.spare=iE b.b.spare/\(qF a)/\∀(c:Unit),True->(fU a)/\∃(d:Int),zE (aa zB a.b.buys) (xX a).toNat 1 1=av [dI d]/\∃(e:ArN),e.n=d/\ag Arena 3 zG e.a=ag Arena 3 zG a.b.a/\True/\∀(f:Unit),True->cnd ((e.a.qAt e.n).count==0) (((iE a.b.spare).length+1)*(8:Nat)<=(140737488355328:Nat)/\∃(g:yUw),(↑g.i:Int)=(xX a)/\(↑g.j:Int)=au.wrap ((xX a)+1)/\g.els=aa zB a.b.buys/\(g.i<g.j/\g.j<=g.els.length)/\∀(h:Unit),True->dh ((1:Int))/\∃(j:Unit),(xC b).top1=a.b.top1/\(xC b).top2=a.b.top2/\(xC b).has1=a.b.has1/\(xC b).has2=a.b.has2/\ag Arena 3 zG (xC b).a=ag Arena 3 zG e.a/\atE (xC b).at_=atE a.b.at_/\aa zB (xC b).buys=ae g.i g.els++af g.j g.els/\aa zB (xC b).sells=aa zB a.b.sells/\iE (xC b).spare=iE a.b.spare++[[dI d]]/\True) (∃(g:Unit),(xC b).top1=a.b.top1/\(xC b).top2=a.b.top2/\(xC b).has1=a.b.has1/\(xC b).has2=a.b.has2/\ag Arena 3 zG (xC b).a=ag Arena 3 zG e.a/\atE (xC b).at_=atE a.b.at_/\aa zB (xC b).buys=aa zB a.b.buys/\aa zB (xC b).sells=aa zB a.b.sells/\iE (xC b).spare=iE a.b.spare/\True)
def zIi (a:DrI):Prop:=∃(b:BkP),dh ((1:Int))/\b.price=a.price/\b.b.top1=a.b.top1/\b.b.top2=a.b.top2/\b.b.has1=a.b.has1/\zIv b a
def yDi (i:DrI):Prop:=
 (∀(a:Value×List D),a∈atE i.b.at_->like (ax au i.id) a.fst=ar)/\cnd i.b.has1 (cnd (i.b.top1==i.id) (∃(a:BkP),dh ((1:Int))/\a.price=i.price/\a.b.top1=i.b.top1/\a.b.top2=i.b.top2/\a.b.has1=aq/\zIv a i) (zIi i)) (zIi i)
def xB (a:DrI):=(a.b.dropF 2 a.id a.price)
def zJr (a:BkP) (b:DrI):Prop:=ag Arena 3 zG a.b.a=zP b.b 1/\aa zB a.b.buys=aa zB b.b.buys/\aa zB a.b.sells=aa zB b.b.sells/\atE a.b.at_=zBr (ax au b.id) (atE b.b.at_)/\iE a.b.spare=iE b.b.spare/\(qF a)/\∀(c:Unit),True->(fP a)/\∃(d:Int),zE (aa zB a.b.sells) (xW a).toNat 1 1=av [dI d]/\∃(e:ArN),e.n=d/\ag Arena 3 zG e.a=ag Arena 3 zG a.b.a/\True/\∀(f:Unit),True->cnd ((e.a.qAt e.n).count==0) (((iE a.b.spare).length+1)*(8:Nat)<=(140737488355328:Nat)/\∃(g:yUw),(↑g.i:Int)=(xW a)/\(↑g.j:Int)=au.wrap ((xW a)+1)/\g.els=aa zB a.b.sells/\(g.i<g.j/\g.j<=g.els.length)/\∀(h:Unit),True->dh ((2:Int))/\∃(j:Unit),(xB b).top1=a.b.top1/\(xB b).top2=a.b.top2/\(xB b).has1=a.b.has1/\(xB b).has2=a.b.has2/\ag Arena 3 zG (xB b).a=ag Arena 3 zG e.a/\atE (xB b).at_=atE a.b.at_/\aa zB (xB b).buys=aa zB a.b.buys/\aa zB (xB b).sells=ae g.i g.els++af g.j g.els/\iE (xB b).spare=iE a.b.spare++[[dI d]]/\True) (∃(g:Unit),(xB b).top1=a.b.top1/\(xB b).top2=a.b.top2/\(xB b).has1=a.b.has1/\(xB b).has2=a.b.has2/\ag Arena 3 zG (xB b).a=ag Arena 3 zG e.a/\atE (xB b).at_=atE a.b.at_/\aa zB (xB b).buys=aa zB a.b.buys/\aa zB (xB b).sells=aa zB a.b.sells/\iE (xB b).spare=iE a.b.spare/\True)
def zId (a:DrI):Prop:=∃(b:BkP),dh ((2:Int))/\b.price=a.price/\b.b.top1=a.b.top1/\b.b.top2=a.b.top2/\b.b.has1=a.b.has1/\b.b.has2=a.b.has2/\zJr b a
def yHq (i:DrI):Prop:=
 (∀(a:Value×List D),a∈atE i.b.at_->like (ax au i.id) a.fst=ar)/\cnd i.b.has2 (cnd (i.b.top2==i.id) (∃(a:BkP),dh ((2:Int))/\a.price=i.price/\a.b.top1=i.b.top1/\a.b.top2=i.b.top2/\a.b.has1=i.b.has1/\a.b.has2=aq/\zJr a i) (zId i)) (zId i)
def zDx (a:FlI):Prop:=aa zB a.b.buys=aa zB a.b.buys/\dh (aa zB a.b.sells)/\dh (atE a.b.at_)/\dh (iE a.b.spare)/\True
def zGv (a:Int) (b:FlI) (c:Int) (d:Int):Prop:=∃(e:ArN),e.n=a/\ag Arena 3 zG e.a=ag Arena 3 zG b.b.a/\e.a.slots.length<=1000000/\∀(f:Unit),True->∃(g:Unit),(dQ b.L b.id).id=b.id/\(dQ b.L b.id).side=c/\(dQ b.L b.id).price=d/\(dQ b.L b.id).qty=(e.a.getF e.n).fst.qty/\(dQ b.L b.id).top=(e.a.getF e.n).fst.top/\wS b.L b.id=ar/\dh b.b.top1/\dh b.b.top2/\dh b.b.has1/\dh b.b.has2/\ag Arena 3 zG b.b.a=ag Arena 3 zG e.a/\zDx b
def sY (a:FlI) (b:Int) (c:Int) (d:Int) (e:Bool):Prop:=kQ (ax au a.id) (atE a.b.at_)=av [dI b,dI c,dI d]/\e=ar\/kQ (ax au a.id) (atE a.b.at_)=aw/\[dI b,dI c,dI d]=[dI 0,dI 0,dI 0]/\e=aq
def yEc (i:FlI):Prop:=
 (∀(a:Value×List D),a∈atE i.b.at_->like (ax au i.id) a.fst=ar)/\∃(a:Bool),∃(b:Int),∃(c:Int),∃(d:Int),(sY i b c d a)/\cnd (!a) (∃(e:Unit),(dQ i.L i.id).id=0/\(dQ i.L i.id).side=0/\(dQ i.L i.id).price=0/\(dQ i.L i.id).qty=0/\(dQ i.L i.id).top=aq/\wS i.L i.id=aq/\dh i.b.top1/\dh i.b.top2/\dh i.b.has1/\dh i.b.has2/\dh (ag Arena 3 zG i.b.a)/\zDx i) ((zGv d i b c)/\d=d/\True/\zGv d i b c)
def zAv (a:Book) (b:FlI):Prop:=aa zB a.buys=aa zB b.b.buys/\aa zB a.sells=aa zB b.b.sells/\atE a.at_=atE b.b.at_/\iE a.spare=iE b.b.spare/\a.Rep (x7 b.L b.id b.qty).fst
def vL (a:DrJ):=(a.i.b.dropF (zC a.s) a.i.id a.i.price)
def zPe (a:FlI) (b:Int) (c:Int) (d:Int) (e:ArN):Prop:=∃(f:DrJ),f.i.id=a.id/\zC f.s=b/\f.i.price=c/\f.i.slot=d/\f.i.b.top1=a.b.top1/\f.i.b.top2=a.b.top2/\f.i.b.has1=a.b.has1/\f.i.b.has2=a.b.has2/\ag Arena 3 zG f.i.b.a=ag Arena 3 zG e.a/\aa zB f.i.b.buys=aa zB a.b.buys/\aa zB f.i.b.sells=aa zB a.b.sells/\atE f.i.b.at_=atE a.b.at_/\iE f.i.b.spare=iE a.b.spare/\(((f.i.b.a.slots.length<=1000000/\f.i.b.a.queues.length<=1000000)/\f.i.b.buys.length<=1000000/\f.i.b.sells.length<=1000000/\f.i.b.spare.length<=1000000)/\zY (zC f.s) (f.i.b.rungs (zC f.s)) f.i.price<(f.i.b.rungs (zC f.s)).length)/\∀(g:Unit),True->∃(h:Book),(x7 a.L a.id a.qty).snd=0/\h.top1=(vL f).top1/\h.top2=(vL f).top2/\h.has1=(vL f).has1/\h.has2=(vL f).has2/\ag Arena 3 zG h.a=ag Arena 3 zG (vL f).a/\aa zB h.buys=aa zB (vL f).buys/\aa zB h.sells=aa zB (vL f).sells/\atE h.at_=atE (vL f).at_/\iE h.spare=iE (vL f).spare/\h.Rep (x7 a.L a.id a.qty).fst
def zNt (a:Int) (b:TkI) (c:FlI) (d:Int) (e:Int):Prop:=∃(f:ArN),f.n=a/\ag Arena 3 zG f.a=ag Arena 3 zG (b.a.takeF b.n b.qty).fst/\f.a.slots.length<=1000000/\∀(g:Unit),True->cnd (!(f.a.getF f.n).snd) (zPe c d e a f) (cnd ((f.a.getF f.n).fst.id !=c.id) (zPe c d e a f) (∃(h:Book),(x7 c.L c.id c.qty).snd=0/\h.top1=c.b.top1/\h.top2=c.b.top2/\h.has1=c.b.has1/\h.has2=c.b.has2/\ag Arena 3 zG h.a=ag Arena 3 zG f.a/\zAv h c))
def ySe (i:FlI):Prop:=
 (∀(a:Value×List D),a∈atE i.b.at_->like (ax au i.id) a.fst=ar)/\∃(a:Bool),∃(b:Int),∃(c:Int),∃(d:Int),(sY i b c d a)/\cnd (!a) (∃(e:Book),(x7 i.L i.id i.qty).snd=26/\e.top1=i.b.top1/\e.top2=i.b.top2/\e.has1=i.b.has1/\e.has2=i.b.has2/\ag Arena 3 zG e.a=ag Arena 3 zG i.b.a/\zAv e i) (∃(e:TkI),e.n=d/\e.qty=i.qty/\ag Arena 3 zG e.a=ag Arena 3 zG i.b.a/\(e.a.slots.length<=1000000/\∀(k:Nat) (s:Slot),e.a.slots[k]?=av s->s.used=ar->(0<=s.queue/\s.queue<(↑e.a.queues.length:Int))/\s.qty<=1000000/\(s.ahead=(-1)\/0<=s.ahead/\s.ahead<(↑e.a.slots.length:Int)/\s.ahead≠(↑k:Int))/\(s.back=(-1)\/0<=s.back/\s.back<(↑e.a.slots.length:Int)/\s.back≠(↑k:Int)))/\∀(f:Unit),True->cnd ((e.a.takeF e.n e.qty).snd !=0) (∃(g:Book),(x7 i.L i.id i.qty).snd=(e.a.takeF e.n e.qty).snd/\g.top1=i.b.top1/\g.top2=i.b.top2/\g.has1=i.b.has1/\g.has2=i.b.has2/\ag Arena 3 zG g.a=ag Arena 3 zG (e.a.takeF e.n e.qty).fst/\zAv g i) ((zNt d e i b c)/\d=d/\True/\zNt d e i b c))
def y1e (i:AtI):Prop:=
 ∃(a:Int),a=zC aq/\True/\∀(b:Unit),True->cnd (kA a) (∃(c:Unit),dh i.b.top1/\dh i.b.top2/\dh i.b.has1/\dh i.b.has2/\dh (ag Arena 3 zG i.b.a)/\dh (aa zB i.b.buys)/\dh (aa zB i.b.sells)/\dh (atE i.b.at_)/\dh (iE i.b.spare)/\aa vH (atL i.L (zC aq) i.price)=[]/\True) (∃(c:BkP),1=zC aq/\c.price=i.price/\c.b.top1=i.b.top1/\c.b.top2=i.b.top2/\c.b.has1=i.b.has1/\c.b.has2=i.b.has2/\ag Arena 3 zG c.b.a=ag Arena 3 zG i.b.a/\aa zB c.b.buys=aa zB i.b.buys/\aa zB c.b.sells=aa zB i.b.sells/\atE c.b.at_=atE i.b.at_/\iE c.b.spare=iE i.b.spare/\(qF c)/\∀(d:Unit),True->cnd (!kZ 1 (c.b.rungs 1) c.price) (∃(e:Unit),i.b.top1=c.b.top1/\i.b.top2=c.b.top2/\i.b.has1=c.b.has1/\i.b.has2=c.b.has2/\ag Arena 3 zG i.b.a=ag Arena 3 zG c.b.a/\aa zB i.b.buys=aa zB c.b.buys/\aa zB i.b.sells=aa zB c.b.sells/\atE i.b.at_=atE c.b.at_/\iE i.b.spare=iE c.b.spare/\aa vH (atL i.L (zC aq) i.price)=[]/\True) ((fU c)/\∃(e:Int),∃(f:Int),zE (aa zB c.b.buys) (xX c).toNat 0 2=av [dI e,dI f]/\∃(g:BoI),g.s=zC aq/\g.r.price=e/\g.r.queue=f/\g.b.top1=c.b.top1/\g.b.top2=c.b.top2/\g.b.has1=c.b.has1/\g.b.has2=c.b.has2/\ag Arena 3 zG g.b.a=ag Arena 3 zG c.b.a/\aa zB g.b.buys=aa zB c.b.buys/\aa zB g.b.sells=aa zB c.b.sells/\atE g.b.at_=atE c.b.at_/\iE g.b.spare=iE c.b.spare/\g.b.a.listOk g.r.queue g.l/\∀(h:Unit),True->∃(j:Unit),z7 i.b=z7 g.b/\aa vH (atL i.L (zC aq) i.price)=aa vH g.ords/\True))
def y1d (i:AtI):Prop:=
 ∃(a:Int),a=zC ar/\True/\∀(b:Unit),True->cnd (kA a) (∃(c:Unit),dh i.b.top1/\dh i.b.top2/\dh i.b.has1/\dh i.b.has2/\dh (ag Arena 3 zG i.b.a)/\dh (aa zB i.b.buys)/\dh (aa zB i.b.sells)/\dh (atE i.b.at_)/\dh (iE i.b.spare)/\aa vH (atL i.L (zC ar) i.price)=[]/\True) (∃(c:BkP),2=zC ar/\c.price=i.price/\c.b.top1=i.b.top1/\c.b.top2=i.b.top2/\c.b.has1=i.b.has1/\c.b.has2=i.b.has2/\ag Arena 3 zG c.b.a=ag Arena 3 zG i.b.a/\aa zB c.b.buys=aa zB i.b.buys/\aa zB c.b.sells=aa zB i.b.sells/\atE c.b.at_=atE i.b.at_/\iE c.b.spare=iE i.b.spare/\(qF c)/\∀(d:Unit),True->cnd (!kZ 2 (c.b.rungs 2) c.price) (∃(e:Unit),i.b.top1=c.b.top1/\i.b.top2=c.b.top2/\i.b.has1=c.b.has1/\i.b.has2=c.b.has2/\ag Arena 3 zG i.b.a=ag Arena 3 zG c.b.a/\aa zB i.b.buys=aa zB c.b.buys/\aa zB i.b.sells=aa zB c.b.sells/\atE i.b.at_=atE c.b.at_/\iE i.b.spare=iE c.b.spare/\aa vH (atL i.L (zC ar) i.price)=[]/\True) ((fP c)/\∃(e:Int),∃(f:Int),zE (aa zB c.b.sells) (xW c).toNat 0 2=av [dI e,dI f]/\∃(g:BoI),g.s=zC ar/\g.r.price=e/\g.r.queue=f/\g.b.top1=c.b.top1/\g.b.top2=c.b.top2/\g.b.has1=c.b.has1/\g.b.has2=c.b.has2/\ag Arena 3 zG g.b.a=ag Arena 3 zG c.b.a/\aa zB g.b.buys=aa zB c.b.buys/\aa zB g.b.sells=aa zB c.b.sells/\atE g.b.at_=atE c.b.at_/\iE g.b.spare=iE c.b.spare/\g.b.a.listOk g.r.queue g.l/\∀(h:Unit),True->∃(j:Unit),z7 i.b=z7 g.b/\aa vH (atL i.L (zC ar) i.price)=aa vH g.ords/\True))
def sN {L:List zI} (h:(L.map (·.id)).Nodup) {o:zI} (ho:o∈L):dQ L o.id=o:=by
 induction L with
 |nil=>cases ho
 |cons x L ih=>
  rw[y6i,y8k]at h;rw[dQ,xBw];rcases y6o.1 ho with rfl|ho
  ·rw[y6k rfl];rfl
  ·have:x.id≠o.id:=λe=>h.1 (e▸y6x (f:=(·.id)) ho)
   rw[y6g this];exact ih h.2 ho
def mW {α β:Type} {f g:α->Option β}:∀{l:List α},(∀x∈l,f x=g x)->l.filterMap f=l.filterMap g
 |[],_=>rfl
 |x::l,h=>by rw[List.filterMap_cons,List.filterMap_cons,h x y5z,mW λy hy=>h y (y6b _ hy)]
def yVf {L:List zI} {id:Int} (h:wS L id=aq):dQ L id=yTs:=by
 rw[dQ];have:L.find? (λo=>decide (o.id=id))=aw:=by
  rw[List.find?_eq_none];intro o ho;rw[wS,xBy]at h;exact h o ho
 rw[this];rfl
structure Told (b:Book) (Q:List (List Nat)) (id:Int) (s:Int) (r:xN) (k:Nat):Prop where
 hs:s=1\/s=2
 hr:r∈b.rungs s
 hk:k∈xD Q r
 e:pget b.at_ id=av ⟨s,r.price,k⟩
 ident:(b.a.slotAt k).id=id
 get:dQ (b.flat Q) id=vK b.a s r.price k
 has:wS (b.flat Q) id=ar
def yLk {b:Book} {Q:List (List Nat)} {s:Int} (hs:s=1\/s=2) {r:xN} (hr:r∈b.rungs s) {k:Nat} (hk:k∈xD Q r):vK b.a s r.price k∈b.flat Q:=
 flat_mem hs (y8n.2 ⟨r,hr,y6x hk⟩)
def Book.Core.told {b:Book} {Q:List (List Nat)} (c:b.Core Q (-1)) (id:Int):(pget b.at_ id=aw/\wS (b.flat Q) id=aq)\/∃s r k,Told b Q id s r k:=by
 cases hg:pget b.at_ id with
 |none=>
  have:=zHj hg;rw[c.keysP.mem_iff,<- hasId_iff]at this;exact .inl ⟨rfl,by simpa using this⟩
 |some x=>
  obtain⟨k,r,hs,hr,hk,hx,hid⟩:=c.plcI (eZ hg);have hm:=yLk hs hr hk;have hget:=sN c.ids hm;have e:(vK b.a x.side r.price k).id=id:=hid;rw[e]at hget;exact .inr ⟨x.side,r,k,hs,hr,hk,by rw[hg];exact congrArg av hx,hid,hget,hasId_iff.2 (by rw[<- e];exact y6x hm)⟩
def Told.only {b:Book} {Q:List (List Nat)} (c:b.Core Q (-1)) {id s:Int} {r:xN} {k:Nat} (h:Told b Q id s r k) {s':Int} (hs':s'=1\/s'=2) {r':xN} (hr':r'∈b.rungs s') {j:Nat} (hj:j∈xD Q r'):(b.a.slotAt j).id=id↔j=k:=by
 constructor
 ·intro e;have h1:=c.plc hs' hr' hj;have h2:=c.plc h.hs h.hr h.hk;rw[e]at h1;rw[h.ident]at h2;have:=congrArg Place.slot (zLv c.keys h1 h2);dsimp only at this;omega
 ·rintro rfl;exact h.ident
def Book.Core.less {b:Book} {Q:List (List Nat)} (c:b.Core Q (-1)) (ht:b.Tops (b.flat Q)) {id s:Int} {r:xN} {k:Nat} (h:Told b Q id s r k) {q:Int} (hq:1<=q/\q<(b.a.slotAt k).qty):
 (b.a.takeF k q).2=0/\({b with a:=(b.a.takeF k q).1}:Book).Rep (gB (b.flat Q) id q)/\(b.a.takeF k q).1.slots.length=250/\(b.a.takeF k q).1.getF k=((((b.a.takeF k q).1.slotAt k)).ent,ar)/\((b.a.takeF k q).1.slotAt k).id=id:=by
 obtain⟨t1,t2,t3⟩:=c.wf.take (c.get h.hs h.hr) h.hk (q:=q) ⟨hq.1,oM⟩;rw[y5t (by omega)]at t3;obtain⟨w,t4,t5⟩:=t3;have hent:∀j,((b.a.takeF k q).1.slotAt j).ent=if j=k then{(b.a.slotAt k).ent with qty:=(b.a.slotAt k).qty-q}else(b.a.slotAt j).ent:=by
  intro j;split
  ·rename_i e;rw[e,t4];rfl
  ·rename_i e;exact(t2 j e).1
 have hid:∀j,((b.a.takeF k q).1.slotAt j).id=(b.a.slotAt j).id:=by
  intro j;have:=congrArg Ent.id (hent j);split at this
  ·rename_i e;rw[e]at this ⊢;exact this
  ·exact this
 have hflat:({b with a:=(b.a.takeF k q).1}:Book).flat Q=gB (b.flat Q) id q:=by
  have side:∀s',s'=1\/s'=2->({b with a:=(b.a.takeF k q).1}:Book).sideL Q s'=gB (b.sideL Q s') id q:=by
   intro s' hs';rw[gB,Book.sideL,Book.sideL,List.filterMap_flatMap];refine xE λr' hr'=> ?_
   rw[Book.rOrds,Book.rOrds,List.filterMap_map];have:(xD Q r').filterMap (λj=>av (vK (b.a.takeF k q).1 s' r'.price j))=(xD Q r').map (vK (b.a.takeF k q).1 s' r'.price):=by rw[<- List.filterMap_eq_map];rfl
   refine this.symm.trans (mW λj hj=> ?_);simp only[Function.comp,vK,yHc,hent];have hon:=h.only c hs' hr' hj;by_cases e:j=k
   ·subst e;rw[y5v rfl];refine((y5v (show(b.a.slotAt j).ent.id=id from h.ident)).trans (y5t λe=> ?_)).symm;have e:(b.a.slotAt j).qty=q:=e;omega
   ·rw[y5t e];exact(y5t (λe2=>e (hon.1 e2))).symm
  rw[Book.flat,side 1 (.inl rfl),side 2 (.inr rfl),Book.flat,gB,gB,gB,List.filterMap_append]
 have hu:(b.a.takeF k q).1.usedAt k=ar:=by
  obtain⟨hk2,⟨_,_,h2⟩,h3⟩:=w.toWf0.mem (c.get h.hs h.hr) h.hk;have hlt:=w.len;simp only[Arena.usedAt,y6h,y7i,y6m];exact⟨oM,oM,h2.used⟩
 refine⟨t1,⟨Q,c.flag w hid,⟨λo ho=> ?_,λs' hs' hh=> ?_⟩,hflat.symm⟩,w.len,by rw[Arena.getF,y5v hu,y6m],by rw[hid,h.ident]⟩
 ·obtain⟨o',ho',e⟩:=xBa.1 ho;have:=ht.fl o' ho';split at e
  ·split at e
   ·cases e
   ·cases e;exact this
  ·cases e;exact this
 ·obtain⟨o,ho,o1,o2⟩:=ht.th s' hs' hh;by_cases e:o.id=id
  ·refine⟨{o with qty:=o.qty-q},xBa.2 ⟨o,ho,?_⟩,o1,o2⟩;have hg:=sN c.ids ho;rw[e,h.get]at hg;rw[y5v e,y5t (λe2=>by
    rw[<- hg]at e2;have:(b.a.slotAt k).qty=q:=e2;omega)]
  ·exact⟨o,xBa.2 ⟨o,ho,y5t e⟩,o1,o2⟩
def z7j:∀{l:List (Int×Place)} {k:Int},(l.map (·.1)).Nodup->nO k l=l.filter λx=> !decide (x.1=k)
 |[],k,_=>rfl
 |(a,b)::l,k,h=>by
  rw[y6i,y8k]at h;rw[nO];by_cases e:k=a
  ·subst e;rw[y5v rfl,xAs (by simp)];symm;rw[xBm];intro x hx;have:x.1≠k:=λe=>h.1 (e▸y6x (f:=(·.1)) hx)
   simp[this]
  ·rw[y5t e,xAr (by simp[Ne.symm e]),z7j h.2]
def zFi {l:List Nat} (h:l.Nodup) (k:Nat):l.erase k=l.filter λj=> !decide (j=k):=by
 rw[h.erase_eq_filter];refine List.filter_congr λj _=> ?_
 simp[bne,BEq.beq]
def yDc {s:Int} {l:List xN} (hs:l.Pairwise λr r'=>btr s r.price r'.price=ar) {R1 R2:List xN} {r:xN} (hl:l=R1++r::R2):zY s l r.price=R1.length:=by
 subst hl;rw[List.pairwise_append]at hs;refine pP (by simp) (λk hk x hx=> ?_) (λx hx=> ?_)
 ·rw[y8o hk]at hx;exact hs.2.2 x (y6e hx) r y5z
 ·rw[y7x (y6p _),xBh]at hx;cases hx;exact zAu _ _
def yKe (b:Book) (id:Int) {s:Int} (hs:s=1\/s=2):(b.unhas s id).a=b.a/\(b.unhas s id).buys=b.buys/\(b.unhas s id).sells=b.sells/\(b.unhas s id).spare=b.spare/\∀s',s'=1\/s'=2->(b.unhas s id).topI s'=b.topI s'/\(b.unhas s id).hasF s'=if s'=s/\b.topI s=id then aq else b.hasF s':=by
 rw[Book.unhas];by_cases hc:b.hasF s=ar/\b.topI s=id
 ·rw[y5v hc];rcases hs with rfl|rfl
  ·exact(rF4 (λs' h=>by rcases h with rfl|rfl;exact⟨rfl,(y5v ⟨rfl,hc.2⟩).symm⟩;exact⟨rfl,(y5t (λe=>absurd e.1 Z8)).symm⟩))
  ·exact(rF4 (λs' h=>by rcases h with rfl|rfl;exact⟨rfl,(y5t (λe=>absurd e.1 Z8)).symm⟩;exact⟨rfl,(y5v ⟨rfl,hc.2⟩).symm⟩))
 ·rw[y5t hc];refine(rF4 (λs' h=>⟨rfl,?_⟩));split
  ·rename_i e;rw[e.1];cases hh:b.hasF s with
   |false=>rfl
   |true=>exact absurd ⟨hh,e.2⟩ hc
  ·rfl
def Book.Core.close {b:Book} {Q:List (List Nat)} {s:Int} (hs:s=1\/s=2) {r:xN} {R1 R2:List xN} (hr:b.rungs s=R1++r::R2) (c:b.Core Q r.queue) (he:xD Q r=[]) {b':Book} (hb:b'=({b with spare:=b.spare++[r.queue]}:Book).setR s (R1++R2)):
 b'.Core Q (-1)/\b'.flat Q=b.flat Q:=by
 obtain⟨g1,g2⟩:=zNz ({b with spare:=b.spare++[r.queue]}:Book) hs (R1++R2);rw[<- hb]at g1 g2;have ha:b'.a=b.a:=by rw[hb];rcases hs with rfl|rfl<;>rfl
 have hat:b'.at_=b.at_:=by rw[hb];rcases hs with rfl|rfl<;>rfl
 have hsp:b'.spare=b.spare++[r.queue]:=by rw[hb];rcases hs with rfl|rfl<;>rfl
 have hqs:b'.qs.Perm b.qs:=by
  rw[hb];rcases hs with rfl|rfl
  ·have hr:b.buys=R1++r::R2:=hr;show((R1++R2).map (·.queue)++b.sells.map (·.queue)++(b.spare++[r.queue])).Perm (b.buys.map (·.queue)++b.sells.map (·.queue)++b.spare)
   rw[hr,<- y6a];refine(xAf _ _).trans ?_;simp only[y6d,y6i,y6a,y7l];exact y6j.symm
  ·have hr:b.sells=R1++r::R2:=hr;show(b.buys.map (·.queue)++(R1++R2).map (·.queue)++(b.spare++[r.queue])).Perm (b.buys.map (·.queue)++b.sells.map (·.queue)++b.spare)
   rw[hr,<- y6a];refine(xAf _ _).trans ?_;simp only[y6d,y6i,y6a,y7l];refine .trans ?_ (List.Perm.append_left _ y6j.symm);exact y6j.symm
 have hside:∀s',s'=1\/s'=2->b'.sideL Q s'=b.sideL Q s':=by
  intro s' hs';have ho:∀x,b'.rOrds Q s' x=b.rOrds Q s' x:=λx=>by rw[Book.rOrds,Book.rOrds,ha]
  rw[Book.sideL,Book.sideL];by_cases e:s'=s
  ·subst e;rw[g1,hr,y7r,y7r,y7o,xE (λx _=>ho x),xE (l:=R2) (λx _=>ho x)];rw[show b.rOrds Q s' r=[]by rw[Book.rOrds,he];rfl,y8j]
  ·rw[g2 s' e hs'];exact xE λx _=>ho x
 have hplc:∀s',s'=1\/s'=2->b'.plcs Q s'=b.plcs Q s':=by
  intro s' hs';rw[Book.plcs,Book.plcs,ha];by_cases e:s'=s
  ·subst e;rw[g1,hr,y7r,y7r,y7o,he,y9l,y8j]
  ·rw[g2 s' e hs'];rfl
 have hflat:b'.flat Q=b.flat Q:=by rw[Book.flat,Book.flat,hside 1 (.inl rfl),hside 2 (.inr rfl)]
 have hnd:=hqs.nodup_iff.2 c.nd;have hmid:r.queue∉(R1++R2).map (·.queue):=by
  intro hm;have h1:r.queue∈(b'.rungs s).map (·.queue):=by rw[g1];exact hm
  rw[Book.qs]at hnd;have h2:=(y8d.1 hnd).2.2 r.queue (by
   rcases hs with rfl|rfl
   ·exact y7m _ h1
   ·exact y7p _ h1) r.queue (by rw[hsp];simp)
  exact h2 rfl
 refine⟨⟨by rw[ha];exact c.wf,λs' hs'=> ?_,λq hq=>c.rng q (hqs.mem_iff.1 hq),hnd,by rw[hqs.length_eq];exact c.ql,λs' hs' x hx _=> ?_,λq hq=> ?_,by rw[hat,hplc 1 (.inl rfl),hplc 2 (.inr rfl)];exact c.at_,by rw[hflat];exact c.ids,c.qb⟩,hflat⟩
 ·by_cases e:s'=s
  ·subst e;have:=c.srt s' hs';rw[hr]at this;rw[g1];exact this.sublist (List.Sublist.append_left (List.sublist_cons_self _ _) _)
  ·rw[g2 s' e hs'];exact c.srt s' hs'
 ·by_cases e:s'=s
  ·subst e;rw[g1]at hx;refine c.ne s' hs' x (by rw[hr];rcases y6y.1 hx with h|h;exact y7m _ h;exact y7p _ (y6b _ h)) λe2=>hmid (e2▸y6x (f:=(·.queue)) hx)
  ·rw[g2 s' e hs']at hx;refine c.ne s' hs' x hx λe2=> ?_
   have h1:r.queue∈(b'.rungs s').map (·.queue):=by rw[g2 s' e hs',<- e2];exact y6x (f:=(·.queue)) hx
   rw[Book.qs]at hnd;exact(y8d.1 hnd).2.2 r.queue (by
    rcases hs' with rfl|rfl
    ·exact y7m _ h1
    ·exact y7p _ h1) r.queue (by rw[hsp];simp) rfl
 ·rw[hsp]at hq;rcases y6y.1 hq with hq|hq
  ·exact c.sp q hq
  ·rw[y7g.1 hq];exact he
def zSs {L:List zI} (h:(L.map (·.id)).Nodup) {id:Int} (hh:wS L id=ar):gB L id (dQ L id).qty=L.filter λo=> !decide (o.id=id):=by
 rw[gB,<- List.filterMap_eq_filter];refine mW λo ho=> ?_
 by_cases e:o.id=id
 ·have hg:=sN h ho;rw[e]at hg;rw[y5v e,y5v (by rw[hg])];simp[Option.guard,e]
 ·rw[y5t e];simp[Option.guard,e]
def Book.Core.gone {b:Book} {Q:List (List Nat)} (c:b.Core Q (-1)) (ht:b.Tops (b.flat Q)) {id s:Int} {r:xN} {k:Nat} (h:Told b Q id s r k) {q:Int} (hq:1<=q/\q=(b.a.slotAt k).qty):
 (b.a.takeF k q).2=0/\(({b with a:=(b.a.takeF k q).1}:Book).dropF s id r.price).Rep (gB (b.flat Q) id q)/\(b.a.takeF k q).1.slots.length=250/\(b.a.takeF k q).1.queues.length=b.a.queues.length/\((b.a.takeF k q).1.getF k).2=aq/\zY s (b.rungs s) r.price<(b.rungs s).length:=by
 obtain⟨t1,t2,t3⟩:=c.wf.take (c.get h.hs h.hr) h.hk (q:=q) ⟨hq.1,oM⟩;rw[y5v hq.2.symm]at t3;obtain⟨w,t4,t5⟩:=t3;generalize hA:(b.a.takeF k q).1=a1 at*;have hget:=c.get h.hs h.hr;have hnQ:=(y5x.1 hget).1;have hrq:=c.rng _ (gF h.hs h.hr);generalize hQ':Q.set r.queue.toNat ((xD Q r).erase k)=Q' at*;have hQl:Q'.length=Q.length:=by rw[<- hQ',y7b]
 have hnd:(xD Q r).Nodup:=c.wf.nd _ _ hget;have hqd:∀s' (r':xN),(s'=1\/s'=2)->r'∈b.rungs s'->xD Q' r'=(xD Q r').erase k:=by
  intro s' r' hs' hr';by_cases e:r'.queue=r.queue
  ·have e1:xD Q r'=xD Q r:=by rw[xD,xD,e]
   rw[e1,xD,e,<- hQ'];exact zT (dL hnQ)
  ·have h2:xD Q' r'=xD Q r':=by
    have:=c.rng _ (gF hs' hr');rw[xD,xD,y6c,y6c,<- hQ',uL (by omega)]
   rw[h2];symm;refine List.erase_of_not_mem λhk=> ?_
   have:=c.wf.toWf0.one (c.get hs' hr') hget hk h.hk;have:=c.rng _ (gF hs' hr');omega
 have hQo:∀q:Int,0<=q->q≠r.queue->Q'.getD q.toNat []=Q.getD q.toNat []:=by
  intro q h0 hne;rw[<- hQ',y6c,uL (by omega),y6c]
 obtain⟨u1,u2,u3,u4,u5⟩:=yKe ({b with a:=a1}:Book) id h.hs;obtain⟨b1,hb1⟩:∃b1:Book,b1={({b with a:=a1}:Book).unhas s id with at_:=nO id b.at_}:=⟨_,rfl⟩
 have v1:b1.a=a1:=by rw[hb1];exact u1
 have v2:b1.buys=b.buys:=by rw[hb1];exact u2
 have v3:b1.sells=b.sells:=by rw[hb1];exact u3
 have v4:b1.spare=b.spare:=by rw[hb1];exact u4
 have v5:b1.at_=nO id b.at_:=by rw[hb1]
 have v6:∀s',s'=1\/s'=2->b1.topI s'=b.topI s'/\b1.hasF s'=if s'=s/\b.topI s=id then aq else b.hasF s':=by
  intro s' hs';rw[hb1];exact u5 s' hs'
 have vr:∀s',b1.rungs s'=b.rungs s':=by intro s';rw[Book.rungs,Book.rungs,v2,v3]
 have vq:b1.qs=b.qs:=by rw[Book.qs,Book.qs,v2,v3,v4]
 have hord:∀s',s'=1\/s'=2->b1.sideL Q' s'=(b.sideL Q s').filter (λo=> !decide (o.id=id))/\b1.plcs Q' s'=(b.plcs Q s').filter λx=> !decide (x.1=id):=by
  intro s' hs';rw[Book.sideL,Book.sideL,Book.plcs,Book.plcs,vr,List.filter_flatMap,List.filter_flatMap];have key:∀r'∈b.rungs s',∀j∈xD Q r',((b.a.slotAt j).id=id↔j=k)/\(j≠k->vK a1 s' r'.price j=vK b.a s' r'.price j/\vW a1 s' r'.price j=vW b.a s' r'.price j):=by
   intro r' hr' j hj;refine⟨h.only c hs' hr' hj,λe=> ?_⟩;have:=(t2 j e).1;refine⟨by rw[vK,vK,this],?_⟩;have:=congrArg Ent.id this;rw[vW,vW];exact congrArg (λi=>(i,(⟨s',r'.price,j⟩:Place))) this
  refine⟨xE λr' hr'=> ?_,xE λr' hr'=> ?_⟩
  ·rw[Book.rOrds,Book.rOrds,hqd s' r' hs' hr',zFi (c.wf.nd _ _ (c.get hs' hr')),List.filter_map,v1];have e1:(xD Q r').filter ((λo:zI=> !decide (o.id=id))∘vK b.a s' r'.price)=(xD Q r').filter λj=> !decide (j=k):=by
    refine List.filter_congr λj hj=> ?_
    show(!decide ((b.a.slotAt j).id=id))=_;rw[decide_eq_decide.2 (key r' hr' j hj).1]
   rw[e1];refine y7d λj hj=> ?_
   rw[y7t]at hj;exact((key r' hr' j hj.1).2 (by simpa using hj.2)).1
  ·rw[hqd s' r' hs' hr',zFi (c.wf.nd _ _ (c.get hs' hr')),List.filter_map,v1];have e1:(xD Q r').filter ((λx:Int×Place=> !decide (x.1=id))∘vW b.a s' r'.price)=(xD Q r').filter λj=> !decide (j=k):=by
    refine List.filter_congr λj hj=> ?_
    show(!decide ((b.a.slotAt j).id=id))=_;rw[decide_eq_decide.2 (key r' hr' j hj).1]
   rw[e1];refine y7d λj hj=> ?_
   rw[y7t]at hj;exact((key r' hr' j hj.1).2 (by simpa using hj.2)).2
 have hflat:b1.flat Q'=(b.flat Q).filter λo=> !decide (o.id=id):=by
  rw[Book.flat,(hord 1 (.inl rfl)).1,(hord 2 (.inr rfl)).1,Book.flat,y9w]
 have hat:b1.at_.Perm (b1.plcs Q' 1++b1.plcs Q' 2):=by
  rw[v5,z7j c.keys,(hord 1 (.inl rfl)).2,(hord 2 (.inr rfl)).2,<- y9w];exact c.at_.filter _
 have hold:∀s' (r':xN),(s'=1\/s'=2)->r'∈b.rungs s'->xD Q r'≠[]:=λs' r' hs' hr'=>c.ne s' hs' r' hr' λe=>by
  have:=c.rng _ (gF hs' hr');omega
 have c1:b1.Core Q' r.queue:=by
  refine⟨by rw[v1];exact w,λs' hs'=>by rw[vr];exact c.srt s' hs',by rw[vq,hQl];exact c.rng,by rw[vq];exact c.nd,by rw[vq,hQl];exact c.ql,λs' hs' r' hr' hne=> ?_,λq hq=> ?_,hat,?_,by rw[hQl];exact c.qb⟩
  ·rw[vr]at hr';have e:=hQo r'.queue (c.rng _ (gF hs' hr')).1 hne;rw[xD,e];exact hold s' r' hs' hr'
  ·rw[v4]at hq;have hqq:q∈b.qs:=y7p _ hq;rw[hQo q (c.rng q hqq).1 λe=> ?_]
   ·exact c.sp q hq
   ·have hcn:=c.nd;rw[Book.qs]at hcn;refine(y8d.1 hcn).2.2 r.queue ?_ q hq e.symm;rcases h.hs with rfl|rfl
    ·exact y7m _ (y6x (f:=(·.queue)) h.hr)
    ·exact y7p _ (y6x (f:=(·.queue)) h.hr)
  ·rw[hflat];exact c.ids.sublist (List.Sublist.map _ xBn)
 have htk:gB (b.flat Q) id q=b1.flat Q':=by
  rw[hflat,<- zSs c.ids h.has,h.get,hq.2];rfl
 have hm1:∀o,o∈b1.flat Q'↔o∈b.flat Q/\o.id≠id:=by
  intro o;rw[hflat,y7t];simp
 have ht1:∀b2:Book,(∀x,b2.hasF x=b1.hasF x/\b2.topI x=b1.topI x)->b2.Tops (b1.flat Q'):=by
  intro b2 hb2;refine⟨λo ho=> ?_,λs' hs' hh=> ?_⟩
  ·rw[(hb2 _).1,(hb2 _).2];obtain⟨ho,hne⟩:=(hm1 o).1 ho;have hs':=(pX ho).1;rw[(v6 _ hs').1,(v6 _ hs').2,ht.fl o ho];split
   ·rename_i e;rw[e.1,e.2,y6g hne,xAx,xAx]
   ·rfl
  ·rw[(hb2 _).1,(v6 s' hs').2]at hh;rw[(hb2 _).2,(v6 s' hs').1];split at hh
   ·cases hh
   ·rename_i e;obtain⟨o,ho,o1,o2⟩:=ht.th s' hs' hh;refine⟨o,(hm1 o).2 ⟨ho,λe2=>e ?_⟩,o1,o2⟩;have hg:=sN c.ids ho;rw[e2,h.get]at hg;have hsd:s'=s:=by rw[<- o1,<- hg];rfl
    exact⟨hsd,by rw[<- hsd,<- o2,e2]⟩
 obtain⟨R1,R2,hsplit⟩:=List.append_of_mem h.hr;have hfn:=yDc (c.srt s h.hs) hsplit;have hgd:(b.rungs s).getD (zY s (b.rungs s) r.price) ⟨0,0⟩=r:=by
  rw[hfn,hsplit];refine zT ?_;rw[y7x (y6p _),xBh];rfl
 have hfl:zY s (b.rungs s) r.price<(b.rungs s).length:=by rw[hfn,hsplit];simp
 have hQr:Q'[r.queue.toNat]? =av ((xD Q r).erase k):=by rw[<- hQ'];exact dL hnQ
 have hcount:(a1.qAt r.queue).count=((xD Q r).erase k).length:=by
  have:=w.q _ _ hQr;have hql:=w.ql;rw[zWn hrq.1 this]
 have er:xD Q' r=(xD Q r).erase k:=zT hQr;have hru:({b with a:=a1}:Book).rungs s=b.rungs s:=rfl;have hus:(a1.getF k).2=aq:=by
  have:a1.usedAt k=aq:=by
   have e:a1.slotAt k=slot0:=t4;rw[Arena.slotAt]at e;rw[Arena.usedAt,y6m,e];simp[slot0]
  rw[Arena.getF,y5t (by rw[this];decide)]
 refine⟨t1,?_,w.len,by rw[w.ql,c.wf.ql,hQl],hus,hfl⟩;rw[Book.dropF,hru,hgd];by_cases hz:(a1.qAt r.queue).count=0
 ·rw[y5v hz];have he:xD Q' r=[]:=by
   rw[er];refine y6u ?_;omega
  obtain⟨k1,k2⟩:=Book.Core.close h.hs (by rw[vr];exact hsplit) c1 he rfl;have ebk:(({({b with a:=a1}:Book).unhas s id with at_:=nO id b.at_,spare:=b.spare++[r.queue]}:Book).setR s ((b.rungs s).take (zY s (b.rungs s) r.price)++(b.rungs s).drop (zY s (b.rungs s) r.price+1)))=(({b1 with spare:=b1.spare++[r.queue]}:Book).setR s (R1++R2)):=by
   have e1:(b.rungs s).take (zY s (b.rungs s) r.price)++(b.rungs s).drop (zY s (b.rungs s) r.price+1)=R1++R2:=by
    rw[hfn,hsplit,xBz];congr 1;rw[xAw,y9b (by omega),Nat.add_sub_cancel_left];rfl
   rw[e1,v4,hb1]
  refine⟨Q',?_,?_,?_⟩
  ·exact ebk▸k1
  ·rw[htk];refine ht1 _ λx=> ?_
   show(Book.hasF (({({b with a:=a1}:Book).unhas s id with at_:=nO id b.at_,spare:=b.spare++[r.queue]}:Book).setR s ((b.rungs s).take (zY s (b.rungs s) r.price)++(b.rungs s).drop (zY s (b.rungs s) r.price+1))) x=_/\Book.topI (({({b with a:=a1}:Book).unhas s id with at_:=nO id b.at_,spare:=b.spare++[r.queue]}:Book).setR s ((b.rungs s).take (zY s (b.rungs s) r.price)++(b.rungs s).drop (zY s (b.rungs s) r.price+1))) x=_);rw[ebk];rcases h.hs with rfl|rfl<;>exact⟨rfl,rfl⟩
  ·rw[htk];show _=Book.flat (({({b with a:=a1}:Book).unhas s id with at_:=nO id b.at_,spare:=b.spare++[r.queue]}:Book).setR s ((b.rungs s).take (zY s (b.rungs s) r.price)++(b.rungs s).drop (zY s (b.rungs s) r.price+1))) Q';rw[ebk];exact k2.symm
 ·rw[y5t hz];have c2:b1.Core Q' (-1):=⟨c1.wf,c1.srt,c1.rng,c1.nd,c1.ql,λs' hs' r' hr' _=>by
   by_cases e:r'.queue=r.queue
   ·rw[xD,e];intro e2;rw[xD]at er;rw[er]at e2;rw[hcount,e2]at hz;exact hz rfl
   ·exact c1.ne s' hs' r' hr' e,c1.sp,c1.at_,c1.ids,c1.qb⟩
  have hh:({({b with a:=a1}:Book).unhas s id with at_:=nO id b.at_}:Book)=b1:=hb1.symm;show Book.Rep {({b with a:=a1}:Book).unhas s id with at_:=nO id b.at_} _;rw[hh,htk];exact⟨Q',c2,ht1 b1 λ_=>⟨rfl,rfl⟩,rfl⟩
def tD (k:Int):∀l,zBr (ax au k) (atE l)=atE (nO k l)
 |[]=>rfl
 |(a,b)::l=>by
  have ih:=tD k l;show(bif (keq .i64 .i64 && decide (k=a))then atE l else _::zBr _ (atE l))=_;rw[ih,nO];by_cases h:k=a
  ·subst h;simp[keq]
  ·simp[h,atE]
def z8r:delRC.ok Tryz.prog 271:=
 delX_ok mixed Tryz.func271 rfl (by kernel_rfl) (by kernel_rfl) (by kernel_rfl) (by kernel_rfl) zGz rfl Z8 (λs sn sk i j w R=>by kernel_rfl)
def dup {X:Prop} {n:Int} (h:X):X/\n=n/\True/\X:=⟨h,rfl,trivial,h⟩
def Book.Core.small {b:Book} {Q:List (List Nat)} (c:b.Core Q (-1)):b.small:=by
 have hq:=c.qb;have h1:=c.ql;have h2:=c.wf.ql;have h3:=c.wf.len;rw[Book.qs,y5s,y5s,y5u,y5u]at h1;exact⟨⟨oM,oM⟩,oM,oM,oM⟩
def ySt (i:DrI) (h:drop1C.cnd i):yDi i:=by
 obtain⟨hsm,hn⟩:i.ok 1:=h;obtain⟨⟨ha1,ha2⟩,hb1,hb2,hsp⟩:=id hsm;have hn:zY 1 i.b.buys i.price<i.b.buys.length:=hn;obtain⟨r,hr⟩:=yA (l:=i.b.buys) hn;have hgd:((i.b.rungs 1).getD (zY 1 (i.b.rungs 1) i.price) ⟨0,0⟩)=r:=zT hr;have hw:∀k:Int,au.wrap ((zY 1 (i.b.rungs 1) i.price:Int)+1)=((zY 1 (i.b.rungs 1) i.price+1:Nat):Int):=λ_=>by
  have:=zEf 1 i.price (i.b.rungs 1);have hl:(i.b.rungs 1).length<=1000000:=by show i.b.buys.length<=_;omega
  rw[w64 (by omega)];rfl
 have hn2:((zY 1 (i.b.rungs 1) i.price:Nat):Int)<((aa zB i.b.buys).length:Int):=by
  rw[y5u];show((zY 1 i.b.buys i.price:Nat):Int)<_;omega
 unfold yDi zIi zIv fU uI qF xX xC dI;refine⟨wA _ _,Cv.cnd.mk (λc1=>Cv.cnd.mk (λc2=> ?_) (λc2=> ?_)) (λc1=> ?_)⟩
 ·have c2:i.b.top1=i.id:=by simpa using c2
  have hu:i.b.unhas 1 i.id={i.b with has1:=aq}:=by rw[Book.unhas,y5v ⟨c1,c2⟩];rfl
  refine⟨⟨{i.b with has1:=aq,at_:=nO i.id i.b.at_},i.price⟩,rF8 ⟨rfl,(tD _ _).symm,rfl,hsm,λ_ _=>⟨⟨oM,hn2⟩,r.queue,elA hr (by simp[zB]) rfl,⟨i.b.a,r.queue⟩,rfl,rfl,trivial,λ_ _=>Cv.cnd.mk (λe=>⟨by simp only[y4];omega,⟨i.b.buys.map zB,zY 1 (i.b.rungs 1) i.price,zY 1 (i.b.rungs 1) i.price+1⟩,rfl,(hw 0).symm,rfl,⟨xAz _,by rw[y5u];exact hn⟩,λ_ _=>⟨rfl,(),?_⟩⟩) (λe=>⟨(),?_⟩)⟩⟩⟩
  ·have e:(i.b.a.qAt r.queue).count=0:=by simpa using e
   rw[Book.dropF,hgd,y5v e,hu];refine(rF5 ⟨rfl,?_,rfl,?_,trivial⟩)
   ·show aa zB (i.b.buys.take _++i.b.buys.drop _)=_;rw[y6d,xAe,xBe]
   ·show iE (i.b.spare++[r.queue])=_;simp[iE]
  ·have e:¬(i.b.a.qAt r.queue).count=0:=by simpa using e
   rw[Book.dropF,hgd,y5t e,hu];exact(rF6 (rF3 trivial))
 ·have c2:¬i.b.top1=i.id:=by simpa using c2
  have hu:i.b.unhas 1 i.id={i.b with has1:=i.b.has1}:=by rw[Book.unhas,y5t (λe=>c2 e.2)]
  refine⟨⟨{i.b with has1:=i.b.has1,at_:=nO i.id i.b.at_},i.price⟩,rF8 ⟨rfl,(tD _ _).symm,rfl,hsm,λ_ _=>⟨⟨oM,hn2⟩,r.queue,elA hr (by simp[zB]) rfl,⟨i.b.a,r.queue⟩,rfl,rfl,trivial,λ_ _=>Cv.cnd.mk (λe=>⟨by simp only[y4];omega,⟨i.b.buys.map zB,zY 1 (i.b.rungs 1) i.price,zY 1 (i.b.rungs 1) i.price+1⟩,rfl,(hw 0).symm,rfl,⟨xAz _,by rw[y5u];exact hn⟩,λ_ _=>⟨rfl,(),?_⟩⟩) (λe=>⟨(),?_⟩)⟩⟩⟩
  ·have e:(i.b.a.qAt r.queue).count=0:=by simpa using e
   rw[Book.dropF,hgd,y5v e,hu];refine(rF5 ⟨rfl,?_,rfl,?_,trivial⟩)
   ·show aa zB (i.b.buys.take _++i.b.buys.drop _)=_;rw[y6d,xAe,xBe]
   ·show iE (i.b.spare++[r.queue])=_;simp[iE]
  ·have e:¬(i.b.a.qAt r.queue).count=0:=by simpa using e
   rw[Book.dropF,hgd,y5t e,hu];exact(rF6 (rF3 trivial))
 ·have hu:i.b.unhas 1 i.id={i.b with has1:=i.b.has1}:=by
   rw[Book.unhas,y5t];rintro⟨e,_⟩;exact absurd (show i.b.has1=ar from e) (by rw[c1];decide)
  refine⟨⟨{i.b with has1:=i.b.has1,at_:=nO i.id i.b.at_},i.price⟩,rF8 ⟨rfl,(tD _ _).symm,rfl,hsm,λ_ _=>⟨⟨oM,hn2⟩,r.queue,elA hr (by simp[zB]) rfl,⟨i.b.a,r.queue⟩,rfl,rfl,trivial,λ_ _=>Cv.cnd.mk (λe=>⟨by simp only[y4];omega,⟨i.b.buys.map zB,zY 1 (i.b.rungs 1) i.price,zY 1 (i.b.rungs 1) i.price+1⟩,rfl,(hw 0).symm,rfl,⟨xAz _,by rw[y5u];exact hn⟩,λ_ _=>⟨rfl,(),?_⟩⟩) (λe=>⟨(),?_⟩)⟩⟩⟩
  ·have e:(i.b.a.qAt r.queue).count=0:=by simpa using e
   rw[Book.dropF,hgd,y5v e,hu];refine(rF5 ⟨rfl,?_,rfl,?_,trivial⟩)
   ·show aa zB (i.b.buys.take _++i.b.buys.drop _)=_;rw[y6d,xAe,xBe]
   ·show iE (i.b.spare++[r.queue])=_;simp[iE]
  ·have e:¬(i.b.a.qAt r.queue).count=0:=by simpa using e
   rw[Book.dropF,hgd,y5t e,hu];exact(rF6 (rF3 trivial))
def yGs:drop1C.ok Tryz.prog 243:=okw mixed (gokc zMi (gokc pT (gokc z8r gok0))) 0 (λ_=>[]) (λ_=>[]) [] Tryz.func243 ySt
def yTy (i:DrI) (h:drop2C.cnd i):yHq i:=by
 obtain⟨hsm,hn⟩:i.ok 2:=h;obtain⟨⟨ha1,ha2⟩,hb1,hb2,hsp⟩:=id hsm;have hn:zY 2 i.b.sells i.price<i.b.sells.length:=hn;obtain⟨r,hr⟩:=yA (l:=i.b.sells) hn;have hgd:((i.b.rungs 2).getD (zY 2 (i.b.rungs 2) i.price) ⟨0,0⟩)=r:=zT hr;have hw:∀k:Int,au.wrap ((zY 2 (i.b.rungs 2) i.price:Int)+1)=((zY 2 (i.b.rungs 2) i.price+1:Nat):Int):=λ_=>by
  have:=zEf 2 i.price (i.b.rungs 2);have hl:(i.b.rungs 2).length<=1000000:=by show i.b.sells.length<=_;omega
  rw[w64 (by omega)];rfl
 have hn2:((zY 2 (i.b.rungs 2) i.price:Nat):Int)<((aa zB i.b.sells).length:Int):=by
  rw[y5u];show((zY 2 i.b.sells i.price:Nat):Int)<_;omega
 unfold yHq zId zJr fP uH qF xW xB dI;refine⟨wA _ _,Cv.cnd.mk (λc1=>Cv.cnd.mk (λc2=> ?_) (λc2=> ?_)) (λc1=> ?_)⟩
 ·have c2:i.b.top2=i.id:=by simpa using c2
  have hu:i.b.unhas 2 i.id={i.b with has2:=aq}:=by rw[Book.unhas,y5v ⟨c1,c2⟩];rfl
  refine⟨⟨{i.b with has2:=aq,at_:=nO i.id i.b.at_},i.price⟩,rF8 ⟨rfl,(tD _ _).symm,rfl,hsm,λ_ _=>⟨⟨oM,hn2⟩,r.queue,elA hr (by simp[zB]) rfl,⟨i.b.a,r.queue⟩,rfl,rfl,trivial,λ_ _=>Cv.cnd.mk (λe=>⟨by simp only[y4];omega,⟨i.b.sells.map zB,zY 2 (i.b.rungs 2) i.price,zY 2 (i.b.rungs 2) i.price+1⟩,rfl,(hw 0).symm,rfl,⟨xAz _,by rw[y5u];exact hn⟩,λ_ _=>⟨rfl,(),?_⟩⟩) (λe=>⟨(),?_⟩)⟩⟩⟩
  ·have e:(i.b.a.qAt r.queue).count=0:=by simpa using e
   rw[Book.dropF,hgd,y5v e,hu];refine(rF6 ⟨rfl,?_,?_,trivial⟩)
   ·show aa zB (i.b.sells.take _++i.b.sells.drop _)=_;rw[y6d,xAe,xBe]
   ·show iE (i.b.spare++[r.queue])=_;simp[iE]
  ·have e:¬(i.b.a.qAt r.queue).count=0:=by simpa using e
   rw[Book.dropF,hgd,y5t e,hu];exact(rF6 (rF3 trivial))
 ·have c2:¬i.b.top2=i.id:=by simpa using c2
  have hu:i.b.unhas 2 i.id={i.b with has2:=i.b.has2}:=by rw[Book.unhas,y5t (λe=>c2 e.2)]
  refine⟨⟨{i.b with has2:=i.b.has2,at_:=nO i.id i.b.at_},i.price⟩,rF8 ⟨rfl,(tD _ _).symm,rfl,hsm,λ_ _=>⟨⟨oM,hn2⟩,r.queue,elA hr (by simp[zB]) rfl,⟨i.b.a,r.queue⟩,rfl,rfl,trivial,λ_ _=>Cv.cnd.mk (λe=>⟨by simp only[y4];omega,⟨i.b.sells.map zB,zY 2 (i.b.rungs 2) i.price,zY 2 (i.b.rungs 2) i.price+1⟩,rfl,(hw 0).symm,rfl,⟨xAz _,by rw[y5u];exact hn⟩,λ_ _=>⟨rfl,(),?_⟩⟩) (λe=>⟨(),?_⟩)⟩⟩⟩
  ·have e:(i.b.a.qAt r.queue).count=0:=by simpa using e
   rw[Book.dropF,hgd,y5v e,hu];refine(rF6 ⟨rfl,?_,?_,trivial⟩)
   ·show aa zB (i.b.sells.take _++i.b.sells.drop _)=_;rw[y6d,xAe,xBe]
   ·show iE (i.b.spare++[r.queue])=_;simp[iE]
  ·have e:¬(i.b.a.qAt r.queue).count=0:=by simpa using e
   rw[Book.dropF,hgd,y5t e,hu];exact(rF6 (rF3 trivial))
 ·have hu:i.b.unhas 2 i.id={i.b with has2:=i.b.has2}:=by
   rw[Book.unhas,y5t];rintro⟨e,_⟩;exact absurd (show i.b.has2=ar from e) (by rw[c1];decide)
  refine⟨⟨{i.b with has2:=i.b.has2,at_:=nO i.id i.b.at_},i.price⟩,rF8 ⟨rfl,(tD _ _).symm,rfl,hsm,λ_ _=>⟨⟨oM,hn2⟩,r.queue,elA hr (by simp[zB]) rfl,⟨i.b.a,r.queue⟩,rfl,rfl,trivial,λ_ _=>Cv.cnd.mk (λe=>⟨by simp only[y4];omega,⟨i.b.sells.map zB,zY 2 (i.b.rungs 2) i.price,zY 2 (i.b.rungs 2) i.price+1⟩,rfl,(hw 0).symm,rfl,⟨xAz _,by rw[y5u];exact hn⟩,λ_ _=>⟨rfl,(),?_⟩⟩) (λe=>⟨(),?_⟩)⟩⟩⟩
  ·have e:(i.b.a.qAt r.queue).count=0:=by simpa using e
   rw[Book.dropF,hgd,y5v e,hu];refine(rF6 ⟨rfl,?_,?_,trivial⟩)
   ·show aa zB (i.b.sells.take _++i.b.sells.drop _)=_;rw[y6d,xAe,xBe]
   ·show iE (i.b.spare++[r.queue])=_;simp[iE]
  ·have e:¬(i.b.a.qAt r.queue).count=0:=by simpa using e
   rw[Book.dropF,hgd,y5t e,hu];exact(rF6 (rF3 trivial))
def yFt:drop2C.ok Tryz.prog 243:=okw mixed (gokc zOy (gokc pT (gokc z8r gok0))) 0 (λ_=>[]) (λ_=>[]) [] Tryz.func243 yTy
def yQc:dropC.ok Tryz.prog 243:=λj=>match j with
 |⟨i,aq⟩=>yGs i
 |⟨i,ar⟩=>yFt i
def yMr {a:Arena} {k:Nat} {p t:Int} {m:Nat} (h:zWd (a.slotAt k) m k p t) (hl:k<a.slots.length):a.getF k=((a.slotAt k).ent,ar):=by
 have:a.usedAt k=ar:=by
  simp only[Arena.usedAt,y6h,y7i,y6m];exact⟨oM,oM,h.used⟩
 rw[Arena.getF,y5v this,y6m]
def z0x {b:Book} {Q:List (List Nat)} (c:b.Core Q (-1)) {id s:Int} {r:xN} {k:Nat} (h:Told b Q id s r k):b.a.getF k=((b.a.slotAt k).ent,ar)/\(b.a.slotAt k).qty<=1000000/\1<=(b.a.slotAt k).qty:=by
 obtain⟨h1,⟨p,t,h2⟩,h3⟩:=c.wf.toWf0.mem (c.get h.hs h.hr) h.hk;exact⟨yMr h2 (by rw[c.wf.len];exact h1),h2.q2,c.wf.pos _ _ (c.get h.hs h.hr) _ h.hk⟩
def yYc (i:FlI) (h:bfindC.cnd i):yEc i:=by
 obtain⟨Q,c,ht,hL⟩:i.b.Rep i.L:=h;unfold yEc zGv zDx sY dI;rcases c.told i.id with⟨hg,hn⟩|⟨s,r,k,hT⟩
 ·refine⟨wA _ _,aq,0,0,0,.inr ⟨?_,rfl,rfl⟩,Cv.cnd.mk (λ_=> ?_) (λe=>absurd e Z8)⟩
  ·rw[zAc,hg];rfl
  ·rw[<- hL]at hn;rw[yVf hn,hn];exact⟨(),k0q⟩
 ·refine⟨wA _ _,ar,s,r.price,k,.inl ⟨?_,rfl⟩,Cv.cnd.mk (λe=>absurd e Z8) (λ_=>dup ⟨⟨i.b.a,k⟩,rfl,rfl,by dsimp only;rw[c.wf.len];decide,λ_ _=>⟨(),?_⟩⟩)⟩
  ·rw[zAc,hT.e];rfl
  ·have h1:=hT.get;have h2:=hT.has;rw[<- hL]at h1 h2;rw[h1,h2,(z0x c hT).1];exact⟨hT.ident,k0q⟩
def zXr:bfindC.ok Tryz.prog 170:=okw mixed (gokc z7x gok0) 0 (λ_=>[]) (λ_=>[]) [0] Tryz.func170 yYc
def Book.Core.okAt {b:Book} {Q:List (List Nat)} (c:b.Core Q (-1)):b.a.okAt:=c.wf.toWf0.ok
def yYv (i:FlI) (h:fillC.cnd i):ySe i:=by
 have hR:i.b.Rep i.L:=h;obtain⟨Q,c,ht,hL⟩:=id hR;unfold ySe zNt zPe vL zAv sY dI;rcases c.told i.id with⟨hg,hn⟩|⟨s,r,k,hT⟩
 ·refine⟨wA _ _,aq,0,0,0,.inr ⟨?_,rfl,rfl⟩,Cv.cnd.mk (λ_=> ?_) (λe=>absurd e (by simp))⟩
  ·rw[zAc,hg];rfl
  ·rw[<- hL]at hn;rw[x7,y5v hn];exact⟨i.b,rF7 (rF3 hR)⟩
 have hg:=hT.get;have hh:=hT.has;rw[<- hL]at hg hh;obtain⟨hsg,hq1,hq2⟩:=z0x c hT;have hqq:(dQ i.L i.id).qty=(i.b.a.slotAt k).qty:=by rw[hg];rfl
 refine⟨wA _ _,ar,s,r.price,k,.inl ⟨?_,rfl⟩,Cv.cnd.mk (λe=>absurd e (by simp)) (λ_=>⟨⟨i.b.a,k,i.qty⟩,rfl,rfl,rfl,c.okAt,λ_ _=> ?_⟩)⟩
 ·rw[zAc,hT.e];rfl
 dsimp only;have hu:i.b.a.usedAt k=ar:=by
  cases hu:i.b.a.usedAt k with
  |true=>rfl
  |false=>rw[Arena.getF,y5t (by rw[hu];decide)]at hsg;exact absurd (congrArg Prod.snd hsg) (by simp)
 by_cases hb:i.qty<1\/(i.b.a.slotAt k).qty<i.qty
 ·have ht:i.b.a.takeF k i.qty=(i.b.a,24):=by rw[Arena.takeF,y5t (by rw[hu];decide),y6m,y5v hb]
  rw[ht];refine Cv.cnd.mk (λ_=> ?_) (λe=>absurd e (by simp));rw[x7,y5t (by rw[hh];decide),y5v (by rw[hqq];exact hb)];exact⟨i.b,rF7 (rF3 hR)⟩
 have hfl:x7 i.L i.id i.qty=(gB i.L i.id i.qty,0):=by rw[x7,y5t (by rw[hh];decide),y5t (by rw[hqq];exact hb)]
 by_cases hf:i.qty=(i.b.a.slotAt k).qty
 ·obtain⟨g1,g2,g3,g4,g5,g6⟩:=c.gone (by rw[<- hL];exact ht) hT (q:=i.qty) ⟨oM,hf⟩;rw[<- hL]at g2;have hsm:=c.small;rw[g1];refine Cv.cnd.mk (λe=>absurd e (by simp)) (λ_=>dup ⟨⟨(i.b.a.takeF k i.qty).1,k⟩,rfl,rfl,by dsimp only;rw[g3];decide,λ_ _=> ?_⟩);dsimp only;rw[g5];refine Cv.cnd.mk (λ_=> ?_) (λe=>absurd e (by simp));rcases hT.hs with rfl|rfl
  ·refine⟨⟨⟨{i.b with a:=(i.b.a.takeF k i.qty).1},i.id,r.price,k⟩,aq⟩,rF8 (rF4 ⟨rfl,⟨⟨⟨by dsimp only;rw[g3];decide,by dsimp only;rw[g4];exact hsm.1.2⟩,hsm.2⟩,g6⟩,λ_ _=> ?_⟩)⟩;refine⟨({i.b with a:=(i.b.a.takeF k i.qty).1}:Book).dropF 1 i.id r.price,by rw[hfl],rF6 (rF3 (by rw[hfl];exact g2))⟩
  ·refine⟨⟨⟨{i.b with a:=(i.b.a.takeF k i.qty).1},i.id,r.price,k⟩,ar⟩,rF8 (rF4 ⟨rfl,⟨⟨⟨by dsimp only;rw[g3];decide,by dsimp only;rw[g4];exact hsm.1.2⟩,hsm.2⟩,g6⟩,λ_ _=> ?_⟩)⟩;refine⟨({i.b with a:=(i.b.a.takeF k i.qty).1}:Book).dropF 2 i.id r.price,by rw[hfl],rF6 (rF3 (by rw[hfl];exact g2))⟩
 ·obtain⟨g1,g2,g3,g4,g5⟩:=c.less (by rw[<- hL];exact ht) hT (q:=i.qty) oM;rw[<- hL]at g2;rw[g1];refine Cv.cnd.mk (λe=>absurd e (by simp)) (λ_=>dup ⟨⟨(i.b.a.takeF k i.qty).1,k⟩,rfl,rfl,by dsimp only;rw[g3];decide,λ_ _=> ?_⟩);dsimp only;rw[g4];refine Cv.cnd.mk (λe=>absurd e (by simp)) (λ_=>Cv.cnd.mk (λe=> ?_) (λ_=> ?_))
  ·have e:¬((i.b.a.takeF k i.qty).1.slotAt k).ent.id=i.id:=by simpa using e
   exact absurd g5 e
  ·exact⟨{i.b with a:=(i.b.a.takeF k i.qty).1},by rw[hfl],rF6 (rF3 (by rw[hfl];exact g2))⟩
def yQb:fillC.ok Tryz.prog 211:=okw mixed (gokc yDk (gokc z7x (gokc yQc gok0))) 0 (λ_=>[]) (λ_=>[]) [0] Tryz.func211 yYv
def zUc (A B:List zI) (s p:Int):atL (A++B) s p=atL A s p++atL B s p:=y9w _ _
def zWt {A:List zI} {s p:Int} (h:∀o∈A,o.side=s->o.price≠p):atL A s p=[]:=by
 rw[atL,ac];intro o ho;by_cases e:o.side=s
 ·simp[h o ho e]
 ·simp[e]
def yNo {A:List zI} {s p:Int} (h:∀o∈A,o.side=s/\o.price=p):atL A s p=A:=by
 rw[atL,xBm];intro o ho;simp[h o ho]
def zNq {s x y:Int} (h:btr s x y=ar):x≠y:=by
 rintro rfl;rw[zAu]at h;cases h
def Book.Core.at_no {b:Book} {Q:List (List Nat)} (c:b.Core Q (-1)) {s p:Int} (hs:s=1\/s=2) (h:kZ s (b.rungs s) p=aq):atL (b.flat Q) s p=[]:=by
 have hsp:=zCs (p:=p) (c.srt s hs);rw[y5t (by rw[h];decide)]at hsp;refine zWt λo ho e=> ?_
 obtain⟨_,r,hr,_,hp⟩:=pX ho;rw[e]at hr;rw[hp];rw[<- y8a (zY s (b.rungs s) p) (b.rungs s)]at hr;rcases y6y.1 hr with hr|hr
 ·exact zNq (hsp.1 r hr)
 ·exact(zNq (hsp.2 r hr)).symm
def Book.Core.at_yes {b:Book} {Q:List (List Nat)} (c:b.Core Q (-1)) {s p:Int} (hs:s=1\/s=2) (h:kZ s (b.rungs s) p=ar):∃r,(b.rungs s)[zY s (b.rungs s) p]? =av r/\r.price=p/\r∈b.rungs s/\atL (b.flat Q) s p=b.rOrds Q s r:=by
 have hsp:=zCs (p:=p) (c.srt s hs);rw[y5v h]at hsp;obtain⟨h1,r,hr,hp,h2⟩:=hsp;have hlt:=(y5x.1 hr).1;refine⟨r,hr,hp,y6e hr,?_⟩;have hsplit:b.rungs s=(b.rungs s).take (zY s (b.rungs s) p)++r::(b.rungs s).drop (zY s (b.rungs s) p+1):=by
  conv=>lhs;rw[<- y8a (zY s (b.rungs s) p) (b.rungs s)]
  rw[y8b hlt,(y5x.1 hr).2]
 have hside:atL (b.sideL Q s) s p=b.rOrds Q s r:=by
  rw[Book.sideL,hsplit,y7r,y7o,zUc,zUc,zWt,yNo,zWt,y6r,y8j]
  ·intro o ho _;obtain⟨r',hr',ho⟩:=y8n.1 ho;rw[(qK ho).2];exact(zNq (h2 r' hr')).symm
  ·intro o ho;rw[<- hp];exact qK ho
  ·intro o ho _;obtain⟨r',hr',ho⟩:=y8n.1 ho;rw[(qK ho).2];exact zNq (h1 r' hr')
 have hother:∀s',s'≠s->atL (b.sideL Q s') s p=[]:=λs' hne=>zWt λo ho e=>absurd ((aL ho).1.symm.trans e) hne
 rw[Book.flat,zUc];rcases hs with rfl|rfl
 ·rw[hside,hother 2 (by decide),y6r]
 ·rw[hside,hother 1 (by decide),y8j]
def Book.Core.listOk {b:Book} {Q:List (List Nat)} (c:b.Core Q (-1)) {s:Int} (hs:s=1\/s=2) {r:xN} (hr:r∈b.rungs s):b.a.listOk r.queue (xD Q r):=by
 have hg:=c.get hs hr;have hrq:=c.rng _ (gF hs hr);refine⟨by have:=c.wf.toWf0.short hg;omega,?_⟩;rw[y5v ⟨hrq.1,by rw[c.wf.ql];exact hrq.2⟩,zT (c.wf.q _ _ hg)];exact zSt (c.wf.sg _ _ hg)
def y3h (i:AtI) (h:at1C.cnd i):y1e i:=by
 obtain⟨Q,c,ht,hL⟩:i.b.Rep i.L:=h;unfold y1e fU uI qF xX kA dI;refine⟨1,rfl,trivial,λ_ _=>Cv.cnd.mk (λe=>absurd e Z8) λ_=>⟨⟨i.b,i.price⟩,rF7 (rF3 ⟨rfl,c.small,λ_ _=>Cv.cnd.mk (λe=> ?_) (λe=> ?_)⟩)⟩⟩
 ·have e:kZ 1 (i.b.rungs 1) i.price=aq:=by simpa using e
  have:=c.at_no (.inl rfl) e;rw[<- hL]at this;refine⟨(),rF8 ⟨rfl,?_,trivial⟩⟩;show aa vH (atL i.L 1 i.price)=[];rw[this];rfl
 ·have e:kZ 1 (i.b.rungs 1) i.price=ar:=by simpa using e
  obtain⟨r,hr,hp,hm,ha⟩:=c.at_yes (.inl rfl) e;rw[<- hL]at ha;have hlt:=(y5x.1 hr).1;refine⟨⟨oM,by rw[y5u];exact Int.ofNat_lt.2 hlt⟩,r.price,r.queue,elA hr (by simp[zB]) rfl,⟨i.b,1,r,xD Q r⟩,rF8 (rF3 ⟨rfl,c.listOk (.inl rfl) hm,λ_ _=>⟨(),rfl,?_,trivial⟩⟩)⟩;show aa vH (atL i.L 1 i.price)=_;rw[ha,BoI.ords,Book.rOrds,Arena.ents];simp only[y8i];rfl
def yVz:at1C.ok Tryz.prog 262:=okw mixed (gokc lN (gokc zMi (gokc zRs gok0))) 0 (λ_=>[]) (λ_=>[]) [0] Tryz.func262 y3h
def y4u (i:AtI) (h:at2C.cnd i):y1d i:=by
 obtain⟨Q,c,ht,hL⟩:i.b.Rep i.L:=h;unfold y1d fP uH qF xW kA dI;refine⟨2,rfl,trivial,λ_ _=>Cv.cnd.mk (λe=>absurd e Z8) λ_=>⟨⟨i.b,i.price⟩,rF7 (rF3 ⟨rfl,c.small,λ_ _=>Cv.cnd.mk (λe=> ?_) (λe=> ?_)⟩)⟩⟩
 ·have e:kZ 2 (i.b.rungs 2) i.price=aq:=by simpa using e
  have:=c.at_no (.inr rfl) e;rw[<- hL]at this;refine⟨(),rF8 ⟨rfl,?_,trivial⟩⟩;show aa vH (atL i.L 2 i.price)=[];rw[this];rfl
 ·have e:kZ 2 (i.b.rungs 2) i.price=ar:=by simpa using e
  obtain⟨r,hr,hp,hm,ha⟩:=c.at_yes (.inr rfl) e;rw[<- hL]at ha;have hlt:=(y5x.1 hr).1;refine⟨⟨oM,by rw[y5u];exact Int.ofNat_lt.2 hlt⟩,r.price,r.queue,elA hr (by simp[zB]) rfl,⟨i.b,2,r,xD Q r⟩,rF8 (rF3 ⟨rfl,c.listOk (.inr rfl) hm,λ_ _=>⟨(),rfl,?_,trivial⟩⟩)⟩;show aa vH (atL i.L 2 i.price)=_;rw[ha,BoI.ords,Book.rOrds,Arena.ents];simp only[y8i];rfl
def yXk:at2C.ok Tryz.prog 262:=okw mixed (gokc lN (gokc zOy (gokc zRs gok0))) 0 (λ_=>[]) (λ_=>[]) [0] Tryz.func262 y4u
def y2c:atC.ok Tryz.prog 262:=λj=>match j with
 |⟨b,L,aq,p⟩=>yVz ⟨b,L,aq,p⟩
 |⟨b,L,ar,p⟩=>yXk ⟨b,L,ar,p⟩
def zZm (p:Int) (l:List zI):Lv:=⟨p,(l.map (·.qty)).sum,l.length⟩
def zNr:∀{l:List zI} {v:Lv} {vs:List Lv},grp l=v::vs->∃o r,l=o::r/\o.price=v.price
 |[],v,vs,h=>by cases h
 |o::r,v,vs,h=>by
  refine⟨o,r,rfl,?_⟩;rw[grp]at h;split at h
  ·cases h;rfl
  ·split at h
   ·rename_i e;cases h;exact e.symm
   ·cases h;rfl
def z5l {p:Int}:∀{l:List zI} {m:List zI},l≠[]->(∀o∈l,o.price=p)->(∀o r,m=o::r->o.price≠p)->grp (l++m)=zZm p l::grp m
 |[],m,h,_,_=>absurd rfl h
 |[o],m,_,h,hm=>by
  have e:=h o y5z;rw[List.singleton_append,grp];split
  ·rename_i g;simp[zZm,e,g]
  ·rename_i v vs g;obtain⟨o',r,e1,e2⟩:=zNr g;have:=hm o' r e1;rw[y5t (by omega)];simp[zZm,e,g]
 |o::o'::l,m,_,h,hm=>by
  have e:=h o y5z;have ih:=z5l (l:=o'::l) (m:=m) (by simp) (λx hx=>h x (y6b _ hx)) hm;rw[y7l,grp,ih];dsimp only;rw[y5v (show(zZm p (o'::l)).price=o.price from e.symm)];simp only[zZm,y6i,y7j,y5y];rfl
def z1g {f:xN->List zI}:∀{R:List xN},(∀r∈R,f r≠[]/\∀o∈f r,o.price=r.price)->R.Pairwise (λr r'=>r.price≠r'.price)->grp (R.flatMap f)=R.map λr=>zZm r.price (f r)
 |[],_,_=>rfl
 |r::R,h,hp=>by
  rw[y9n]at hp;have ih:=z1g (R:=R) (λx hx=>h x (y6b _ hx)) hp.2;rw[y7o,z5l (h r y5z).1 (h r y5z).2,ih,y6i];intro o l e;cases R with
  |nil=>cases e
  |cons r' R'=>
   rw[y7o]at e;obtain⟨h1,h2⟩:=h r' (y6b _ y5z);cases hf:f r' with
   |nil=>exact absurd hf h1
   |cons x y=>
    rw[hf,y7l]at e;cases e;rw[h2 o (by rw[hf];exact y5z)];exact(hp.1 r' y5z).symm
def zRm {b:Book} {Q:List (List Nat)} {s:Int} (hs:s=1\/s=2):(b.flat Q).filter (λo=>decide (o.side=s))=b.sideL Q s:=by
 have h1:∀s',(b.sideL Q s').filter (λo=>decide (o.side=s))=if s'=s then b.sideL Q s' else[]:=by
  intro s';split
  ·rename_i e;rw[xBm];intro o ho;rw[(aL ho).1,e];simp
  ·rename_i e;rw[ac];intro o ho;rw[(aL ho).1];simp[e]
 rw[Book.flat,y9w,h1,h1];rcases hs with rfl|rfl
 ·simp
 ·simp
def Book.Core.neL {b:Book} {Q:List (List Nat)} (c:b.Core Q (-1)) {s:Int} (hs:s=1\/s=2) {r:xN} (hr:r∈b.rungs s):xD Q r≠[]:=c.ne s hs r hr λe=>by have:=c.rng _ (gF hs hr);omega
def Book.Core.toldL {b:Book} {Q:List (List Nat)} (c:b.Core Q (-1)) {s:Int} (hs:s=1\/s=2) {r:xN} (hr:r∈b.rungs s):b.told r=zZm r.price (b.rOrds Q s r):=by
 have hg:=c.get hs hr;have hrq:=c.rng _ (gF hs hr);have hq:=c.wf.q _ _ hg;have hql:=c.wf.ql;rw[Book.told,zWn hrq.1 hq,zZm,Book.rOrds,y8i,y5u];rfl
def Book.Core.lad {b:Book} {Q:List (List Nat)} (c:b.Core Q (-1)) {s:Int} (hs:s=1\/s=2):gR (b.flat Q) s=(b.rungs s).map b.told:=by
 rw[gR,zRm hs,Book.sideL,z1g]
 ·exact y7d λr hr=>(c.toldL hs hr).symm
 ·intro r hr;refine⟨λe=>c.neL hs hr (List.map_eq_nil_iff.1 e),λo ho=>(qK ho).2⟩
 ·exact(c.srt s hs).imp λh=>zNq h
def Book.Core.bestL {b:Book} {Q:List (List Nat)} (c:b.Core Q (-1)) {s:Int} (hs:s=1\/s=2):b.best (b.rungs s)=Sx.bestL (b.flat Q) s:=by
 rw[Sx.bestL,c.lad hs];cases b.rungs s<;>rfl
def Book.Core.cnt {b:Book} {Q:List (List Nat)} (c:b.Core Q (-1)):b.cntOk:=by
 intro q hq;obtain⟨n,hn⟩:=y8l.1 hq;have hlt:=(y5x.1 hn).1;rw[c.wf.ql]at hlt;obtain⟨l,hl⟩:=yA hlt;have:=c.wf.q n l hl;rw[hn]at this;cases this;have:=c.wf.toWf0.short hl;constructor<;>dsimp only<;>omega
def kD (L:List zI):Top:=(top0.buy (bestL L 1)).sell (bestL L 2)
def Book.Rep.top {b:Book} {L:List zI} (h:b.Rep L):b.top=kD L:=by
 obtain⟨Q,c,ht,rfl⟩:=h;rw[Book.top,kD,<- c.bestL (.inl rfl),<- c.bestL (.inr rfl)];rfl
def Book.Rep.cnt {b:Book} {L:List zI} (h:b.Rep L):b.cntOk:=by
 obtain⟨Q,c,ht,rfl⟩:=h;exact c.cnt
structure zQb (o:zI):Prop where
 s:o.side=1\/o.side=2
 q:1<=o.qty/\o.qty<=1000000
def Book.Rep.ords {b:Book} {L:List zI} (h:b.Rep L):(∀o∈L,zQb o)/\(L.map (·.id)).Nodup/\L.length<=250:=by
 obtain⟨Q,c,ht,rfl⟩:=h;refine⟨λo ho=> ?_,c.ids,?_⟩
 ·obtain⟨hs,r,hr,ho,hp⟩:=pX ho;refine⟨hs,?_⟩;obtain⟨k,hk,e⟩:=y7f.1 ho;obtain⟨_,⟨_,_,h2⟩,_⟩:=c.wf.toWf0.mem (c.get hs hr) hk;have eq:o.qty=(b.a.slotAt k).qty:=by rw[<- e];rfl
  rw[eq];exact⟨c.wf.pos _ _ (c.get hs hr) _ hk,h2.q2⟩
 ·have hnd:(((b.rungs 1).flatMap (xD Q)++(b.rungs 2).flatMap (xD Q))).Nodup:=by
   have hm:((b.flat Q).map (·.id))=((b.rungs 1).flatMap (xD Q)++(b.rungs 2).flatMap (xD Q)).map λk=>(b.a.slotAt k).id:=by
    rw[Book.flat,y6d,y6d,Book.sideL,Book.sideL,eR,eR,eR,eR];congr 1
    ·exact xE λr _=>by rw[Book.rOrds,y8i];rfl
    ·exact xE λr _=>by rw[Book.rOrds,y8i];rfl
   have:=c.ids;rw[hm]at this;exact List.Pairwise.of_map _ (λa b hab e=>hab (by rw[e])) this
  have hl:(b.flat Q).length=((b.rungs 1).flatMap (xD Q)++(b.rungs 2).flatMap (xD Q)).length:=by
   rw[Book.flat,y5s,y5s,Book.sideL,Book.sideL,xAu,xAu,xAu,xAu];congr 1
   ·congr 1;exact y7d λr _=>by rw[Book.rOrds,y5u]
   ·congr 1;exact y7d λr _=>by rw[Book.rOrds,y5u]
  rw[hl];refine zOo 250 hnd λk hk=> ?_
  rcases y6y.1 hk with hk|hk
  ·obtain⟨r,hr,hk⟩:=y8n.1 hk;exact(c.wf.toWf0.mem (c.get (.inl rfl) hr) hk).1
  ·obtain⟨r,hr,hk⟩:=y8n.1 hk;exact(c.wf.toWf0.mem (c.get (.inr rfl) hr) hk).1
def Book.Rep.fit {b:Book} {L:List zI} (h:b.Rep L):b.fit:=by
 obtain⟨Q,c,ht,rfl⟩:=h;have hs:=c.small;have h1:=c.ql;have h2:=c.wf.ql;have hqb:=c.qb;rw[Book.qs,y5s,y5s,y5u,y5u]at h1;refine⟨⟨hs.1.1,λhf=> ?_,λq hq=> ?_⟩,oM,oM,oM,oM⟩
 ·obtain⟨k,_,hk,hk1,hku,_⟩:=c.wf.toWf0.unused hf;exact⟨_,y6e hk1,hku⟩
 ·obtain⟨n,hn⟩:=y8l.1 hq;have hlt:=(y5x.1 hn).1;rw[c.wf.ql]at hlt;obtain⟨l,hl⟩:=yA hlt;have:=c.wf.q n l hl;rw[hn]at this;cases this;dsimp only;rcases wP l with e|⟨y,j,e,e2⟩
  ·exact .inl ((pN l).2 e)
  ·rw[e2];have:=(c.wf.toWf0.mem hl (k:=j) (by rw[e];simp)).1;rw[c.wf.len];exact .inr ⟨oM,oM⟩
def whL:Nat->List (List zI)->List (Int×Int)
 |_,[]=>[]
 |k,L::B=>L.map (λo=>(o.id,(k:Int)))++whL (k+1) B
def whL_mem:∀{B:List (List zI)} {n:Nat} {x:Int×Int},x∈whL n B↔∃(k:Nat) (L:List zI),B[k]? =av L/\x.1∈L.map (·.id)/\x.2=((n+k:Nat):Int)
 |[],n,x=>by simp[whL]
 |L::B,n,x=>by
  rw[whL,y6y,whL_mem (B:=B)];constructor
  ·rintro(h|⟨k,L',h1,h2,h3⟩)
   ·obtain⟨o,ho,rfl⟩:=y7f.1 h;exact⟨0,L,rfl,y6x (f:=(·.id)) ho,rfl⟩
   ·exact⟨k+1,L',h1,h2,by rw[h3];omega⟩
  ·rintro⟨k,L',h1,h2,h3⟩;cases k with
   |zero=>
    cases h1;obtain⟨o,ho,e⟩:=y7f.1 h2;exact .inl (y7f.2 ⟨o,ho,Prod.ext e h3.symm⟩)
   |succ k=>exact .inr ⟨k,L',h1,h2,by rw[h3];omega⟩
def zLe:∀{B:List (List zI)} (n k:Nat),k<B.length->∃rest,∀X:List zI,(whL n (B.set k X)).Perm (X.map (λo=>(o.id,((n+k:Nat):Int)))++rest)
 |[],n,k,h=>absurd h (by simp)
 |L::B,n,0,h=>⟨whL (n+1) B,λX=> .refl _⟩
 |L::B,n,k+1,h=>by
  obtain⟨rest,hr⟩:=zLe (B:=B) (n+1) k (by simpa using h);refine⟨L.map (λo=>(o.id,(n:Int)))++rest,λX=> ?_⟩;rw[xBs,whL];refine((hr X).append_left _).trans ?_;rw[<- y6a,<- y6a,show n+1+k=n+(k+1)by omega];exact y7y.append_right _
structure MSt.Rep (s:MSt) (p:Prd) (B:List (List zI)):Prop where
 ep:s.p=p
 bl:s.books.length=B.length
 bk:∀(k:Nat) (b:Book) (L:List zI),s.books[k]? =av b->B[k]? =av L->b.Rep L
 wh:s.wh.Perm (whL 0 B)
 ids:((whL 0 B).map (·.1)).Nodup
def mJ (B:List (List zI)) (id:Int):Option Nat:=B.findIdx? λL=>wS L id
def gZ {B:List (List zI)} {id:Int} {k:Nat} (h:mJ B id=av k):∃L,B[k]? =av L/\wS L id=ar:=by
 rw[mJ,y9c]at h;obtain⟨h1,h2,_⟩:=h;exact⟨_,y6v h1,h2⟩
def z3o {B:List (List zI)} {id:Int} (h:mJ B id=aw):∀L∈B,wS L id=aq:=by
 rw[mJ,xAk]at h;exact h
def zVe:∀{l:List (Int×Int)},(l.map (·.1)).Nodup->∀{k x:Int},(k,x)∈l->zDm l k=av x
 |[],_,k,x,hx=>by cases hx
 |p::l,h,k,x,hx=>by
  rw[y6i,y8k]at h;rw[zDm,xBw];rcases y6o.1 hx with ex|hx
  ·subst ex;simp
  ·have:p.1≠k:=by rintro e;exact h.1 (e▸y6x (f:=(·.1)) hx)
   rw[y6g this];exact zVe h.2 hx
def yCs {l:List (Int×Int)} {k:Int} (h:k∉l.map (·.1)):zDm l k=aw:=by
 rw[zDm,Option.map_eq_none_iff,List.find?_eq_none];intro x hx e;have e:x.1=k:=by simpa using e
 exact h (e▸y6x (f:=(·.1)) hx)
def MSt.Rep.keys {s:MSt} {p:Prd} {B:List (List zI)} (h:s.Rep p B):(s.wh.map (·.1)).Nodup:=(h.wh.map (·.1)).nodup_iff.2 h.ids
def MSt.Rep.at_ {s:MSt} {p:Prd} {B:List (List zI)} (h:s.Rep p B) (id:Int):zDm s.wh id=(mJ B id).map (λk:Nat=>(k:Int)):=by
 cases hi:mJ B id with
 |none=>
  refine yCs λhm=> ?_
  rw[(h.wh.map (·.1)).mem_iff]at hm
  obtain⟨x,hx,rfl⟩:=y7f.1 hm;obtain⟨k,L,h1,h2,_⟩:=whL_mem.1 hx;have:=z3o hi L (y6e h1);rw[hasId_iff.2 h2]at this;cases this
 |some k=>
  obtain⟨L,h1,h2⟩:=gZ hi;refine zVe h.keys (h.wh.mem_iff.2 (whL_mem.2 ⟨k,L,h1,hasId_iff.1 h2,by simp⟩))
def kO (B:List (List zI)) (id q:Int):List (List zI)×Int:=match mJ B id with
 |none=>(B,26)
 |some k=>(B.set k (x7 (B.getD k []) id q).1,(x7 (B.getD k []) id q).2)
def zOf {L:List zI} (h:(L.map (·.id)).Nodup) (id q:Int):((x7 L id q).1.map (·.id)=L.map (·.id)/\wS (x7 L id q).1 id=wS L id)\/((x7 L id q).1=L.filter (λo=> !decide (o.id=id))/\wS (x7 L id q).1 id=aq):=by
 rw[x7];by_cases h1:wS L id=aq
 ·rw[y5v h1];exact .inl ⟨rfl,rfl⟩
 have h1:wS L id=ar:=by simpa using h1
 rw[y5t (by rw[h1];decide)];by_cases h2:q<1\/(dQ L id).qty<q
 ·rw[y5v h2];exact .inl ⟨rfl,rfl⟩
 rw[y5t h2];dsimp only;by_cases h3:(dQ L id).qty=q
 ·refine .inr ?_;have e:gB L id q=L.filter λo=> !decide (o.id=id):=by rw[<- h3];exact zSs h h1
  refine⟨e,?_⟩;rw[e,wS,xBy];intro o ho;rw[y7t]at ho;simpa using ho.2
 ·refine .inl ?_;have hm:(gB L id q).map (·.id)=L.map (·.id):=by
   have:gB L id q=L.map λo=>if o.id=id then{o with qty:=o.qty-q}else o:=by
    rw[gB,<- List.filterMap_eq_map];refine mW λo ho=> ?_
    simp only[Function.comp];by_cases e:o.id=id
    ·have hg:=sN h ho;rw[e]at hg;rw[y5v e,y5v e,y5t (λe2=>h3 (by rw[hg];exact e2))]
    ·rw[y5t e,y5t e]
   rw[this,y8i];refine y7d λo _=> ?_
   simp only[Function.comp];split<;>rfl
  refine⟨hm,?_⟩;rw[xBv,hasId_iff,hasId_iff,hm]
def z7g:∀{l:List (Int×Int)} {k:Int},(l.map (·.1)).Nodup->z3m k l=l.filter λx=> !decide (x.1=k)
 |[],k,_=>rfl
 |(a,b)::l,k,h=>by
  rw[y6i,y8k]at h;rw[z3m];by_cases e:k=a
  ·subst e;rw[y5v rfl,xAs (by simp)];symm;rw[xBm];intro x hx;have:x.1≠k:=λe=>h.1 (e▸y6x (f:=(·.1)) hx)
   simp[this]
  ·rw[y5t e,xAr (by simp[Ne.symm e]),z7g h.2]
def z1q:∀{l:List (Int×Int)} {k x:Int},k∉l.map (·.1)->zYr k x l=l++[(k,x)]
 |[],k,x,_=>rfl
 |p::l,k,x,h=>by
  rw[y6i,y6o,not_or]at h;rw[zYr,y5t h.1,z1q h.2];rfl
def hP {α:Type} {l:List α} {k:Nat} {x:α} (h:l[k]? =av x):l.set k x=l:=by
 apply y9q;intro i;rw[y9j];split
 ·rename_i e;subst e;rw[y5v (y5x.1 h).1,h]
 ·rfl
def MSt.Rep.set {s:MSt} {p:Prd} {B:List (List zI)} (h:s.Rep p B) {k:Nat} {L':List zI} {b':Book} (hb:b'.Rep L') (hk:k<B.length) {wh':List (Int×Int)} (hw:wh'.Perm (whL 0 (B.set k L'))) (hi:((whL 0 (B.set k L')).map (·.1)).Nodup):({s with books:=s.books.set k b',wh:=wh'}:MSt).Rep p (B.set k L'):=by
 refine⟨h.ep,by simpa using h.bl,λj b L h1 h2=> ?_,hw,hi⟩;by_cases e:k=j
 ·subst e;have h1:(s.books.set k b')[k]? =av b:=h1;rw[dL (by rw[h.bl];exact hk)]at h1;rw[dL hk]at h2;cases h1;cases h2;exact hb
 ·have h1:(s.books.set k b')[j]? =av b:=h1;rw[uL e]at h1 h2;exact h.bk j b L h1 h2
def MSt.Rep.take {s:MSt} {p:Prd} {B:List (List zI)} (h:s.Rep p B) {id q:Int} {k:Nat} (hi:mJ B id=av k) {L:List zI} (hL:B[k]? =av L) (hn:(L.map (·.id)).Nodup) {b':Book} (hb:b'.Rep (x7 L id q).1):
 ({s with books:=s.books.set k b',wh:=if wS (x7 L id q).1 id=ar then s.wh else z3m id s.wh}:MSt).Rep p (kO B id q).1:=by
 have hk:=(y5x.1 hL).1;have ht:(kO B id q).1=B.set k (x7 L id q).1:=by simp only[kO,hi,zT hL]
 obtain⟨L2,e1,hh⟩:=gZ hi;rw[hL]at e1;cases e1;obtain⟨rest,hr⟩:=zLe (B:=B) 0 k hk;have hL0:=hr L;rw[hP hL]at hL0;rw[ht];rcases zOf hn id q with⟨e1,e2⟩|⟨e1,e2⟩
 ·have hm:∀X Y:List zI,X.map (·.id)=Y.map (·.id)->X.map (λo=>(o.id,((0+k:Nat):Int)))=Y.map (λo=>(o.id,((0+k:Nat):Int))):=by
   intro X Y e;have:=congrArg (aa λi:Int=>(i,((0+k:Nat):Int))) e;rw[y8i,y8i]at this;exact this
  have hp:(whL 0 (B.set k (x7 L id q).1)).Perm (whL 0 B):=by
   refine(hr _).trans ?_;rw[hm _ _ e1];exact hL0.symm
  rw[e2,hh,y5v rfl];exact h.set hb hk (h.wh.trans hp.symm) ((hp.map (·.1)).nodup_iff.2 h.ids)
 ·rw[e2,y5t (by decide)];have hrest:∀x∈rest,x.1≠id:=by
   intro x hx e;have hnd:=(hL0.map (·.1)).nodup_iff.1 h.ids
   rw[y6d,y8i]at hnd;have h1:id∈L.map ((·.1)∘λo:zI=>(o.id,((0+k:Nat):Int))):=hasId_iff.1 hh
   exact(y8d.1 hnd).2.2 id h1 x.1 (y6x (f:=(·.1)) hx) e.symm
  have hp:(whL 0 (B.set k (x7 L id q).1)).Perm ((whL 0 B).filter λx=> !decide (x.1=id)):=by
   refine(hr _).trans (.trans ?_ (hL0.filter _).symm);rw[e1,y9w,List.filter_map];have:rest.filter (λx=> !decide (x.1=id))=rest:=by
    rw[xBm];intro x hx;simp[hrest x hx]
   rw[this];exact .refl _
  refine h.set hb hk ?_ ((hp.map (·.1)).nodup_iff.2 (h.ids.sublist (List.Sublist.map _ xBn)))
  rw[z7g h.keys];exact(h.wh.filter _).trans hp.symm
def z2z (p:Prd) (B:List (List zI)) (inst id:Int) (s price q:Int):List (List zI)×Int:=
 if inst<0\/B.length<=inst then(B,20)else if(mJ B id).isSome=ar then(B,25)else if 250<=(whL 0 B).length then(B,13)else if p.price inst price≠0 then(B,p.price inst price)
 else(B.set inst.toNat (zKu (B.getD inst.toNat []) s id price q).1,(zKu (B.getD inst.toNat []) s id price q).2)
def yFy (L:List zI) (s id p q:Int):((zWu L s id p q).map (·.id)).Perm (id::L.map (·.id)):=by
 have:∀X:List zI,((X.takeWhile (before s p)++⟨id,s,p,q,gX L s p⟩::X.dropWhile (before s p)).map (·.id)).Perm (id::X.map (·.id)):=by
  intro X
  conv=>rhs;rw[<- xBo (p:=before s p) (l:=X)]
  rw[y6d,y6i,y6d];exact y6j
 rw[zWu];split
 ·refine(this _).trans ?_;rw[z7m]
 ·exact this _
def MSt.Rep.add {s:MSt} {p:Prd} {B:List (List zI)} (h:s.Rep p B) (inst id:Int) (sd:Bool) (price q:Int):
 (MSt.addF ⟨s,inst,id,sd,price,q⟩).1.Rep p (z2z p B inst id (zC sd) price q).1/\(MSt.addF ⟨s,inst,id,sd,price,q⟩).2=(z2z p B inst id (zC sd) price q).2:=by
 have hsd:zC sd=1\/zC sd=2:=by cases sd;exact .inl rfl;exact .inr rfl
 rw[MSt.addF,z2z];dsimp only;rw[h.bl,h.at_,h.wh.length_eq,show s.p.price inst price=p.price inst price by rw[h.ep],Option.isSome_map];by_cases c1:inst<0\/(B.length:Int)<=inst
 ·rw[y5v c1,y5v c1];exact⟨h,rfl⟩
 rw[y5t c1,y5t c1];by_cases c2:(mJ B id).isSome=ar
 ·rw[y5v c2,y5v c2];exact⟨h,rfl⟩
 rw[y5t c2,y5t c2];by_cases c3:250<=(whL 0 B).length
 ·rw[y5v c3,y5v c3];exact⟨h,rfl⟩
 rw[y5t c3,y5t c3];by_cases c4:p.price inst price≠0
 ·rw[y5v c4,y5v c4];exact⟨h,rfl⟩
 rw[y5t c4,y5t c4];obtain⟨k,hk⟩:∃k:Nat,inst=k:=⟨inst.toNat,oM⟩
 subst hk;rw[y6m];have hkl:k<B.length:=by omega
 obtain⟨b,hb⟩:=yA (l:=s.books) (i:=k) (by rw[h.bl];exact hkl);obtain⟨L,hL⟩:=yA (l:=B) (i:=k) hkl;have hba:s.bookAt k=b:=by rw[MSt.bookAt,y6m];exact zT hb
 rw[hba,zT hL];obtain⟨r1,r2⟩:=(h.bk k b L hb hL).add hsd id price q;refine⟨?_,r2⟩;rw[r2];obtain⟨rest,hr⟩:=zLe (B:=B) 0 k hkl;have hL0:=hr L;rw[hP hL]at hL0;have hcase:(zKu L (zC sd) id price q).2≠0/\(zKu L (zC sd) id price q).1=L\/(zKu L (zC sd) id price q).2=0/\(zKu L (zC sd) id price q).1=zWu L (zC sd) id price q:=by
  rw[zKu]
  repeat' split
  ·exact .inl ⟨by simp,rfl⟩
  ·exact .inl ⟨by simp,rfl⟩
  ·exact .inl ⟨by simp,rfl⟩
  ·exact .inr ⟨rfl,rfl⟩
 rcases hcase with⟨e1,e2⟩|⟨e1,e2⟩
 ·rw[y5t e1];refine h.set r1 hkl ?_ ?_
  ·rw[e2,hP hL];exact h.wh
  ·rw[e2,hP hL];exact h.ids
 ·rw[y5v e1];have hnk:id∉s.wh.map (·.1):=by
   intro hm;obtain⟨x,hx,rfl⟩:=y7f.1 hm;have:=zVe h.keys hx;rw[h.at_]at this;cases hq:mJ B x.1 with
   |none=>rw[hq]at this;cases this
   |some j=>rw[hq]at c2;exact c2 rfl
  have hp:(whL 0 (B.set k (zKu L (zC sd) id price q).1)).Perm ((id,(k:Int))::whL 0 B):=by
   refine(hr _).trans (.trans ?_ (hL0.symm.cons _));rw[e2,<- y7l];refine List.Perm.append_right _ ?_;have:=(yFy L (zC sd) id price q).map λi:Int=>(i,(k:Int))
   rw[y8i,y6i,y8i]at this;rw[y6t];exact this
  refine h.set r1 hkl ?_ ((hp.map (·.1)).nodup_iff.2 (y8k.2 ⟨?_,h.ids⟩))
  ·rw[z1q hnk];exact(xAf _ _).trans ((h.wh.cons _).trans hp.symm)
  ·rw[<- (h.wh.map (·.1)).mem_iff];exact hnk
def zVs:∀(n k:Nat),whL k (ab n [])=[]
 |0,_=>rfl
 |n+1,k=>by rw[xAa,whL,zVs];rfl
def z4h (p:Prd):(mS p).Rep p (ab p.count []):=by
 refine⟨rfl,by simp[mS],λk b L h1 h2=> ?_,?_,?_⟩
 ·have e1:b=book0:=xBl (y6e (show(ab p.count book0)[k]? =av b from h1));have e2:L=[]:=xBl (y6e h2);rw[e1,e2];exact yBl
 ·rw[zVs];exact .refl _
 ·rw[zVs];exact List.nodup_nil
def ySl (s:Bool):Con:=con1 BkL (λi=>[.nm 0 0,zA (zC s)]) (λi=>[z7 i.b]) (λi=>i.b.Rep i.L) (λ_=> .own 1) (λi=>[z7 i.b,.own 41 3 ((gR i.L (zC s)).map lvE)])
def lad1C:Con:=ySl aq
def lad2C:Con:=ySl ar
def y2e (s:Bool) (i:BkL):List SAnn:=[{ι:=Nat,slots:=λj=>[(5,.own 0),(19,zA j)],rows:=λj=>[.own 41 3 (((gR i.L (zC s)).take j).map lvE)]}]
structure BkT where
 b:Book
 L:List zI
 s:Bool
def ladC:Con:=con1 BkT (λi=>[.nm 0 0,zA (zC i.s)]) (λi=>[z7 i.b]) (λi=>i.b.Rep i.L) (λ_=> .own 1) (λi=>[z7 i.b,.own 41 3 ((gR i.L (zC i.s)).map lvE)])
@[reducible] def yDy (s:MSt):List AObj:=[xR s 0,xR s 1,xR s 2,xR s 3,xR s 4]
def topsOC:Con:=con1 MSt (λ_=>[.nm 0 0]) (λs=>yDy s) MSt.cntOk (λs=> .own 5) (λs=>yDy s++[.own 252 6 (s.tops.map z5)])
structure StI where
 s:MSt
 p:Prd
 B:List (List zI)
 id:Int
 q:Int
def stakeC:Con where
 ι:=StI
 pat:=λi=>[.nm 0 0,zA i.id,zA i.q]
 pre:=λi=>[zD i.s]
 cnd:=λi=>i.s.Rep i.p i.B/\i.B.length<=1000
 alts:=λi=>[{o:=MSt,res:=λ_=>zA (kO i.B i.id i.q).2,post:=λs=>[zD s],rel:=λs=>s.Rep i.p (kO i.B i.id i.q).1}]
def zZ (B:List (List zI)) (id:Int):Int×zI×Bool:=match mJ B id with
 |none=>(0,yTs,aq)
 |some k=>(k,dQ (B.getD k []) id,ar)
def sfindC:Con:=con1 StI (λi=>[.nm 0 0,zA i.id]) (λi=>[zD i.s]) (λi=>i.s.Rep i.p i.B/\i.B.length<=1000) (λi=> .tup [zA (zZ i.B i.id).1,yCx (zZ i.B i.id).2.1,yR (zZ i.B i.id).2.2]) (λi=>[zD i.s])
def zEp (a:Nat->Prop) (b:Nat) (c:Nat->Nat) (d:Nat) (e:BkL) (f:ArN):Prop:=a b/\c b<c d/\dh (am [V.nm 1 0,V.own 2,V.own 3,V.mp 4,V.d (dI e.b.top1),V.d (dI e.b.top2),V.own 5,V.d (D.v (.bool e.b.has1)),V.d (D.v (.bool e.b.has2))] (299:TypeId))/\ag Arena 3 zG f.a=ag Arena 3 zG e.b.a/\dh (ao 304 2 (aa zB e.b.buys))/\dh (ao 304 2 (aa zB e.b.sells))/\dh (ap (atE e.b.at_))/\dh (ao 3 1 (iE e.b.spare))
def aA (a:Nat) (b:BkL):=(ae a (gR b.L (zC aq)))
def yRz (i:BkL):Prop:=
 ∃(a:Int),a=zC aq/\True/\∀(b:Unit),True->cnd (kA a) (∃(c:Unit),dh i.b.top1/\dh i.b.top2/\dh i.b.has1/\dh i.b.has2/\dh (ag Arena 3 zG i.b.a)/\dh (aa zB i.b.buys)/\dh (aa zB i.b.sells)/\dh (atE i.b.at_)/\dh (iE i.b.spare)/\aa lvE (gR i.L (zC aq))=[]/\True) (∃(c:Nat),(↑c:Int)=0/\aa lvE (aA c i)=[]/\∃(d:Nat->Prop),∃(e:Nat->Nat),d c/\∀(f:Nat),d f->cnd (decide ((↑f:Int)<(↑(aa zB i.b.buys).length:Int))) ((0<=(↑f:Int)/\(↑f:Int)<(↑(aa zB i.b.buys).length:Int))/\∃(g:Int),∃(h:Int),zE (aa zB i.b.buys) (↑f:Int).toNat 0 2=av [dI g,dI h]/\∃(j:ArN),j.n=h/\ag Arena 3 zG j.a=ag Arena 3 zG i.b.a/\True/\∀(k:Unit),True->h=h/\True/\g=g/\∃(l:ArN),l.n=h/\ag Arena 3 zG l.a=ag Arena 3 zG j.a/\True/\∀(m:Unit),True->g=g/\((aa lvE (aA f i)).length+1)*(24:Nat)<=(140737488355328:Nat)/\∃(n:Nat),(↑n:Int)=au.wrap ((↑f:Int)+1)/\aa lvE (aA n i)=aa lvE (aA f i)++[[dI g,dI ((j.a.qAt j.n).total),dI ((l.a.qAt l.n).count)]]/\zEp d n e f i l) (∃(g:Unit),dh i.b.top1/\dh i.b.top2/\dh i.b.has1/\dh i.b.has2/\dh (ag Arena 3 zG i.b.a)/\dh (aa zB i.b.buys)/\dh (aa zB i.b.sells)/\dh (atE i.b.at_)/\dh (iE i.b.spare)/\aa lvE (gR i.L (zC aq))=aa lvE (aA f i)/\True))
def aB (a:Nat) (b:BkL):=(ae a (gR b.L (zC ar)))
def ySd (i:BkL):Prop:=
 ∃(a:Int),a=zC ar/\True/\∀(b:Unit),True->cnd (kA a) (∃(c:Unit),dh i.b.top1/\dh i.b.top2/\dh i.b.has1/\dh i.b.has2/\dh (ag Arena 3 zG i.b.a)/\dh (aa zB i.b.buys)/\dh (aa zB i.b.sells)/\dh (atE i.b.at_)/\dh (iE i.b.spare)/\aa lvE (gR i.L (zC ar))=[]/\True) (∃(c:Nat),(↑c:Int)=0/\aa lvE (aB c i)=[]/\∃(d:Nat->Prop),∃(e:Nat->Nat),d c/\∀(f:Nat),d f->cnd (decide ((↑f:Int)<(↑(aa zB i.b.sells).length:Int))) ((0<=(↑f:Int)/\(↑f:Int)<(↑(aa zB i.b.sells).length:Int))/\∃(g:Int),∃(h:Int),zE (aa zB i.b.sells) (↑f:Int).toNat 0 2=av [dI g,dI h]/\∃(j:ArN),j.n=h/\ag Arena 3 zG j.a=ag Arena 3 zG i.b.a/\True/\∀(k:Unit),True->h=h/\True/\g=g/\∃(l:ArN),l.n=h/\ag Arena 3 zG l.a=ag Arena 3 zG j.a/\True/\∀(m:Unit),True->g=g/\((aa lvE (aB f i)).length+1)*(24:Nat)<=(140737488355328:Nat)/\∃(n:Nat),(↑n:Int)=au.wrap ((↑f:Int)+1)/\aa lvE (aB n i)=aa lvE (aB f i)++[[dI g,dI ((j.a.qAt j.n).total),dI ((l.a.qAt l.n).count)]]/\zEp d n e f i l) (∃(g:Unit),dh i.b.top1/\dh i.b.top2/\dh i.b.has1/\dh i.b.has2/\dh (ag Arena 3 zG i.b.a)/\dh (aa zB i.b.buys)/\dh (aa zB i.b.sells)/\dh (atE i.b.at_)/\dh (iE i.b.spare)/\aa lvE (gR i.L (zC ar))=aa lvE (aB f i)/\True))
def sF (a:Nat×Top->Prop) (b:Nat×Top) (c:MSt) (d:Nat) (e:Book):Prop:=a b/\dh (ao 3 1 [[dI 1],[dI 2]])/\dh (xR c 0)/\ak 241 Book 6 zP (c.books.set (↑d:Int).toNat e) aw=xR c 1/\dh (xR c 2)/\dh (xR c 3)/\dh (xR c 4)
def zCg (a:MSt) (b:Nat×Top) (c:Nat×Top->Prop) (d:Nat) (e:Book):Prop:=∃(f:Nat×Top),aa z5 (xY a f.fst f.snd)=aa z5 (xY a b.fst b.snd)/\sF c f a d e
def yHn (s:MSt):Prop:=
 (zAk s)/\∃(a:Nat),(↑a:Int)=0/\aa z5 (qC s a)=ab (↑s.books.length:Int).toNat [D.v (.bool aq),D.v (.bool aq),dI 0,dI 0,dI 0,dI 0]/\∃(b:Nat->Prop),∃(c:Nat->Nat),b a/\∀(d:Nat),b d->cnd (decide ((↑d:Int)<(↑s.books.length:Int))) ((0<=(↑d:Int)/\(↑d:Int)<(↑s.books.length:Int))/\(↑d:Int).toNat<s.books.length/\∃(e:Nat×Top),aa z5 (xY s e.fst e.snd)=aa z5 (qC s d)/\∃(f:Nat×Top->Prop),(((0:Int)<=(0:Int)/\0<(↑(2:Nat):Int))/\∃(g:Int),zE [[dI 1],[dI 2]] (Int.toNat 0) 0 1=av [dI g]/\∃(h:Book),s.books[(↑d:Int).toNat]?=av h/\∃(j:BkS),zC j.side=g/\z7 j.b=z7 h/\(vN j)/\∀(k:Unit),True->∃(l:Book),z7 j.b=z7 l/\dh ((↑d:Int).toNat)/\(↑d:Int).toNat<s.books.length/\cnd (zX j).snd ((qW d s e)/\(qW d s e)/\(qW d s e)/\(↑d:Int).toNat<(uY s e).length/\(b8 d s e)/\(b8 d s e)/\dh ((zX j).fst.qty)/\dh ((zX j).fst.price)/\(↑d:Int).toNat<(aI s e d).length/\(l6 d s e j)/\dh ((zX j).fst.qty)/\(↑d:Int).toNat<(cA s e d j).length/\∃(m:Nat×Top),aa z5 (xY s m.fst m.snd)=zW (cA s e d j) (↑d:Int).toNat 4 [dI (hZ j)]/\sF f m s d l) (zCg s e f d l))/\∀(g:Nat×Top),f g->∃(h:Nat×Top),aa z5 (xY s h.fst h.snd)=aa z5 (xY s g.fst g.snd)/\∃(j:Nat×Top->Prop),((fH)/\∃(k:Int),zE [[dI 1],[dI 2]] (au.wrap ((0:Int)+(1:Int))).toNat 0 1=av [dI k]/\∃(l:Book),s.books[(↑d:Int).toNat]?=av l/\∃(m:BkS),zC m.side=k/\z7 m.b=z7 l/\(vN m)/\∀(n:Unit),True->∃(p:Book),z7 m.b=z7 p/\dh ((↑d:Int).toNat)/\(↑d:Int).toNat<s.books.length/\cnd (zX m).snd ((qW d s h)/\(qW d s h)/\(qW d s h)/\(↑d:Int).toNat<(uY s h).length/\(aD d s h)/\(aD d s h)/\dh ((zX m).fst.qty)/\dh ((zX m).fst.price)/\(↑d:Int).toNat<(aJ s h d).length/\(zAj d s h m)/\dh ((zX m).fst.qty)/\(↑d:Int).toNat<(cM s h d m).length/\∃(q:Nat×Top),aa z5 (xY s q.fst q.snd)=zW (cM s h d m) (↑d:Int).toNat 5 [dI (hZ m)]/\sF j q s d p) (zCg s h j d p))/\∀(k:Nat×Top),j k->∃(l:Nat),(↑l:Int)=au.wrap ((↑d:Int)+1)/\aa z5 (qC s l)=aa z5 (xY s k.fst k.snd)/\b l/\c l<c d/\dh (xR s 0)/\dh (xR s 1)/\dh (xR s 2)/\dh (xR s 3)/\dh (xR s 4)) (∃(e:Unit),dh (sb s.p.code)/\dh s.p.tick/\dh s.p.low/\dh s.p.high/\dh s.p.wide/\dh s.p.rule/\dh s.p.top/\dh s.p.least/\dh s.p.part/\ak 241 Book 6 zP s.books aw=xR s 1/\dh (yS s.wh)/\aj 1 (iE s.p.months)=xR s 3/\aj 1 (iE s.p.settle)=xR s 4/\aa z5 s.tops=aa z5 (qC s d)/\True)
def zCo (a:MSt) (b:StI):Prop:=aj 1 (iE a.p.months)=aj 1 (iE b.s.p.months)/\aj 1 (iE a.p.settle)=aj 1 (iE b.s.p.settle)/\a.Rep b.p (kO b.B b.id b.q).fst
def zCw (a:MSt) (b:StI):Prop:=yS a.wh=yS b.s.wh/\zCo a b
def tR (a:StI) (b:Int) (c:Bool):Prop:=kQ (ax au a.id) (yS a.s.wh)=av [dI b]/\c=ar\/kQ (ax au a.id) (yS a.s.wh)=aw/\[dI b]=[dI 0]/\c=aq
def aQ (a:StI):Prop:=∀(b:Value×List D),b∈yS a.s.wh->like (ax au a.id) b.fst=ar
def yJr (i:StI):Prop:=
 (aQ i)/\∃(a:Bool),∃(b:Int),(tR i b a)/\cnd (!a) (∃(c:MSt),(kO i.B i.id i.q).snd=26/\sb c.p.code=sb i.s.p.code/\c.p.tick=i.s.p.tick/\c.p.low=i.s.p.low/\c.p.high=i.s.p.high/\c.p.wide=i.s.p.wide/\c.p.rule=i.s.p.rule/\c.p.top=i.s.p.top/\c.p.least=i.s.p.least/\c.p.part=i.s.p.part/\ak 241 Book 6 zP c.books aw=ak 241 Book 6 zP i.s.books aw/\zCw c i) ((0<=b/\b<(↑i.s.books.length:Int))/\b.toNat<i.s.books.length/\∃(c:Book),i.s.books[b.toNat]?=av c/\∃(d:FlI),d.id=i.id/\d.qty=i.q/\z7 d.b=z7 c/\d.b.Rep d.L/\∀(e:Book),e.Rep (x7 d.L d.id d.qty).fst->∃(f:Book),z7 e=z7 f/\dh b.toNat/\b.toNat<i.s.books.length/\(0<=b/\b<(↑(i.s.books.set b.toNat f).length:Int))/\b.toNat<(i.s.books.set b.toNat f).length/\∃(g:Book),(i.s.books.set b.toNat f)[b.toNat]?=av g/\∃(h:FlI),h.id=i.id/\z7 h.b=z7 g/\h.b.Rep h.L/\∀(j:Unit),True->∃(k:Book),z7 h.b=z7 k/\dh b.toNat/\b.toNat<(i.s.books.set b.toNat f).length/\cnd (!wS h.L h.id) ((aQ i)/\∃(l:MSt),(kO i.B i.id i.q).snd=(x7 d.L d.id d.qty).snd/\sb l.p.code=sb i.s.p.code/\l.p.tick=i.s.p.tick/\l.p.low=i.s.p.low/\l.p.high=i.s.p.high/\l.p.wide=i.s.p.wide/\l.p.rule=i.s.p.rule/\l.p.top=i.s.p.top/\l.p.least=i.s.p.least/\l.p.part=i.s.p.part/\ak 241 Book 6 zP l.books aw=ak 241 Book 6 zP ((i.s.books.set b.toNat f).set b.toNat k) aw/\yS l.wh=zBr (ax au i.id) (yS i.s.wh)/\zCo l i) (∃(l:MSt),(kO i.B i.id i.q).snd=(x7 d.L d.id d.qty).snd/\sb l.p.code=sb i.s.p.code/\l.p.tick=i.s.p.tick/\l.p.low=i.s.p.low/\l.p.high=i.s.p.high/\l.p.wide=i.s.p.wide/\l.p.rule=i.s.p.rule/\l.p.top=i.s.p.top/\l.p.least=i.s.p.least/\l.p.part=i.s.p.part/\ak 241 Book 6 zP l.books aw=ak 241 Book 6 zP ((i.s.books.set b.toNat f).set b.toNat k) aw/\zCw l i))
def y2b (i:BkL) (h:lad1C.cnd i):yRz i:=by
 obtain⟨Q,c,ht,hL⟩:i.b.Rep i.L:=h;have hsm:=c.small;obtain⟨⟨ha1,ha2⟩,hb1,hb2,hsp⟩:=id hsm;have hlad:=c.lad (.inl rfl);rw[<- hL]at hlad;have hlad:gR i.L (zC aq)=i.b.buys.map i.b.told:=hlad;unfold yRz zEp aA kA dI;simp only[hlad,y5u];refine⟨1,rfl,trivial,λ_ _=>Cv.cnd.mk (λe=>absurd e Z8) λ_=>⟨0,by(first|exact rfl|exact trivial),by(first|exact rfl|exact trivial),λj=>j<=i.b.buys.length,λj=>i.b.buys.length-j,y6z _,λj hj=>zH (λe=> ?_) (λe=> ?_)⟩⟩
 ·obtain⟨r,hr⟩:=yA (l:=i.b.buys) (i:=j) oM;have hi:=c.cnt;refine⟨⟨oM,oM⟩,r.price,r.queue,elA hr (by simp[zB]) rfl,⟨i.b.a,r.queue⟩,by(first|exact rfl|exact trivial),by(first|exact rfl|exact trivial),trivial,λ_ _=>⟨by(first|exact rfl|exact trivial),by(first|exact rfl|exact trivial),by(first|exact rfl|exact trivial),⟨i.b.a,r.queue⟩,by(first|exact rfl|exact trivial),by(first|exact rfl|exact trivial),by(first|exact rfl|exact trivial),λ_ _=>⟨by(first|exact rfl|exact trivial),by simp only[y6l,y5u];omega,j+1,wjn oM,?_,oM,Z9,k0q⟩⟩⟩;have hrt:(i.b.buys.map i.b.told)[j]? =av (i.b.told r):=by rw[y7k,hr];rfl
  rw[y7c,hrt];simp[lvE,Book.told]
 ·rw[y6f (by rw[y5u];omega)];exact⟨(),k0q⟩
def yOm:lad1C.ok Tryz.prog 158:=okw mixed (gokc lN (gokc zHy (gokc pT gok0))) 1 (λ_=>[]) (λi=>y2e aq i) [0] Tryz.func158 y2b
def yZk (i:BkL) (h:lad2C.cnd i):ySd i:=by
 obtain⟨Q,c,ht,hL⟩:i.b.Rep i.L:=h;have hsm:=c.small;obtain⟨⟨ha1,ha2⟩,hb1,hb2,hsp⟩:=id hsm;have hlad:=c.lad (.inr rfl);rw[<- hL]at hlad;have hlad:gR i.L (zC ar)=i.b.sells.map i.b.told:=hlad;unfold ySd aB zEp kA dI;simp only[hlad,y5u];refine⟨2,rfl,trivial,λ_ _=>Cv.cnd.mk (λe=>absurd e Z8) λ_=>⟨0,by(first|exact rfl|exact trivial),by(first|exact rfl|exact trivial),λj=>j<=i.b.sells.length,λj=>i.b.sells.length-j,y6z _,λj hj=>zH (λe=> ?_) (λe=> ?_)⟩⟩
 ·obtain⟨r,hr⟩:=yA (l:=i.b.sells) (i:=j) oM;have hi:=c.cnt;refine⟨⟨oM,oM⟩,r.price,r.queue,elA hr (by simp[zB]) rfl,⟨i.b.a,r.queue⟩,by(first|exact rfl|exact trivial),by(first|exact rfl|exact trivial),trivial,λ_ _=>⟨by(first|exact rfl|exact trivial),by(first|exact rfl|exact trivial),by(first|exact rfl|exact trivial),⟨i.b.a,r.queue⟩,by(first|exact rfl|exact trivial),by(first|exact rfl|exact trivial),by(first|exact rfl|exact trivial),λ_ _=>⟨by(first|exact rfl|exact trivial),by simp only[y6l,y5u];omega,j+1,wjn oM,?_,oM,Z9,k0q⟩⟩⟩;have hrt:(i.b.sells.map i.b.told)[j]? =av (i.b.told r):=by rw[y7k,hr];rfl
  rw[y7c,hrt];simp[lvE,Book.told]
 ·rw[y6f (by rw[y5u];omega)];exact⟨(),k0q⟩
def yOj:lad2C.ok Tryz.prog 158:=okw mixed (gokc lN (gokc zHy (gokc pT gok0))) 1 (λ_=>[]) (λi=>y2e ar i) [0] Tryz.func158 yZk
def yWv:ladC.ok Tryz.prog 158:=λj=>match j with
 |⟨b,L,aq⟩=>yOm ⟨b,L⟩
 |⟨b,L,ar⟩=>yOj ⟨b,L⟩
def yXq (s:MSt) (h:topsOC.cnd s):yHn s:=by
 obtain⟨h1,h2⟩:s.cntOk:=h;unfold yHn hZ qW vN fH b8 aD zAk l6 cA aI zAj cM dU zX aJ uY zCg sF dI;have p48:(2:Int) ^ (48:Nat)=281474976710656:=by decide
 refine⟨⟨oM,oM,oM,by rw[p48];omega⟩,0,rfl,?_,λj=>j<=s.books.length,λj=>s.books.length-j,oM,λj hj=>zH (λhlt=> ?_) (λhlt=> ?_)⟩
 ·rw[qC,y6d,List.map_replicate];rfl
 ·have hj':j<s.books.length:=by omega
  obtain⟨b,hb⟩:=yA hj';have hc:=h2 b (y6e hb);simp only[y6m];have ha:∀x,(aa z5 (xY s j x)).length=s.books.length:=λx=>by rw[y5u,zPg hj']
  have w1:au.wrap (0+1)=1:=by decide
  have w2:(0+1) % ((2:Int) ^ au.bits).natAbs=1:=by decide
  refine⟨⟨oM,oM⟩,oM,(j,top0),by rw[zJu hj'],λx=>x=(j,top0.buy (b.best b.buys)),⟨⟨Z8,Z8⟩,1,rfl,b,hb,⟨aq,b⟩,rfl,rfl,hc,λ_ _=>⟨b,rfl,kp,oM,?_⟩⟩,?_⟩
  ·refine Cv.cnd.mk (λc=> ?_) (λc=> ?_)
   ·have c:(b.best b.buys).2=ar:=c;have e1:=kC (s:=s) hj' (x:=top0) (y:={top0 with has1:=ar}) (f:=0+0+0*1) (ds:=[D.v (.bool ar)]) rfl;have e2:=kC (s:=s) hj' (x:={top0 with has1:=ar}) (y:={top0 with has1:=ar,p1:=(b.best b.buys).1.price}) (f:=0+2+0*1) (ds:=[D.v (.int .i64 (b.best b.buys).1.price)]) rfl;have e3:=kC (s:=s) hj' (x:={top0 with has1:=ar,p1:=(b.best b.buys).1.price}) (y:={top0 with has1:=ar,p1:=(b.best b.buys).1.price,q1:=(b.best b.buys).1.qty}) (f:=0+4+0*1) (ds:=[D.v (.int .i64 (b.best b.buys).1.qty)]) rfl;dsimp only;simp only[show b.side aq=b.buys from rfl,e1,e2,e3,ha]
    (repeat'(first|exact rfl|exact trivial|assumption|apply az|refineλ(_:Unit) (_:True)=>?_|refine ay () ?_|omega|(dsimp only;omega)))
    refine⟨(j,{top0 with has1:=ar,p1:=(b.best b.buys).1.price,q1:=(b.best b.buys).1.qty}),rfl,?_,?_⟩
    ·rw[Top.buy,y5v c]
    ·(repeat'(first|exact rfl|exact trivial|assumption|apply az|refineλ(_:Unit) (_:True)=>?_|refine ay () ?_|omega|(dsimp only;omega)))
     rw[dJ hb];rfl
   ·have c:(b.best b.buys).2=aq:=c;refine⟨(j,top0),rfl,?_,?_⟩
    ·rw[Top.buy,y5t (by rw[c];simp)]
    ·(repeat'(first|exact rfl|exact trivial|assumption|apply az|refineλ(_:Unit) (_:True)=>?_|refine ay () ?_|omega|(dsimp only;omega)))
     rw[dJ hb];rfl
  ·rintro _ rfl;rw[w1];generalize hx:top0.buy (b.best b.buys)=x;have hx2:b.top=x.sell (b.best b.sells):=by rw[Book.top,hx]
   refine⟨(j,x),rfl,λy=>y=(j,b.top),⟨⟨Z8,Z8⟩,2,rfl,b,hb,⟨ar,b⟩,rfl,rfl,hc,λ_ _=>⟨b,rfl,kp,oM,?_⟩⟩,?_⟩
   ·refine Cv.cnd.mk (λc=> ?_) (λc=> ?_)
    ·have c:(b.best b.sells).2=ar:=c;have e1:=kC (s:=s) hj' (x:=x) (y:={x with has2:=ar}) (f:=0+0+1*1) (ds:=[D.v (.bool ar)]) rfl;have e2:=kC (s:=s) hj' (x:={x with has2:=ar}) (y:={x with has2:=ar,p2:=(b.best b.sells).1.price}) (f:=0+2+1*1) (ds:=[D.v (.int .i64 (b.best b.sells).1.price)]) rfl;have e3:=kC (s:=s) hj' (x:={x with has2:=ar,p2:=(b.best b.sells).1.price}) (y:={x with has2:=ar,p2:=(b.best b.sells).1.price,q2:=(b.best b.sells).1.qty}) (f:=0+4+1*1) (ds:=[D.v (.int .i64 (b.best b.sells).1.qty)]) rfl;dsimp only;simp only[w2,show b.side ar=b.sells from rfl,e1,e2,e3,ha]
     (repeat'(first|exact rfl|exact trivial|assumption|apply az|refineλ(_:Unit) (_:True)=>?_|refine ay () ?_|omega|(dsimp only;omega)))
     refine⟨(j,{x with has2:=ar,p2:=(b.best b.sells).1.price,q2:=(b.best b.sells).1.qty}),rfl,?_,?_⟩
     ·rw[hx2,Top.sell,y5v c]
     ·(repeat'(first|exact rfl|exact trivial|assumption|apply az|refineλ(_:Unit) (_:True)=>?_|refine ay () ?_|omega|(dsimp only;omega)))
      rw[dJ hb];rfl
    ·have c:(b.best b.sells).2=aq:=c;refine⟨(j,x),rfl,?_,?_⟩
     ·rw[hx2,Top.sell,y5t (by rw[c];simp)]
     ·(repeat'(first|exact rfl|exact trivial|assumption|apply az|refineλ(_:Unit) (_:True)=>?_|refine ay () ?_|omega|(dsimp only;omega)))
      rw[dJ hb];rfl
   ·rintro _ rfl;refine⟨j+1,by rw[w64 (by omega)];rfl,?_⟩;refine⟨by dsimp only;rw[zJy hb],?_⟩;exact kp
 ·have hj:j<=s.books.length:=hj;obtain rfl:j=s.books.length:=by omega
  have e:qC s s.books.length=s.tops:=by
   rw[qC,xBh,List.replicate_zero,y6r,y6f (by rw[MSt.tops,y5u];omega)]
  rw[e];exact kp
def zXc:topsOC.ok Tryz.prog 105:=okw mixed (gokc zLi gok0) 0 (λs=>yRj s) (λs=>yRg s) [] Tryz.func105 yXq
def yTd (i:StI) (h:stakeC.cnd i):yJr i:=by
 obtain⟨hR,hB⟩:i.s.Rep i.p i.B/\i.B.length<=1000:=h;have hat:=hR.at_ i.id;unfold yJr aQ tR zCw zCo dI;cases hi:mJ i.B i.id with
 |none=>
  rw[hi]at hat;refine⟨dR _ _,aq,0,.inr ⟨by rw[pQ,hat];rfl,rfl,rfl⟩,Cv.cnd.mk (λ_=>⟨i.s,?_⟩) (λe=>absurd e Z8)⟩;have ht:kO i.B i.id i.q=(i.B,26):=by rw[kO,hi]
  rw[ht];exact(rF8 (rF6 hR))
 |some k=>
  rw[hi]at hat;obtain⟨L,hL,hh⟩:=gZ hi;have hk:=(y5x.1 hL).1;obtain⟨b,hb⟩:=yA (l:=i.s.books) (i:=k) (by rw[hR.bl];exact hk);have hbR:=hR.bk k b L hb hL;have hbl:=hR.bl;have hnd:=hbR.ords.2.1;refine⟨dR _ _,ar,k,.inl ⟨by rw[pQ,hat];rfl,rfl⟩,Cv.cnd.mk (λe=>absurd e Z8) (λ_=> ?_)⟩;rw[y6m];refine⟨⟨oM,oM⟩,oM,b,hb,⟨b,L,i.id,i.q⟩,rfl,rfl,rfl,hbR,λb' hb'=> ?_⟩;have hT:=hR.take (q:=i.q) hi hL hnd hb';have hk2:(kO i.B i.id i.q).2=(x7 L i.id i.q).2:=by simp only[kO,hi,zT hL]
  refine⟨b',rfl,rfl,oM,by rw[y7b];omega,by rw[y7b];omega,b',dL oM,⟨b',(x7 L i.id i.q).1,i.id,0⟩,rfl,rfl,hb',λ_ _=>⟨b',rfl,rfl,by rw[y7b];omega,Cv.cnd.mk (λe=>⟨dR _ _,?_⟩) (λe=> ?_)⟩⟩
  ·have e:wS (x7 L i.id i.q).1 i.id=aq:=by simpa using e
   rw[e,y5t (by decide)]at hT;refine⟨{i.s with books:=i.s.books.set k b',wh:=z3m i.id i.s.wh},hk2,rF8 ⟨rfl,?_,(zXi _ _).symm,rfl,rfl,hT⟩⟩;rw[y9v]
  ·have e:wS (x7 L i.id i.q).1 i.id=ar:=by simpa using e
   rw[e,y5v rfl]at hT;refine⟨{i.s with books:=i.s.books.set k b',wh:=i.s.wh},hk2,rF8 ⟨rfl,?_,rfl,rfl,rfl,hT⟩⟩;rw[y9v]
def zFw:stakeC.ok Tryz.prog 171:=okw mixed (gokc yQb (gokc zXr gok0)) 0 (λ_=>[]) (λ_=>[]) [0] Tryz.func171 yTd
structure BOk (p:Prd) (B:List (List zI)):Prop where
 pc:p.check=0
 ps:p.small
 bl:B.length=p.count
 pr:∀(k:Nat) (L:List zI),B[k]? =av L->∀o∈L,p.price k o.price=0
def motherC:Con:=con1 Bool (λb=>[zA (zC b)]) (λ_=>[]) (λ_=>True) (λb=>zA (zC (!b))) (λ_=>[])
def bK (s:Bool) (p x:Int):Bool:=if s then decide (p<=x)else decide (x<=p)
structure GoI where
 s:Bool
 p:Int
 x:Int
def mgoodC:Con:=con1 GoI (λi=>[zA (zC i.s),zA i.p,zA i.x]) (λ_=>[]) (λ_=>True) (λi=>yR (bK i.s i.p i.x)) (λ_=>[])
def yW (p:Prd) (B:List (List zI)) (inst:Int) (s:Int):Quote×Bool×Bool:=
 let bq:=zV (x5 ⟨p,B.map kD,inst⟩ s) s
 let l:=bestL (B.getD inst.toNat []) s
 if(l.2 && !(bq.2 && btr s bq.1.price l.1.price))=ar then(⟨l.1.price,l.1.qty,⟨0,0⟩,⟨0,0⟩⟩,aq,ar)else(bq.1,bq.2,bq.2)
structure NxI where
 s:MSt
 p:Prd
 B:List (List zI)
 inst:Int
 sd:Bool
def nextC:Con:=con1 NxI (λi=>[.nm 0 0,zA i.inst,zA (zC i.sd)]) (λi=>[zD i.s]) (λi=>i.s.Rep i.p i.B/\BOk i.p i.B/\0<=i.inst/\i.inst<i.B.length)
 (λi=> .tup [zUn (yW i.p i.B i.inst (zC i.sd)).1,yR (yW i.p i.B i.inst (zC i.sd)).2.1,yR (yW i.p i.B i.inst (zC i.sd)).2.2]) (λi=>[zD i.s])
structure c9 where
 id:Int
 inst:Int
 side:Int
 price:Int
 qty:Int
 left:Int
 deriving DecidableEq
def yX (f:c9):List D:=[.v (.int .i64 f.id),.v (.int .i64 f.inst),.v (.int .i64 f.side),.v (.int .i64 f.price),.v (.int .i64 f.qty),.v (.int .i64 f.left)]
def x6 (inst s:Int):List zI->List Int->List c9
 |o::os,k::ks=>if 0<k then⟨o.id,inst,s,o.price,k,o.qty-k⟩::x6 inst s os ks else x6 inst s os ks
 |_,_=>[]
def kU (B:List (List zI)) (fs:List c9):List (List zI):=fs.foldl (λB f=>(kO B f.id f.qty).1) B
def zTx (B:List (List zI)) (inst s:Int):List zI:=atL (B.getD inst.toNat []) s (bestL (B.getD inst.toNat []) s).1.price
def qV (p:Prd) (B:List (List zI)) (inst s q:Int):List c9:=x6 inst s (zTx B inst s) (kI ⟨p,zTx B inst s,q⟩)
structure TrI where
 s:MSt
 p:Prd
 B:List (List zI)
 inst:Int
 sd:Bool
 q:Int
def TrI.os (i:TrI):List zI:=zTx i.B i.inst (zC i.sd)
def TrI.sh (i:TrI):List Int:=kI ⟨i.p,i.os,i.q⟩
def TrI.fs (i:TrI) (j:Nat):List c9:=x6 i.inst (zC i.sd) (i.os.take j) (i.sh.take j)
def tradeC:Con where
 ι:=TrI
 pat:=λi=>[.nm 0 0,.agg [zA i.inst,zA (zC i.sd)],zA i.q]
 pre:=λi=>[zD i.s]
 cnd:=λi=>i.s.Rep i.p i.B/\BOk i.p i.B/\0<=i.inst/\i.inst<i.B.length/\yY i.q
 alts:=λi=>[{o:=MSt,res:=λ_=> .own 1,post:=λs=>[zD s,.own 374 6 ((qV i.p i.B i.inst (zC i.sd) i.q).map yX)],rel:=λs=>s.Rep i.p (kU i.B (qV i.p i.B i.inst (zC i.sd) i.q))}]
def yVg (i:TrI):List SAnn:=[{ι:=Nat×MSt,slots:=λj=>[(0,.nm 0 0),(11,.own 1),(44,zA j.1)],rows:=λj=>[zD j.2,.own 374 6 ((i.fs j.1).map yX)]}]
def z9m (b:Bool):Prop:=
 ∃(a:Unit),(zC !b)=au.wrap (3-zC b)/\True
def yKw (i:GoI):Prop:=
 cnd (zC i.s==1) (cnd (decide (i.x<=i.p)) (∃(a:Unit),bK i.s i.p i.x=ar/\True) (cnd (zC i.s==2) (∃(a:Unit),bK i.s i.p i.x=decide (i.x>=i.p)/\True) (∃(a:Unit),bK i.s i.p i.x=aq/\True))) (cnd (zC i.s==2) (∃(a:Unit),bK i.s i.p i.x=decide (i.x>=i.p)/\True) (∃(a:Unit),bK i.s i.p i.x=aq/\True))
def zIw (a:MSt) (b:NxI):Prop:=sb a.p.code=sb b.s.p.code/\True/\a.p.tick=b.s.p.tick/\a.p.low=b.s.p.low/\a.p.high=b.s.p.high/\a.p.wide=b.s.p.wide/\a.p.rule=b.s.p.rule/\a.p.top=b.s.p.top/\a.p.least=b.s.p.least/\a.p.part=b.s.p.part/\True/\True
def dV (a:BsI):Prop:=(a.s=1\/a.s=2)/\a.l.length<=1000000
def zHq (a:NxI) (b:MSt) (c:Book):Prop:=sb a.s.p.code=sb b.p.code/\a.s.p.tick=b.p.tick/\a.s.p.low=b.p.low/\a.s.p.high=b.p.high/\a.s.p.wide=b.p.wide/\a.s.p.rule=b.p.rule/\a.s.p.top=b.p.top/\a.s.p.least=b.p.least/\a.s.p.part=b.p.part/\ak 241 Book 6 zP a.s.books aw=ak 241 Book 6 zP (b.books.set a.inst.toNat c) aw/\yS a.s.wh=yS b.wh/\aj 1 (iE a.s.p.months)=aj 1 (iE b.p.months)/\aj 1 (iE a.s.p.settle)=aj 1 (iE b.p.settle)/\True
def z8 (a:NxI):=(yW a.p a.B a.inst (zC a.sd))
def zQh (a:NxI) (b:BsI) (c:MSt) (d:Book):Prop:=∃(e:Unit),(z8 a).fst.price=(zV b.l b.s).fst.price/\(z8 a).fst.qty=(zV b.l b.s).fst.qty/\(z8 a).fst.a.inst=(zV b.l b.s).fst.a.inst/\(z8 a).fst.a.side=(zV b.l b.s).fst.a.side/\(z8 a).fst.b.inst=(zV b.l b.s).fst.b.inst/\(z8 a).fst.b.side=(zV b.l b.s).fst.b.side/\(z8 a).snd.fst=(zV b.l b.s).snd/\(z8 a).snd.snd=(zV b.l b.s).snd/\zHq a c d
def zNg (a:NxI) (b:BkS) (c:MSt) (d:Book):Prop:=∃(e:Unit),(z8 a).fst.price=(zX b).fst.price/\(z8 a).fst.qty=(zX b).fst.qty/\(z8 a).fst.a.inst=0/\(z8 a).fst.a.side=0/\(z8 a).fst.b.inst=0/\(z8 a).fst.b.side=0/\(z8 a).snd.fst=aq/\(z8 a).snd.snd=ar/\zHq a c d
def zLc (a:lG) (b:NxI) (c:MSt):Prop:=∃(d:BsI),aa zJ d.l=aa zJ (x5 a.i (zC a.s))/\d.s=zC b.sd/\(dV d)/\∀(e:Unit),True->(0<=b.inst/\b.inst<(↑c.books.length:Int))/\b.inst.toNat<c.books.length/\∃(f:Book),c.books[b.inst.toNat]?=av f/\∃(g:BkS),zC g.side=zC b.sd/\z7 g.b=z7 f/\(vN g)/\∀(h:Unit),True->∃(j:Book),z7 g.b=z7 j/\dh b.inst.toNat/\b.inst.toNat<c.books.length/\cnd (zX g).snd (cnd (zV d.l d.s).snd (∃(k:I3'),k.side=zC b.sd/\k.x=(zV d.l d.s).fst.price/\k.y=(zX g).fst.price/\True/\∀(l:Unit),True->cnd (!btr k.side k.x k.y) (zNg b g c j) (zQh b d c j)) (zNg b g c j)) (zQh b d c j)
def zVc (a:MSt) (b:NxI):Prop:=(zIw a b)/\∃(c:lG),sb c.i.p.code=sb b.s.p.code/\iE c.i.p.months=iE a.p.months/\c.i.p.tick=b.s.p.tick/\c.i.p.low=b.s.p.low/\c.i.p.high=b.s.p.high/\c.i.p.wide=b.s.p.wide/\c.i.p.rule=b.s.p.rule/\c.i.p.top=b.s.p.top/\c.i.p.least=b.s.p.least/\c.i.p.part=b.s.p.part/\iE c.i.p.settle=iE a.p.settle/\aa z5 c.i.tops=aa z5 a.tops/\c.i.inst=b.inst/\zC c.s=zC b.sd/\(kM c)/\∀(d:Unit),True->zLc c b a
def cG (a:MSt):Prop:=a.books.length<=1000000/\∀(b:Book),b∈a.books->∀(c:cV),c∈b.a.queues->(-9223372036854775808)<=c.count/\c.count<=9223372036854775807
def ySj (i:NxI):Prop:=
 (∃(a:MSt),sb a.p.code=sb i.s.p.code/\a.p.tick=i.s.p.tick/\a.p.low=i.s.p.low/\a.p.high=i.s.p.high/\a.p.wide=i.s.p.wide/\a.p.rule=i.s.p.rule/\a.p.top=i.s.p.top/\a.p.least=i.s.p.least/\a.p.part=i.s.p.part/\ak 241 Book 6 zP a.books aw=ak 241 Book 6 zP i.s.books aw/\yS a.wh=yS i.s.wh/\aj 1 (iE a.p.months)=aj 1 (iE i.s.p.months)/\aj 1 (iE a.p.settle)=aj 1 (iE i.s.p.settle)/\(cG a)/\∀(b:Unit),True->(zIw a i)/\(∃(c:lG),sb c.i.p.code=sb i.s.p.code/\iE c.i.p.months=iE a.p.months/\c.i.p.tick=i.s.p.tick/\c.i.p.low=i.s.p.low/\c.i.p.high=i.s.p.high/\c.i.p.wide=i.s.p.wide/\c.i.p.rule=i.s.p.rule/\c.i.p.top=i.s.p.top/\c.i.p.least=i.s.p.least/\c.i.p.part=i.s.p.part/\iE c.i.p.settle=iE a.p.settle/\aa z5 c.i.tops=aa z5 a.tops/\c.i.inst=i.inst/\zC c.s=zC i.sd/\(kM c)/\∀(d:Unit),True->(zLc c i a)/\zLc c i a)/\zVc a i)/\(dh (sb i.s.p.code)/\True/\dh i.s.p.tick/\dh i.s.p.low/\dh i.s.p.high/\dh i.s.p.wide/\dh i.s.p.rule/\dh i.s.p.top/\dh i.s.p.least/\dh i.s.p.part/\True/\True)/\∃(a:MSt),sb a.p.code=sb i.s.p.code/\a.p.tick=i.s.p.tick/\a.p.low=i.s.p.low/\a.p.high=i.s.p.high/\a.p.wide=i.s.p.wide/\a.p.rule=i.s.p.rule/\a.p.top=i.s.p.top/\a.p.least=i.s.p.least/\a.p.part=i.s.p.part/\ak 241 Book 6 zP a.books aw=ak 241 Book 6 zP i.s.books aw/\yS a.wh=yS i.s.wh/\aj 1 (iE a.p.months)=aj 1 (iE i.s.p.months)/\aj 1 (iE a.p.settle)=aj 1 (iE i.s.p.settle)/\(cG a)/\∀(b:Unit),True->zVc a i
def mH (a:AtI):=(aa vH (atL a.L (zC a.s) a.price))
def zJd (a:Nat×MSt->Prop) (b:Nat×MSt) (c:Nat×MSt->Nat) (d:Nat×MSt) (e:AlI) (f:AtI) (g:BkS) (h:TrI):Prop:=a b/\c b<c d/\dh (ao 2 1 (iE (kI e)))/\dh (aj 5 (mH f))/\dh (am [V.d (dI (dU g)),V.d (dI (hZ g)),V.d (dI ((zX g).fst.count))] 41)/\dh (am [V.d (dI h.inst),V.d (dI (zC h.sd))] 256)/\dh (aj 1 (iE h.s.p.months))/\dh (aj 1 (iE h.s.p.settle))
def gW (a:TrI):=(qV a.p a.B a.inst (zC a.sd) a.q)
def cH (a:TrI):=(kU a.B (gW a))
def yGl (i:TrI):Prop:=
 (0<=i.inst/\i.inst<(↑i.s.books.length:Int))/\i.inst.toNat<i.s.books.length/\∃(a:Book),i.s.books[i.inst.toNat]?=av a/\∃(b:BkS),zC b.side=zC i.sd/\z7 b.b=z7 a/\(vN b)/\∀(c:Unit),True->∃(d:Book),z7 b.b=z7 d/\dh i.inst.toNat/\i.inst.toNat<i.s.books.length/\∃(e:Book),(i.s.books.set i.inst.toNat d)[i.inst.toNat]?=av e/\∃(f:AtI),zC f.s=zC i.sd/\f.price=(zX b).fst.price/\z7 f.b=z7 e/\f.b.Rep f.L/\∀(g:Unit),True->∃(h:Book),z7 f.b=z7 h/\dh i.inst.toNat/\i.inst.toNat<(i.s.books.set i.inst.toNat d).length/\∃(j:AlI),sb j.p.code=sb i.s.p.code/\iE j.p.months=iE i.s.p.months/\j.p.tick=i.s.p.tick/\j.p.low=i.s.p.low/\j.p.high=i.s.p.high/\j.p.wide=i.s.p.wide/\j.p.rule=i.s.p.rule/\j.p.top=i.s.p.top/\j.p.least=i.s.p.least/\j.p.part=i.s.p.part/\iE j.p.settle=iE i.s.p.settle/\aa vH j.l=aa vH (atL f.L (zC f.s) f.price)/\j.q=i.q/\(j.l.length<=1000/\((-9223372036854775808)<=j.q/\j.q<=9223372036854775807)/\((-9223372036854775808)<=j.p.least/\j.p.least<=9223372036854775807)/\((-9223372036854775808)<=j.p.top/\j.p.top<=9223372036854775807)/\(-9223372036854775808)<=j.p.part/\j.p.part<=9223372036854775807)/\∀(k:Unit),True->∃(l:Nat×MSt),(↑l.fst:Int)=0/\sb l.snd.p.code=sb i.s.p.code/\l.snd.p.tick=i.s.p.tick/\l.snd.p.low=i.s.p.low/\l.snd.p.high=i.s.p.high/\l.snd.p.wide=i.s.p.wide/\l.snd.p.rule=i.s.p.rule/\l.snd.p.top=i.s.p.top/\l.snd.p.least=i.s.p.least/\l.snd.p.part=i.s.p.part/\ak 241 Book 6 zP l.snd.books aw=ak 241 Book 6 zP ((i.s.books.set i.inst.toNat d).set i.inst.toNat h) aw/\yS l.snd.wh=yS i.s.wh/\aj 1 (iE l.snd.p.months)=aj 1 (iE i.s.p.months)/\aj 1 (iE l.snd.p.settle)=aj 1 (iE i.s.p.settle)/\aa yX (i.fs l.fst)=[]/\∃(m:Nat×MSt->Prop),∃(n:Nat×MSt->Nat),m l/\∀(p:Nat×MSt),m p->cnd (decide ((↑p.fst:Int)<(↑(iE (kI j)).length:Int))) ((0<=(↑p.fst:Int)/\(↑p.fst:Int)<(↑(iE (kI j)).length:Int))/\∃(q:Int),zE (iE (kI j)) (↑p.fst:Int).toNat 0 1=av [dI q]/\cnd (decide (q>0)) ((0<=(↑p.fst:Int)/\(↑p.fst:Int)<(↑(mH f).length:Int))/\∃(r:Int),∃(s:Int),∃(t:Int),∃(u:Int),∃(v:Bool),zE (mH f) (↑p.fst:Int).toNat 0 5=av [dI r,dI s,dI t,dI u,D.v (.bool v)]/\∃(w:StI),w.id=r/\w.q=q/\zD w.s=zD p.snd/\(w.s.Rep w.p w.B/\w.B.length<=1000)/\∀(x:MSt),x.Rep w.p (kO w.B w.id w.q).fst->((aa yX (i.fs p.fst)).length+1)*(48:Nat)<=(140737488355328:Nat)/\∃(y:Nat×MSt),(↑y.fst:Int)=au.wrap ((↑p.fst:Int)+1)/\zD y.snd=zD x/\aa yX (i.fs y.fst)=aa yX (i.fs p.fst)++[[dI r,dI i.inst,dI (zC i.sd),dI t,dI q,dI (au.wrap (u-q))]]/\zJd m y n p j f b i) (∃(r:Nat×MSt),(↑r.fst:Int)=au.wrap ((↑p.fst:Int)+1)/\zD r.snd=zD p.snd/\aa yX (i.fs r.fst)=aa yX (i.fs p.fst)/\zJd m r n p j f b i)) (∃(q:MSt),zD q=zD p.snd/\aa yX (gW i)=aa yX (i.fs p.fst)/\q.Rep i.p (cH i))
def lD {p:Prd} (hc:p.check=0) {k v:Int} (h:p.price k v=0): -2000000<=v/\v<=2000000:=by
 have ok:=kH hc;have:=ok.b1;have:=ok.b2;have:=ok.b3;have:=ok.b4;have:=ok.b5;rw[Prd.price]at h;by_cases c1:p.count=0
 ·rw[y5v c1]at h;cases h
 by_cases c2:k<0\/(p.count:Int)<=k
 ·rw[y5t c1,y5v c2]at h;cases h
 cases c3:qU p.tick v with
 |true=>rw[y5t c1,y5t c2,y5v c3]at h;cases h
 |false=>
  rw[y5t c1,y5t c2,y5t (by rw[c3];decide)]at h;by_cases c4:(p.months.length:Int)<=k
  ·simp only[y5v c4]at h;by_cases c5:v< -p.wide\/p.wide<v
   ·rw[y5v c5]at h;cases h
   ·omega
  ·simp only[y5t c4]at h;by_cases c5:v<p.low\/p.high<v
   ·rw[y5v c5]at h;cases h
   ·omega
def zAd {t:Int} (k:Int):qU t (t*k)=aq:=by
 simp[qU,Int.mul_tmod_right]
def zKj (x:Prd):(kprod x).small:=by
 have:=yEo x;refine⟨by simp[kprod],?_,?_⟩
 ·show(qI _).length<=_;rw[lR];omega
 ·show(kK _ _).length<=_;rw[nG];omega
def nI (x:Prd):(kprod x).check=0:=by
 have ht:=zEj x;have hn:=yEo x;have hw:=yU (n:=x.wide) (lo:=0) (hi:=60) oM;have hr:=yU (n:=x.rule) (lo:=0) (hi:=2) oM;have ho:=yU (n:=x.top) (lo:=0) (hi:=9) oM;have hl:=yU (n:=x.least) (lo:=0) (hi:=4) oM;have hp:=yU (n:=x.part) (lo:=0) (hi:=100) oM;have h1:wF (kprod x).code=ar:=by show wF [206,169]=ar;decide+kernel
 obtain⟨k,hk,hk1⟩:∃k:Nat,(kN x).toNat=k/\(2<=k/\k<=5):=⟨_,rfl,oM⟩
 have h2:xG (kprod x).months=ar:=by
  show xG (qI (kN x).toNat)=ar;rw[hk];have:k=2\/k=3\/k=4\/k=5:=by omega
  rcases this with rfl|rfl|rfl|rfl<;>decide
 have h3:qP (kprod x)=ar:=by
  have a:qU (zS x) (-20*zS x)=aq:=by rw[xAd];exact zAd _
  have b:qU (zS x) (100*zS x)=aq:=by rw[xAd];exact zAd _
  have c:(kK (zS x) (kN x).toNat).any (qU (zS x))=aq:=by
   rw[xBy];intro y hy;obtain⟨j,_,rfl⟩:=y7f.1 hy;rw[zAd];decide
  simp only[qP,kprod,a,b,c,zAd,xAv,Bool.and_true,y6h];exact⟨y6k oM,y6k oM⟩
 have mw:=lI (a:=zS x) (b:=5+zF x.wide 0 60) (m:=zS x) (n:=65) oM oM;have h4:qQ (kprod x)=aq:=by
  simp only[qQ,kprod,y9y];exact⟨⟨⟨⟨y6g oM,y6g oM⟩,y6g oM⟩,y6g oM⟩,y6g oM⟩
 have h5:xM (kprod x)=aq:=by
  have e:(kK (zS x) (kN x).toNat).length=(qI (kN x).toNat).length:=by rw[nG,lR]
  have ne:kK (zS x) (kN x).toNat≠[]:=by
   intro hc;have:=nG (zS x) (kN x).toNat;rw[hc]at this;simp at this;omega
  have bd:∀y∈kK (zS x) (kN x).toNat,0<=y/\y<=zS x*15:=by
   intro y hy;obtain⟨j,hj,rfl⟩:=y7f.1 hy;have:=y8x.1 hj;exact lI oM oM
  have m1:=bd _ (zYz ne);have m2:=bd _ (zXq ne);simp only[xM,kprod,e,ne_eq,not_true_eq_false,decide_false,xBp,y9y];exact⟨y6g oM,y6g oM⟩
 have h6:kJ (kprod x)=aq:=by
  simp only[kJ,kprod,y9y];exact⟨y6g oM,y6g oM⟩
 have h7:x9 (kprod x)=aq:=by
  simp only[x9,kprod,y9y];exact⟨⟨⟨⟨⟨y6g oM,y6g oM⟩,y6g oM⟩,y6g oM⟩,y6g oM⟩,y6g oM⟩
 rw[Prd.check,h1,h2,h3,h4,h5,h6,h7];rfl
structure zWr (qs sh:List Int) (q:Int):Prop where
 len:sh.length=qs.length
 bd:∀n,0<=sh.getD n 0/\sh.getD n 0<=qs.getD n 0
 sum:sh.sum=q
def yDs:∀{l:List Int},(∀x∈l,0<=x)->0<=l.sum
 |[],_=>y9h 0
 |a::l,h=>by
  have:=yDs (l:=l) λx hx=>h x (y6b _ hx)
  have:=h a y5z;rw[y7j];omega
def z5o:∀{z:List (Int×Int)},(∀y∈z,0<=y.2/\y.2<=y.1)->(z.map (·.2)).sum<=(z.map (·.1)).sum
 |[],_=>y9h 0
 |a::l,h=>by
  have:=z5o (z:=l) λx hx=>h x (y6b _ hx)
  have:=h a y5z;rw[y6i,y6i,y7j,y7j];omega
def eI:∀(l:List Int) (q:Int),(∀x∈l,0<=x)->0<=q->q<=l.sum->zWr l (gA l q) q
 |[],q,_,h0,h1=>⟨rfl,λn=>by simp[gA],by simp at h1;simp[gA];omega⟩
 |n::l,q,h,h0,h1=>by
  have hn:=h n y5z;rw[y7j]at h1;have:=yDs λx hx=>h x (y6b _ hx)
  have ih:=eI l (q-min n q) (λx hx=>h x (y6b _ hx)) oM oM;refine⟨by rw[gA,y5y,y5y,ih.len],λk=> ?_,by rw[gA,y7j,ih.sum];omega⟩;cases k with
  |zero=>exact⟨by show 0<=min n q;omega,by show min n q<=n;omega⟩
  |succ k=>exact ih.bd k
def zBu:∀(z:List (Int×Int)) (q:Int),(∀y∈z,0<=y.2/\y.2<=y.1)->0<=q->q<=(z.map (·.1)).sum-(z.map (·.2)).sum->(wD z q).length=z.length/\(∀n,0<=(wD z q).getD n 0/\(wD z q).getD n 0<=(z.map (·.1)).getD n 0)/\(wD z q).sum=(z.map (·.2)).sum+q
 |[],q,_,h0,h1=>⟨rfl,λn=>by simp[wD],by simp at h1;simp[wD];omega⟩
 |(n,x)::r,q,h,h0,h1=>by
  have hn:=h (n,x) y5z;simp only[y6i,y7j]at h1;have:=z5o λy hy=>h y (y6b _ hy)
  have ih:=zBu r (q-min (n-x) q) (λy hy=>h y (y6b _ hy)) oM oM;refine⟨by rw[wD,y5y,y5y,ih.1],λk=> ?_,by rw[wD,y7j,ih.2.2,y6i,y7j];omega⟩;cases k with
  |zero=>exact⟨by show 0<=x+min (n-x) q;have:=hn.1;have:=hn.2;dsimp only at*;omega,by show x+min (n-x) q<=n;have:=hn.2;dsimp only at*;omega⟩
  |succ k=>exact ih.2.1 k
def yIj {l:List Int} {q:Int} (h1:l.length<=250) (h2:0<=q) (h3:∀x∈l,1<=x/\x<=1000000) (h4:q<=l.sum):yZ l q=ar:=by
 rw[yZ,y6k h1,y6k h2,y6k h4];simp only[y8q,Bool.and_true,y8z,y6h,y7i];exact h3
def zTz {i:PlI} (h:yZ i.l i.q=ar) (hl:1<=i.least):zWr i.l (jG i) i.q:=by
 obtain⟨r1,r2,r3,r4⟩:=jJ h;rw[jG,y5v ⟨h,hl⟩];by_cases hne:i.l.length=0
 ·have e:i.l=[]:=y6u hne;have hq:i.q=0:=by rw[e]at r4;simp at r4;omega
  have e0:i.p1=[]:=by rw[PlI.p1,e];rfl
  rw[e0,e,hq];exact⟨rfl,λn=>by simp,rfl⟩
 ·obtain⟨_,_,f1,f2⟩:=zGf h oM;have hpl:=z2m i;have m1:(i.l.zip i.p0).map (·.1)=i.l:=List.map_fst_zip oM
  have m2:(i.l.zip i.p0).map (·.2)=i.p0:=List.map_snd_zip oM
  have hp:=zBu (i.l.zip i.p0) (i.q-i.p0.sum) (λy hy=>by
   obtain⟨j,hj⟩:=y8l.1 hy;rw[xAl]at hj;exact f1 j _ _ hj.1 hj.2) oM (by rw[m1,m2];omega)
  rw[m1,m2]at hp;refine⟨?_,hp.2.1,?_⟩
  ·rw[PlI.p1,hp.1,List.length_zip,hpl,Nat.min_self]
  ·rw[PlI.p1,hp.2.2];omega
def zVz:∀{l:List Int} {k:Nat} {x:Int},k<l.length->(l.set k x).sum=l.sum+(x-l.getD k 0)
 |[],k,x,h=>absurd h (by simp)
 |a::l,0,x,_=>by
  show x+l.sum=a+l.sum+(x-a);omega
 |a::l,k+1,x,h=>by
  have:=zVz (l:=l) (k:=k) (x:=x) (by simpa using h);show a+(l.set k x).sum=a+l.sum+(x-l.getD k 0);omega
def zNu {l:List Int} {k n:Nat} {x:Int} (h:k<l.length):(l.set k x).getD n 0=if n=k then x else l.getD n 0:=by
 rw[y6c,y9j];by_cases e:k=n
 ·subst e;rw[y5v rfl,y5v h,y5v rfl];rfl
 ·rw[y5t e,y5t (λe2=>e e2.symm),y6c]
def zWz {l:List Int}:∀(z:List (Nat×Int)) (o:List Int),(z.map (·.1)).Nodup->(∀y∈z,y.1<o.length/\0<=y.2/\o.getD y.1 0+y.2<=l.getD y.1 0)->(∀n,0<=o.getD n 0/\o.getD n 0<=l.getD n 0/\l.getD n 0<=1000000)->
 (z.foldl (λo y=>o.set y.1 (au.wrap (o.getD y.1 0+y.2))) o).length=o.length/\(z.foldl (λo y=>o.set y.1 (au.wrap (o.getD y.1 0+y.2))) o).sum=o.sum+(z.map (·.2)).sum/\∀n,0<=(z.foldl (λo y=>o.set y.1 (au.wrap (o.getD y.1 0+y.2))) o).getD n 0/\(z.foldl (λo y=>o.set y.1 (au.wrap (o.getD y.1 0+y.2))) o).getD n 0<=l.getD n 0
 |[],o,_,_,h=>⟨rfl,by simp,λn=>⟨(h n).1,(h n).2.1⟩⟩
 |y::z,o,hn,hz,h=>by
  obtain⟨h1,h2,h3⟩:=hz y y5z;rw[y6i,y8k]at hn;have hw:au.wrap (o.getD y.1 0+y.2)=o.getD y.1 0+y.2:=by
   have:=h y.1;exact w64 oM
  rw[y9m,hw];have ih:=zWz (l:=l) z (o.set y.1 (o.getD y.1 0+y.2)) hn.2 (λx hx=>by
   obtain⟨g1,g2,g3⟩:=hz x (y6b _ hx);have hne:x.1≠y.1:=λe=>hn.1 (e▸y6x (f:=(·.1)) hx)
   rw[y7b,zNu h1,y5t hne];exact⟨g1,g2,g3⟩) (λn=>by
   rw[zNu h1];split
   ·rename_i e;rw[e];exact⟨by have:=h y.1;omega,h3,(h y.1).2.2⟩
   ·exact h n)
  refine⟨by rw[ih.1,y7b],?_,ih.2.2⟩;rw[ih.2.1,zVz h1,y6i,y7j];omega
def zMx (l:List Int):(List.range l.length).map (λn=>l.getD n 0)=l:=by
 apply y9q;intro n;rw[y7k];by_cases h:n<l.length
 ·rw[xAb h,y6v h,y7w,y6c,y6v h];rfl
 ·rw[y7a (by simpa using h),y7a (by omega)];rfl
def z9p {f g:Nat->Int}:∀l:List Nat,(l.map λn=>f n-g n).sum=(l.map f).sum-(l.map g).sum
 |[]=>rfl
 |a::l=>by rw[y6i,y6i,y6i,y7j,y7j,y7j,z9p l];omega
def zPx {f:Nat->Int} {p:Nat->Bool}:∀{l:List Nat},(∀n∈l,p n=aq->f n=0)->((l.filter p).map f).sum=(l.map f).sum
 |[],_=>rfl
 |a::l,h=>by
  have ih:=zPx (l:=l) λn hn=>h n (y6b _ hn)
  rw[y6i,y7j];by_cases e:p a=ar
  ·rw[xAr e,y6i,y7j,ih]
  ·rw[xAs e,ih,h a y5z (by simpa using e)];omega
def eG {i:RsI} (hl:i.l.length<=250) (ho:i.out.length=i.l.length) (hn:∀n,0<=i.out.getD n 0/\i.out.getD n 0<=i.l.getD n 0/\i.l.getD n 0<=1000000) (hq:0<=i.q/\i.q<=i.l.sum-i.out.sum) (hle:1<=i.least):
 zWr i.l (nV i) (i.out.sum+i.q):=by
 have hidx:(i.idx i.l.length).length<=250:=y8p (y9f _ _) (by simpa using hl);have hmem:∀n∈i.idx i.l.length,n<i.l.length/\i.out.getD n 0<i.l.getD n 0:=by
  intro n hn;obtain⟨a,b⟩:=y7t.1 hn;exact⟨y8x.1 a,y6q b⟩
 have hls:(i.left i.l.length).sum=i.l.sum-i.out.sum:=by
  rw[RsI.left,RsI.idx,zPx,z9p,zMx]
  ·rw[<- ho,zMx]
  ·intro n _ e;have:=xAi e;have:=hn n;omega
 have hr:yZ (i.left i.l.length) i.q=ar:=by
  refine yIj (by rw[RsI.left,y5u];exact hidx) hq.1 (λx hx=> ?_) oM;obtain⟨n,hm,rfl⟩:=y7f.1 hx;have:=hmem n hm;have:=hn n;omega
 have hp:=zTz (i:=⟨i.left i.l.length,i.least,i.q⟩) hr hle;have hpl:i.pl.length=(i.idx i.l.length).length:=by
  have:=hp.len;rw[RsI.pl,this,RsI.left,y5u]
 have hnd:(i.idx i.l.length).Nodup:=List.nodup_range.sublist xBn;have z1:((i.idx i.l.length).zip i.pl).map (·.1)=i.idx i.l.length:=List.map_fst_zip oM
 have z2:((i.idx i.l.length).zip i.pl).map (·.2)=i.pl:=List.map_snd_zip oM
 have hf:=zWz (l:=i.l) ((i.idx i.l.length).zip i.pl) i.out (by rw[z1];exact hnd) (λy hy=>by
  obtain⟨j,hj⟩:=y8l.1 hy;rw[xAl]at hj;have hm:=hmem y.1 (y6e hj.1);have hb:=hp.bd j;have e1:(jG ⟨i.left i.l.length,i.least,i.q⟩).getD j 0=y.2:=by
   rw[y6c];have:(jG ⟨i.left i.l.length,i.least,i.q⟩)[j]? =av y.2:=hj.2;rw[this];rfl
  have e2:(i.left i.l.length).getD j 0=i.l.getD y.1 0-i.out.getD y.1 0:=by
   rw[y6c,RsI.left,y7k,hj.1];rfl
  dsimp only at hb;rw[e1,e2]at hb;exact⟨oM,hb.1,oM⟩) hn
 have hall:nV i=((i.idx i.l.length).zip i.pl).foldl (λo y=>o.set y.1 (au.wrap (o.getD y.1 0+y.2))) i.out:=by
  rw[nV,RsI.add,y6f (by rw[List.length_zip];omega)]
 rw[hall];refine⟨by rw[hf.1,ho],hf.2.2,?_⟩;rw[hf.2.1,z2];have:=hp.sum;rw[RsI.pl,this]
def z8l {l:List Int} (h:∀x∈l,1<=x/\x<=1000000) (n:Nat):0<=l.getD n 0/\l.getD n 0<=1000000:=by
 by_cases hn:n<l.length
 ·obtain⟨x,hx⟩:=yA hn;have:=h x (y6e hx);rw[zT hx];omega
 ·rw[y6c,y7a (by omega)];decide
def yVi (n k:Nat):(ab n (0:Int)).getD k 0=0:=by
 rw[y6c,List.getElem?_replicate];split<;>rfl
def zPw (n:Nat):(ab n (0:Int)).sum=0:=by
 induction n with
 |zero=>rfl
 |succ n ih=>rw[xAa,y7j,ih];rfl
def yTk {q part:Int} (hq:0<=q) (h0:0<=part) (h1:part<=100):0<=q*part / 100/\q*part / 100<=q:=by
 have h2:0<=q*part:=xCa hq h0;have h3:q*part<=q*100:=xAq h1 hq;constructor<;>omega
def zVn {p:Prd} (hc:p.check=0) {l:List zI} {q:Int} (hr:yZ (l.map (·.qty)) q=ar):zWr (l.map (·.qty)) (kI ⟨p,l,q⟩) q:=by
 have ok:=kH hc;obtain⟨r1,r2,r3,r4⟩:=jJ hr;have q1:=ok.q1;have q3:=ok.q3;have q5:=ok.q5;have q6:=ok.q6;have r5:=ok.r1;have r6:=ok.r2;have gb:=z8l r3;have eqs:(AlI.qs ⟨p,l,q⟩)=l.map (·.qty):=rfl
 rw[kI];simp only[eqs];generalize l.map (·.qty)=qs at*
 by_cases c1:p.rule=1
 ·rw[y5v c1,gN,y5v hr];exact eI _ _ (λx hx=>by have:=r3 x hx;omega) r2 r4
 by_cases c2:p.rule=2
 ·rw[y5t c1,y5v c2,zEr,y5v ⟨hr,q3,q1⟩];rw[PsI.rs];dsimp only;split
  ·rename_i ht;have hk:(topI l).toNat<(ab qs.length (0:Int)).length:=by simp;omega
   have hf:0<=PsI.first ⟨qs,topI l,p.top,p.least,q⟩/\PsI.first ⟨qs,topI l,p.top,p.least,q⟩<=qs.getD (topI l).toNat 0/\PsI.first ⟨qs,topI l,p.top,p.least,q⟩<=q:=by
    have:=gb (topI l).toNat;simp only[PsI.first];omega
   have hs:((ab qs.length (0:Int)).set (topI l).toNat (PsI.first ⟨qs,topI l,p.top,p.least,q⟩)).sum=PsI.first ⟨qs,topI l,p.top,p.least,q⟩:=by
    rw[zVz hk,zPw,yVi];omega
   have:=eG (i:=⟨qs,(ab qs.length 0).set (topI l).toNat (PsI.first ⟨qs,topI l,p.top,p.least,q⟩),p.least,q-PsI.first ⟨qs,topI l,p.top,p.least,q⟩⟩) r1 (by simp) (λn=>by
    dsimp only;rw[zNu hk,yVi];have:=gb n;split
    ·rename_i e;rw[e];exact⟨hf.1,hf.2.1,(gb _).2⟩
    ·omega) (by dsimp only;rw[hs];omega) q3
   dsimp only at this;rw[hs]at this;have e:PsI.first ⟨qs,topI l,p.top,p.least,q⟩+(q-PsI.first ⟨qs,topI l,p.top,p.least,q⟩)=q:=by omega
   rw[e]at this;exact this
  ·have:=eG (i:=⟨qs,ab qs.length 0,p.least,q⟩) r1 (by simp) (λn=>by
    dsimp only;rw[yVi];have:=gb n;omega) (by dsimp only;rw[zPw];omega) q3
   dsimp only at this;rw[zPw,Int.zero_add]at this;exact this
 ·have c3:p.rule=3:=by omega
  rw[y5t c1,y5t c2,y5v c3,zCe,y5v ⟨hr,q5,q6,q3⟩];rw[SpI.rs];dsimp only;obtain⟨d1,d2⟩:=yTk r2 q5 q6;have hr2:yZ qs (q*p.part / 100)=ar:=yIj r1 d1 r3 oM;have hfs:=eI qs (q*p.part / 100) (λx hx=>by have:=r3 x hx;omega) d1 oM;have e0:gN qs (q*p.part / 100)=gA qs (q*p.part / 100):=by rw[gN,y5v hr2]
  have:=eG (i:=⟨qs,gN qs (q*p.part / 100),p.least,q-q*p.part / 100⟩) r1 (by dsimp only;rw[e0];exact hfs.len) (λn=>by
   dsimp only;rw[e0];exact⟨(hfs.bd n).1,(hfs.bd n).2,(gb n).2⟩) (by dsimp only;rw[e0,hfs.sum];omega) q3
  dsimp only at this;rw[e0,hfs.sum]at this;rw[e0];have e:q*p.part / 100+(q-q*p.part / 100)=q:=by omega
  rw[e]at this;exact this
def z2a {p:Prd} {l:List zI} {q:Int} (hr:yZ (l.map (·.qty)) q=aq):kI ⟨p,l,q⟩=[]:=by
 have eqs:(AlI.qs ⟨p,l,q⟩)=l.map (·.qty):=rfl
 rw[kI];simp only[eqs,gN,zEr,zCe,hr];simp
def zTk:motherC.ok Tryz.prog 206:=okw (V:=z9m) mixed gok0 0 (λ_=>[]) (λ_=>[]) [] Tryz.func206 λ(b:Bool) _=>by
 unfold z9m;cases b<;>exact⟨(),Z8,trivial⟩
def zXn:mgoodC.ok Tryz.prog 207:=okw (V:=yKw) mixed gok0 0 (λ_=>[]) (λ_=>[]) [] Tryz.func207 λ(i:GoI) _=>by
 obtain⟨s,p,x⟩:=i;unfold yKw;cases s
 ·refine Cv.cnd.mk (λ_=>zH (λc=>⟨(),?_,trivial⟩) (λc=>Cv.cnd.mk (λe=>by simp[zC]at e) (λ_=>⟨(),?_,trivial⟩))) (λe=>by simp[zC]at e)
  ·exact y6k c
  ·exact y6g c
 ·exact Cv.cnd.mk (λe=>by simp[zC]at e) (λ_=>Cv.cnd.mk (λ_=>⟨(),rfl,trivial⟩) (λe=>by simp[zC]at e))
def z0w {L:List zI} {s:Int}:((bestL L s).2=ar/\∃o∈L,o.side=s/\o.price=(bestL L s).1.price)\/(bestL L s=(⟨0,0,0⟩,aq)/\∀o∈L,o.side≠s):=by
 rw[bestL];cases hl:gR L s with
 |nil=>
  refine .inr ⟨rfl,λo ho e=> ?_⟩;rw[gR]at hl;cases hf:L.filter λo=>decide (o.side=s)with
  |nil=>
   rw[ac]at hf;have:=hf o ho;simp[e]at this
  |cons x y=>
   rw[hf,grp]at hl;split at hl
   ·cases hl
   ·split at hl<;>cases hl
 |cons v vs=>
  refine .inl ⟨rfl,?_⟩;rw[gR]at hl;obtain⟨o,r,e1,e2⟩:=zNr hl;have:o∈L.filter λo=>decide (o.side=s):=by rw[e1];exact y5z
  rw[y7t]at this;exact⟨o,this.1,by simpa using this.2,e2⟩
def zUv {L:List zI} {s:Int} (h:∀o∈L,-2000000<=o.price/\o.price<=2000000): -2000000<=(bestL L s).1.price/\(bestL L s).1.price<=2000000:=by
 rcases z0w (L:=L) (s:=s)with⟨_,o,ho,_,e⟩|⟨e,_⟩
 ·rw[<- e];exact h o ho
 ·rw[e];constructor<;>decide
def zLw (L:List zI):(kD L).p1=(bestL L 1).1.price/\(kD L).q1=(bestL L 1).1.qty/\(kD L).has1=(bestL L 1).2/\(kD L).p2=(bestL L 2).1.price/\(kD L).q2=(bestL L 2).1.qty/\(kD L).has2=(bestL L 2).2:=by
 have h:∀s,(bestL L s).2=ar\/bestL L s=(⟨0,0,0⟩,aq):=λs=>by
  rcases z0w (L:=L) (s:=s)with⟨h,_⟩|⟨h,_⟩
  ·exact .inl h
  ·exact .inr h
 rw[kD,Top.sell,Top.buy];rcases h 1 with h1|h1<;>rcases h 2 with h2|h2<;>simp[h1,h2,top0]
def BOk.prices {p:Prd} {B:List (List zI)} (h:BOk p B) {k:Nat} {L:List zI} (hL:B[k]? =av L):∀o∈L,-2000000<=o.price/\o.price<=2000000:=λo ho=>lD h.pc (h.pr k L hL o ho)
def BOk.tops {p:Prd} {B:List (List zI)} (h:BOk p B):vS (B.map kD):=by
 have:=xU p;refine⟨by rw[y5u,h.bl];omega,λt ht=> ?_⟩;obtain⟨L,hL,rfl⟩:=y7f.1 ht;obtain⟨k,hk⟩:=y8l.1 hL;have b1:=zUv (s:=1) (h.prices hk);have b2:=zUv (s:=2) (h.prices hk);rw[(zLw L).1,(zLw L).2.2.2.1];exact⟨by constructor<;>omega,by constructor<;>omega⟩
def MSt.Rep.tops {s:MSt} {p:Prd} {B:List (List zI)} (h:s.Rep p B):s.tops=B.map kD:=by
 rw[MSt.tops];apply y9q;intro k;rw[y7k,y7k];by_cases hk:k<B.length
 ·obtain⟨L,hL⟩:=yA hk;obtain⟨b,hb⟩:=yA (l:=s.books) (i:=k) (by rw[h.bl];exact hk);rw[hL,hb,y7w,y7w,(h.bk k b L hb hL).top]
 ·rw[y7a (by rw[h.bl];omega),y7a (by omega)];rfl
def MSt.Rep.cnt {s:MSt} {p:Prd} {B:List (List zI)} (h:s.Rep p B) (hB:B.length<=1000000):s.cntOk:=by
 refine⟨by rw[h.bl];exact hB,λb hb=> ?_⟩;obtain⟨k,hk⟩:=y8l.1 hb;have hlt:=(y5x.1 hk).1;rw[h.bl]at hlt;obtain⟨L,hL⟩:=yA hlt;exact(h.bk k b L hk hL).cnt
def z1e {b:Book} {L:List zI} (h:b.Rep L) (sd:Bool):b.best (b.side sd)=bestL L (zC sd):=by
 obtain⟨Q,c,ht,rfl⟩:=h;cases sd
 ·exact c.bestL (.inl rfl)
 ·exact c.bestL (.inr rfl)
def zEo (sd:Bool):zC sd=1\/zC sd=2:=by cases sd;exact .inl rfl;exact .inr rfl
def y2s (i:NxI) (h:nextC.cnd i):ySj i:=by
 obtain⟨hR,hB,h0,h1⟩:i.s.Rep i.p i.B/\BOk i.p i.B/\0<=i.inst/\i.inst<i.B.length:=h;have hcl:=xU i.p;have hbl:=hB.bl;have hsl:=hR.bl;obtain⟨k,hk⟩:∃k:Nat,i.inst=k:=⟨i.inst.toNat,oM⟩
 obtain⟨L,hL⟩:=yA (l:=i.B) (i:=k) oM;obtain⟨b,hb⟩:=yA (l:=i.s.books) (i:=k) oM;have hbR:=hR.bk k b L hb hL;have hps:i.s.p.small:=by rw[hR.ep];exact hB.ps
 have hto:vS i.s.tops:=by rw[hR.tops];exact hB.tops
 have hnx:yW i.p i.B i.inst (zC i.sd)=if((bestL L (zC i.sd)).2 && !((zV (x5 ⟨i.s.p,i.s.tops,i.inst⟩ (zC i.sd)) (zC i.sd)).2 && btr (zC i.sd) (zV (x5 ⟨i.s.p,i.s.tops,i.inst⟩ (zC i.sd)) (zC i.sd)).1.price (bestL L (zC i.sd)).1.price))=ar then(⟨(bestL L (zC i.sd)).1.price,(bestL L (zC i.sd)).1.qty,⟨0,0⟩,⟨0,0⟩⟩,aq,ar)else((zV (x5 ⟨i.s.p,i.s.tops,i.inst⟩ (zC i.sd)) (zC i.sd)).1,(zV (x5 ⟨i.s.p,i.s.tops,i.inst⟩ (zC i.sd)) (zC i.sd)).2,(zV (x5 ⟨i.s.p,i.s.tops,i.inst⟩ (zC i.sd)) (zC i.sd)).2):=by
  rw[yW,hR.tops,hR.ep,hk,y6m,zT hL]
 have hbest:=z1e hbR i.sd;unfold ySj cG zVc kM fQ zLc vN zNg zX zQh z8 zHq dV zIw;have hcnt:i.s.cntOk:=hR.cnt oM;have hql:(x5 ⟨i.s.p,i.s.tops,i.inst⟩ (zC i.sd)).length<=1000000:=by
  have:=y8p (y9f (λq=>decide (i.s.p.price i.inst q.price=0)) _) (zFy ⟨i.s.p,i.s.tops,i.inst⟩ (zC i.sd));exact y8p this Z8
 refine(λhT=>⟨⟨i.s,rF8 (rF4 ⟨rfl,hcnt,λ_ _=>⟨⟨rfl,trivial,rF7 ⟨rfl,trivial,trivial⟩⟩,⟨⟨⟨i.s.p,i.s.tops,i.inst⟩,i.sd⟩,rF8 (rF5 ⟨rfl,⟨hps,hto⟩,λ_ _=>⟨hT,hT⟩⟩)⟩,⟨rfl,trivial,rF7 ⟨rfl,trivial,trivial⟩⟩,⟨⟨⟨i.s.p,i.s.tops,i.inst⟩,i.sd⟩,rF8 (rF5 ⟨rfl,⟨hps,hto⟩,λ_ _=>hT⟩)⟩⟩⟩)⟩,
  ⟨rfl,trivial,rF7 ⟨rfl,trivial,trivial⟩⟩,⟨i.s,rF8 (rF4 ⟨rfl,hcnt,λ_ _=>⟨⟨rfl,trivial,rF7 ⟨rfl,trivial,trivial⟩⟩,⟨⟨⟨i.s.p,i.s.tops,i.inst⟩,i.sd⟩,rF8 (rF5 ⟨rfl,⟨hps,hto⟩,λ_ _=>hT⟩)⟩⟩⟩)⟩⟩) ?_
 refine⟨⟨x5 ⟨i.s.p,i.s.tops,i.inst⟩ (zC i.sd),zC i.sd⟩,rfl,rfl,⟨zEo _,hql⟩,λ_ _=>⟨⟨h0,oM⟩,oM,b,by rw[hk];exact hb,⟨i.sd,b⟩,rfl,rfl,hbR.cnt,λ_ _=>⟨b,rfl,rfl,oM,?_⟩⟩⟩;dsimp only;rw[hbest];generalize bestL L (zC i.sd)=l at*;generalize zV (x5 ⟨i.s.p,i.s.tops,i.inst⟩ (zC i.sd)) (zC i.sd)=bq at*;have hset:i.s.books.set i.inst.toNat b=i.s.books:=hP (by rw[hk];exact hb);rw[hset];refine Cv.cnd.mk (λc1=>Cv.cnd.mk (λc2=>⟨⟨zC i.sd,bq.1.price,l.1.price⟩,rfl,rfl,rfl,trivial,λ_ _=>Cv.cnd.mk (λc3=> ?_) (λc3=> ?_)⟩) (λc2=> ?_)) (λc1=> ?_)
 ·dsimp only at c3;rw[y5v (by rw[c1,c2];simpa using c3)]at hnx;rw[hnx];exact⟨(),k0q⟩
 ·dsimp only at c3;rw[y5t (by rw[c1,c2];simpa using c3)]at hnx;rw[hnx];exact⟨(),k0q⟩
 ·rw[y5v (by rw[c1,c2];rfl)]at hnx;rw[hnx];exact⟨(),k0q⟩
 ·rw[y5t (by rw[c1];simp)]at hnx;rw[hnx];exact⟨(),k0q⟩
def yMz:nextC.ok Tryz.prog 234:=okw mixed (gokc zXc (gokc zRv (gokc zYd (gokc zLi (gokc aW gok0))))) 0 (λ_=>[]) (λ_=>[]) [0] Tryz.func234 y2s
def z7q (i:RsI) (k:Nat):(i.add k).length=i.out.length:=by
 have:∀(l:List (Nat×Int)) (o:List Int),(l.foldl (λo y=>o.set y.1 (au.wrap (o.getD y.1 0+y.2))) o).length=o.length:=by
  intro l
  induction l with
  |nil=>intro o;rfl
  |cons x l ih=>intro o;rw[y9m,ih,y7b]
 exact this _ _
def zZi (l:List Int) (q:Int):(gN l q).length<=l.length:=by
 rw[gN];split
 ·rw[lH];exact y6p _
 ·exact y6z _
def yBm (i:AlI):(kI i).length<=i.l.length:=by
 have hq:i.qs.length=i.l.length:=by simp[AlI.qs]
 rw[kI,<- hq]
 repeat' split
 ·exact zZi _ _
 ·rw[zEr];split
  ·rw[nV,z7q,PsI.rs];split
   ·simp
   ·simp
  ·exact y6z _
 ·rw[zCe];split
  ·rw[nV,z7q];exact zZi _ _
  ·exact y6z _
 ·exact y6z _
def zMd {inst s:Int}:∀{os:List zI} {sh:List Int} {j:Nat} {o:zI} {k:Int},os[j]? =av o->sh[j]? =av k->x6 inst s (os.take (j+1)) (sh.take (j+1))=x6 inst s (os.take j) (sh.take j)++(if 0<k then[⟨o.id,inst,s,o.price,k,o.qty-k⟩]else[])
 |[],_,_,_,_,h,_=>by simp at h
 |_::_,[],_,_,_,_,h=>by simp at h
 |o::os,k::sh,0,_,_,h,h2=>by
  cases h;cases h2;rw[y7e,y7e,xAh,xAh,xAh,xAh,x6];split<;>rfl
 |o::os,k::sh,j+1,o',k',h,h2=>by
  rw[y7e,y7e,x6,y7e,y7e,x6,zMd (os:=os) (sh:=sh) (j:=j) h h2];split<;>rfl
def zRj {inst s:Int}:∀(os:List zI) (sh:List Int),x6 inst s (os.take sh.length) (sh.take sh.length)=x6 inst s os sh
 |[],sh=>by simp
 |_::_,[]=>by simp[x6]
 |o::os,k::sh=>by
  rw[y5y,y7e,y7e,x6,x6,zRj os sh]
def yAw (B:List (List zI)) (a b:List c9):kU B (a++b)=kU (kU B a) b:=xAp
def rD (B:List (List zI)) (id q:Int):(kO B id q).1.length=B.length:=by
 rw[kO];split
 ·rfl
 ·simp
def uR:∀(fs:List c9) (B:List (List zI)),(kU B fs).length=B.length
 |[],B=>rfl
 |f::fs,B=>by
  show(kU (kO B f.id f.qty).1 fs).length=_;rw[uR fs,rD]
def yUr {p:Prd} (h:p.check=0):yY p.least/\yY p.top/\yY p.part:=by
 have ok:=kH h;have:=ok.q1;have:=ok.q2;have:=ok.q3;have:=ok.q4;have:=ok.q5;have:=ok.q6;exact⟨⟨oM,oM⟩,⟨oM,oM⟩,⟨oM,oM⟩⟩
def yVb (i:TrI) (h:tradeC.cnd i):yGl i:=by
 obtain⟨hR,hB,h0,h1,hq⟩:i.s.Rep i.p i.B/\BOk i.p i.B/\0<=i.inst/\i.inst<i.B.length/\yY i.q:=h;have hcl:=xU i.p;have hbl:=hB.bl;have hsl:=hR.bl;have ep:=hR.ep;obtain⟨k,hk⟩:∃k:Nat,i.inst=k:=⟨i.inst.toNat,oM⟩
 obtain⟨L,hL⟩:=yA (l:=i.B) (i:=k) oM;obtain⟨b,hb⟩:=yA (l:=i.s.books) (i:=k) oM;have hbR:=hR.bk k b L hb hL;have hbest:=z1e hbR i.sd;have hos:atL L (zC i.sd) (bestL L (zC i.sd)).1.price=i.os:=by rw[TrI.os,zTx,hk,y6m,zT hL]
 have hset:i.s.books.set i.inst.toNat b=i.s.books:=hP (by rw[hk];exact hb);have hosl:i.os.length<=250:=by
  rw[<- hos];exact y8p (y9f _ _) hbR.ords.2.2
 have hsh:i.sh.length<=i.os.length:=yBm _;obtain⟨k1,k2,k3⟩:=yUr hB.pc;have hsb:∀(j:Nat) (n:Int),i.sh[j]? =av n->n<=1000000:=by
  intro j n hn;cases hr:yZ (i.os.map (·.qty)) i.q with
  |false=>
   have:i.sh=[]:=z2a hr;rw[this]at hn;cases hn
  |true=>
   have:=(zVn hB.pc hr).bd j;have e:(kI ⟨i.p,i.os,i.q⟩).getD j 0=n:=zT hn;rw[e]at this;have:=(z8l (jJ hr).2.2.1 j).2;omega
 unfold yGl zJd hZ dU mH cH gW zX vN dI;refine⟨⟨h0,oM⟩,oM,b,by rw[hk];exact hb,⟨i.sd,b⟩,rfl,rfl,hbR.cnt,λ_ _=> ?_⟩;refine⟨b,rfl,rfl,oM,b,by rw[hset,hk];exact hb,⟨b,L,i.sd,(bestL L (zC i.sd)).1.price⟩,rfl,by dsimp only;rw[hbest],rfl,hbR,λ_ _=> ?_⟩;dsimp only
 try rw[hbest]
 rw[hset,hos];refine⟨b,rfl,rfl,oM,⟨i.p,i.os,i.q⟩,by rw[ep],by rw[ep],by rw[ep],by rw[ep],by rw[ep],by rw[ep],by rw[ep],by rw[ep],by rw[ep],by rw[ep],by rw[ep],rfl,rfl,⟨Z9,hq,k1,k2,k3⟩,λ_ _=> ?_⟩;have esh:kI ⟨i.p,i.os,i.q⟩=i.sh:=rfl;rw[esh,hset,y4,y5u];refine⟨(0,i.s),rF8 (rF6 ⟨rfl,λj=>j.2.Rep i.p (kU i.B (i.fs j.1))/\j.1<=i.sh.length,λj=>i.sh.length-j.1,⟨hR,y6z _⟩,λj hj=> ?_⟩)⟩;obtain⟨hjR,hjl⟩:=hj;obtain⟨j,sj⟩:=j;dsimp only at hjR hjl ⊢;refine zH (λc=> ?_) (λc=> ?_)
 ·obtain⟨n,hn⟩:=yA (l:=i.sh) (i:=j) oM;obtain⟨o,ho⟩:=yA (l:=i.os) (i:=j) oM;have hst:=zMd (inst:=i.inst) (s:=zC i.sd) ho hn;have hoL:o∈L:=by
   have:=y6e ho;rw[<- hos]at this;exact(y7t.1 this).1
  have hoq:=(hbR.ords.1 o hoL).q;have hnb:=hsb j n hn;refine⟨⟨oM,oM⟩,n,elI hn,zH (λc2=> ?_) (λc2=> ?_)⟩
  ·rw[y5v (show 0<n from c2)]at hst;have hfl:(i.fs j).length<=j:=by
    have:∀(os:List zI) (sh:List Int),(x6 i.inst (zC i.sd) os sh).length<=os.length:=by
     intro os
     induction os with
     |nil=>intro sh;exact y6p 0
     |cons o os ih=>
      intro sh;cases sh with
      |nil=>exact y6z _
      |cons k sh=>
       have:=ih sh;rw[x6];split
       ·simp only[y5y];omega
       ·simp only[y5y];omega
    exact y8p (this _ _) (by rw[y6l];omega)
   refine⟨⟨oM,oM⟩,o.id,o.side,o.price,o.qty,o.top,ySr ho,⟨sj,i.p,kU i.B (i.fs j),o.id,n⟩,rfl,rfl,rfl,⟨hjR,by dsimp only;rw[uR];omega⟩,λs' hs'=>⟨by rw[y5u];omega,(j+1,s'),wjn oM,rfl,?_,⟨?_,Z9⟩,Z9,k0q⟩⟩
   ·show aa yX (x6 i.inst (zC i.sd) (i.os.take (j+1)) (i.sh.take (j+1)))=_;rw[hst,y6d,w64 (by omega)];rfl
   ·show s'.Rep i.p (kU i.B (x6 i.inst (zC i.sd) (i.os.take (j+1)) (i.sh.take (j+1))));rw[hst,yAw];exact hs'
  ·rw[y5t (show ¬0<n from c2),y6r]at hst;refine⟨(j+1,sj),wjn oM,rfl,?_,⟨?_,Z9⟩,Z9,k0q⟩
   ·show aa yX (x6 i.inst (zC i.sd) (i.os.take (j+1)) (i.sh.take (j+1)))=_;rw[hst];rfl
   ·show sj.Rep i.p (kU i.B (x6 i.inst (zC i.sd) (i.os.take (j+1)) (i.sh.take (j+1))));rw[hst];exact hjR
 ·have hje:j=i.sh.length:=by omega
  subst hje;have hfa:i.fs i.sh.length=qV i.p i.B i.inst (zC i.sd) i.q:=zRj _ _;rw[hfa]at hjR ⊢;exact⟨sj,rfl,rfl,hjR⟩
def yEd:tradeC.ok Tryz.prog 235:=okw mixed (gokc zLi (gokc y2c (gokc yJu (gokc zFw gok0)))) 0 (λ_=>[]) (λi=>yVg i) [0] Tryz.func235 yVb
structure j7 where
 price:Int
 qty:Int
 implied:Bool
 fills:List c9
 deriving DecidableEq
def wI (t:j7):List D:=[.v (.int .i64 t.price),.v (.int .i64 t.qty),.v (.bool t.implied),.ro 6 (t.fills.map yX)]
def aP (p:Prd) (B:List (List zI)) (inst:Int) (sd:Bool) (price qty:Int):Option (j7×List (List zI)):=
 let n:=yW p B inst (zC (!sd))
 if(n.2.2 && (bK sd price n.1.price && decide (1<=n.1.qty)))=ar then
  if n.2.1=ar then
   let f1:=qV p B n.1.a.inst n.1.a.side (min qty n.1.qty)
   let f2:=qV p (kU B f1) n.1.b.inst n.1.b.side (min qty n.1.qty)
   av (⟨n.1.price,min qty n.1.qty,ar,f1++f2⟩,kU (kU B f1) f2)
  else
   let f:=qV p B inst (zC (!sd)) (min qty n.1.qty)
   av (⟨n.1.price,min qty n.1.qty,aq,f⟩,kU B f)
 else aw
structure yXj where
 steps:List j7
 left:Int
 B:List (List zI)
def zKy (p:Prd) (inst:Int) (sd:Bool) (price:Int):Nat->List (List zI)->Int->yXj
 |0,B,q=>⟨[],q,B⟩
 |n+1,B,q=>if q<=0 then⟨[],q,B⟩else match aP p B inst sd price q with
  |none=>⟨[],q,B⟩
  |some (t,B')=>let r:=zKy p inst sd price n B' (q-t.qty);⟨t::r.steps,r.left,r.B⟩
def wN (p:Prd) (B:List (List zI)) (inst:Int) (sd:Bool) (price q:Int):yXj:=zKy p inst sd price q.toNat B q
structure RunI where
 s:MSt
 p:Prd
 B:List (List zI)
 inst:Int
 sd:Bool
 price:Int
 q:Int
def RunI.r (i:RunI):yXj:=wN i.p i.B i.inst i.sd i.price i.q
def runC:Con where
 ι:=RunI
 pat:=λi=>[.nm 0 0,zA i.inst,zA (zC i.sd),zA i.price,zA i.q]
 pre:=λi=>[zD i.s]
 cnd:=λi=>i.s.Rep i.p i.B/\BOk i.p i.B/\(0<=i.inst/\i.inst<i.B.length)/\1<=i.q/\i.q<=1000000
 alts:=λi=>[{o:=MSt,res:=λ_=> .tup [.own 1,zA i.r.left],post:=λs=>[zD s,.own 321 4 (i.r.steps.map wI)],rel:=λs=>s.Rep i.p i.r.B}]
structure zPd where
 s:MSt
 B:List (List zI)
 steps:List j7
 q:Int
def y3m:List SAnn:=[
 {ι:=zPd,slots:=λj=>[(0,.nm 0 0),(12,.own 1),(4,zA j.q)],rows:=λj=>[zD j.s,.own 321 4 (j.steps.map wI)]},
 {ι:=Unit,slots:=λ_=>[],rows:=λ_=>[],un:=3}]
def zMs (a:zPd->Nat) (b:zPd) (c:zPd) (d:RunI):Prop:=a b<a c/\dh (aj 1 (iE d.s.p.months))/\dh (aj 1 (iE d.s.p.settle))
def zFt (a:TrI):Prop:=a.s.Rep a.p a.B/\BOk a.p a.B/\0<=a.inst/\a.inst<(↑a.B.length:Int)/\(-9223372036854775808)<=a.q/\a.q<=9223372036854775807
def zMy (a:RunI) (b:zPd) (c:NxI):Prop:=∃(d:MSt),a.r.left=b.q/\zD d=zD c.s/\aa wI a.r.steps=aa wI b.steps/\d.Rep a.p a.r.B
def lA (a:TrI):=(aa yX (gW a))
def z3s (a:RunI):Prop:=∃(b:zPd),b.q=a.q/\sb b.s.p.code=sb a.s.p.code/\b.s.p.tick=a.s.p.tick/\b.s.p.low=a.s.p.low/\b.s.p.high=a.s.p.high/\b.s.p.wide=a.s.p.wide/\b.s.p.rule=a.s.p.rule/\b.s.p.top=a.s.p.top/\b.s.p.least=a.s.p.least/\b.s.p.part=a.s.p.part/\ak 241 Book 6 zP b.s.books aw=ak 241 Book 6 zP a.s.books aw/\yS b.s.wh=yS a.s.wh/\aj 1 (iE b.s.p.months)=aj 1 (iE a.s.p.months)/\aj 1 (iE b.s.p.settle)=aj 1 (iE a.s.p.settle)/\aa wI b.steps=[]/\∃(c:zPd->Prop),∃(d:zPd->Nat),c b/\∀(e:zPd),c e->cnd (decide (e.q>0)) (∃(f:Bool),zC f=zC a.sd/\True/\∀(g:Unit),True->∃(h:NxI),h.inst=a.inst/\zC h.sd=zC !f/\zD h.s=zD e.s/\(h.s.Rep h.p h.B/\BOk h.p h.B/\0<=h.inst/\h.inst<(↑h.B.length:Int))/\∀(j:Unit),True->cnd (!(z8 h).snd.snd) (zMy a e h) (∃(k:GoI),zC k.s=zC a.sd/\k.p=a.price/\k.x=(z8 h).fst.price/\True/\∀(l:Unit),True->cnd (!bK k.s k.p k.x) (zMy a e h) (cnd (z8 h).snd.fst (∃(m:TrI),m.inst=(z8 h).fst.a.inst/\zC m.sd=(z8 h).fst.a.side/\m.q=min e.q (z8 h).fst.qty/\zD m.s=zD h.s/\(zFt m)/\∀(n:MSt),n.Rep m.p (cH m)->True/\(lA m).length*(48:Nat)<=(140737488355328:Nat)/\∃(p:TrI),p.inst=(z8 h).fst.b.inst/\zC p.sd=(z8 h).fst.b.side/\p.q=min e.q (z8 h).fst.qty/\zD p.s=zD n/\(zFt p)/\∀(q:MSt),q.Rep p.p (cH p)->True/\((lA m).length+(lA p).length)*(48:Nat)<=(140737488355328:Nat)/\((aa wI e.steps).length+1)*(48:Nat)<=(140737488355328:Nat)/\∃(r:zPd),r.q=au.wrap (e.q-min e.q (z8 h).fst.qty)/\zD r.s=zD q/\aa wI r.steps=aa wI e.steps++[[dI ((z8 h).fst.price),dI (min e.q (z8 h).fst.qty),D.v (.bool (z8 h).snd.fst),D.ro 6 (aa yX (gW m)++aa yX (gW p))]]/\c r/\zMs d r e a) (∃(m:Bool),zC m=zC a.sd/\True/\∀(n:Unit),True->dh (min e.q (z8 h).fst.qty)/\∃(p:TrI),p.inst=a.inst/\zC p.sd=zC !m/\p.q=min e.q (z8 h).fst.qty/\zD p.s=zD h.s/\(zFt p)/\∀(q:MSt),q.Rep p.p (cH p)->((aa wI e.steps).length+1)*(48:Nat)<=(140737488355328:Nat)/\∃(r:zPd),r.q=au.wrap (e.q-min e.q (z8 h).fst.qty)/\zD r.s=zD q/\aa wI r.steps=aa wI e.steps++[[dI ((z8 h).fst.price),dI (min e.q (z8 h).fst.qty),D.v (.bool (z8 h).snd.fst),D.ro 6 (lA p)]]/\c r/\zMs d r e a)))) (∃(f:MSt),a.r.left=e.q/\zD f=zD e.s/\aa wI a.r.steps=aa wI e.steps/\f.Rep a.p a.r.B)
def bG (a:RunI):Prop:=∃(b:MSt),a.r.left=a.q/\sb b.p.code=sb a.s.p.code/\b.p.tick=a.s.p.tick/\b.p.low=a.s.p.low/\b.p.high=a.s.p.high/\b.p.wide=a.s.p.wide/\b.p.rule=a.s.p.rule/\b.p.top=a.s.p.top/\b.p.least=a.s.p.least/\b.p.part=a.s.p.part/\ak 241 Book 6 zP b.books aw=ak 241 Book 6 zP a.s.books aw/\yS b.wh=yS a.s.wh/\aj 1 (iE b.p.months)=aj 1 (iE a.s.p.months)/\aj 1 (iE b.p.settle)=aj 1 (iE a.s.p.settle)/\aa wI a.r.steps=[]/\b.Rep a.p a.r.B
def y0w (i:RunI):Prop:=
 cnd (decide (i.inst>=0)) (cnd (decide (i.inst<(↑i.s.books.length:Int))) (cnd (zC i.sd==1) (cnd (decide (i.q>=1)) (cnd (!decide (i.q<=1000000)) (bG i) (z3s i)) (bG i)) (cnd (zC i.sd==2) (cnd (decide (i.q>=1)) (cnd (!decide (i.q<=1000000)) (bG i) (z3s i)) (bG i)) (bG i))) (bG i)) (bG i)
structure QOk (T:List Top) (q:Quote):Prop where
 a:0<=q.a.inst/\q.a.inst<T.length
 b:0<=q.b.inst/\q.b.inst<T.length
 sa:q.a.side=1\/q.a.side=2
 sb:q.b.side=1\/q.b.side=2
 ne:q.a.inst≠q.b.inst
 ha:(T.getD q.a.inst.toNat top0).has q.a.side=ar
 hb:(T.getD q.b.inst.toNat top0).has q.b.side=ar
 qty:q.qty=min ((T.getD q.a.inst.toNat top0).qty q.a.side) ((T.getD q.b.inst.toNat top0).qty q.b.side)
def z4u {T:List Top} {a b:Leg} {less:Bool} {q:Quote} (h:q∈mkq T a b less) (h1:0<=a.inst/\a.inst<T.length) (h2:0<=b.inst/\b.inst<T.length) (h3:a.side=1\/a.side=2) (h4:b.side=1\/b.side=2) (hne:a.inst≠b.inst):QOk T q/\q.a=a/\q.b=b:=by
 cases less
 all_goals
  simp only[mkq,y6n,↓reduceIte]at h;split at h
  ·rename_i hc;simp only[y6h]at hc;rw[y7g]at h;subst h;exact⟨⟨h1,h2,h3,h4,hne,hc.1.1,hc.1.2,rfl⟩,rfl,rfl⟩
  ·cases h
def ySo:∀n≤6,∀k<n+n*(n-1) / 2,n<=k->(kT n k n 0).1≠(kT n k n 0).2.1:=by decide
def z6y {p:Prd} (hc:p.check=0) {k:Nat} (hk:k<p.count) (hs:(p.legs k).2.2=ar):(p.legs k).1≠(p.legs k).2.1:=by
 have m6:=(kH hc).m6;have hk':=hk;rw[Prd.count,y5v hc]at hk';by_cases h:k<p.months.length
 ·rw[Prd.legs,y5t (by omega),y5v (by omega)]at hs;cases hs
 ·rw[Prd.legs,y5t (by omega),y5t (by omega)];exact ySo p.months.length m6 k hk' oM
def yCw:∀n≤6,∀a<n,∀b<n,a<b->(yJ n a:Int)+b-a-1>=n:=by decide
def zSe {p:Prd} (hc:p.check=0) {a b:Nat} (hab:a<b) (hb:b<p.months.length):(p.months.length:Int)<=(p.spread a b).1:=by
 have m6:=(kH hc).m6;have:=yCw p.months.length m6 a oM b hb hab;rw[Prd.spread,y5t (by omega)];simpa using this
def z8a {p:Prd} (hc:p.check=0) {T:List Top} (hT:T.length=p.count) {inst:Int} {s:Int} (hs:s=1\/s=2) {q:Quote} (h:q∈kP ⟨p,T,inst⟩ s):QOk T q/\0<=inst/\inst<p.count/\
 (((p.legs inst).2.2=ar/\q.a=⟨(p.legs inst).1,s⟩/\q.b=⟨(p.legs inst).2.1,3-s⟩)\/(inst<p.months.length/\q.a.inst≠inst/\(p.months.length:Int)<=q.a.inst)):=by
 rw[kP]at h;dsimp only at h;split at h
 ·cases h
 ·rename_i hn;have h0:0<=inst/\inst<p.count:=by omega
  obtain⟨k,rfl⟩:∃k:Nat,inst=k:=⟨inst.toNat,oM⟩
  have hk:k<p.count:=by omega
  have hge:=zGn hc;split at h
  ·rename_i hl;obtain⟨q',hq',rfl⟩:=y7f.1 h;have hle:=fJ hc hk;rcases hle with⟨_,l1,l2,l3,l4⟩|⟨e,_⟩
   ·obtain⟨ok,e1,e2⟩:=z4u hq' Z9 Z9 Z9 hs (λe=>z6y hc hk hl e.symm);refine⟨⟨by dsimp only[bJ];omega,by dsimp only[bJ];omega,hs,by dsimp only[bJ];omega,z6y hc hk hl,?_,?_,?_⟩,h0.1,h0.2,.inl ⟨hl,rfl,rfl⟩⟩
    ·have:=ok.hb;rw[e2]at this;exact this
    ·have:=ok.ha;rw[e1]at this;exact this
    ·have:=ok.qty;rw[e1,e2]at this;dsimp only[bJ];rw[this];exact Int.min_comm _ _
   ·rw[e]at hl;cases hl
  ·rename_i hl;have hm:k<p.months.length:=by
    rcases fJ hc hk with⟨e,_⟩|⟨_,e⟩
    ·exact absurd e hl
    ·exact e
   rcases y6y.1 h with h|h
   ·obtain⟨j,hj,h⟩:=y8n.1 h;have hj:=y8x.1 hj;rw[y6m]at hj;have s1:=b6 hc (a:=k) (b:=k+1+j) oM oM;have s2:=zSe hc (a:=k) (b:=k+1+j) oM oM;have ec:((k:Int)+1+j)=((k+1+j:Nat):Int):=by omega
    rw[ec]at h;obtain⟨ok,e1,e2⟩:=z4u h Z9 Z9 hs hs Z9;exact⟨ok,h0.1,h0.2,.inr ⟨oM,by rw[e1];dsimp only;omega,by rw[e1];exact s2⟩⟩
   ·obtain⟨j,hj,h⟩:=y8n.1 h;have hj:=y8x.1 hj;rw[y6m]at hj;have s1:=b6 hc (a:=j) (b:=k) oM oM;have s2:=zSe hc (a:=j) (b:=k) oM oM;obtain⟨ok,e1,e2⟩:=z4u h Z9 Z9 Z9 hs Z9;exact⟨ok,h0.1,h0.2,.inr ⟨oM,by rw[e1];dsimp only;omega,by rw[e1];exact s2⟩⟩
def zSn {s:Int}:∀(r:List Quote) (q:Quote),r.foldl (λb q=>if btr s q.price b.price then q else b) q∈q::r
 |[],q=>y5z
 |x::r,q=>by
  rw[y9m];have:=zSn (s:=s) r (if btr s x.price q.price then x else q);rcases y6o.1 this with e|h
  ·rw[e];split
   ·exact y6b _ y5z
   ·exact y5z
  ·exact y6b _ (y6b _ h)
def zHf {l:List Quote} {s:Int} (h:(zV l s).2=ar):(zV l s).1∈l:=by
 cases l with
 |nil=>cases h
 |cons q r=>exact zSn r q
def yOv (B:List (List zI)):Prop:=∀(k:Nat) (L:List zI),B[k]?=av L->(∀o∈L,zQb o)/\(L.map (·.id)).Nodup/\L.length<=250
def MSt.Rep.ords {s:MSt} {p:Prd} {B:List (List zI)} (h:s.Rep p B):yOv B:=by
 intro k L hL;obtain⟨b,hb⟩:=yA (l:=s.books) (i:=k) (by rw[h.bl];exact(y5x.1 hL).1);exact(h.bk k b L hb hL).ords
def z8u:∀{l:List zI} {v:Lv},(∀o∈l,zQb o)->v∈grp l->1<=v.qty/\v.qty<=1000000*l.length
 |[],v,_,h=>by cases h
 |o::l,v,ho,h=>by
  have h0:=(ho o y5z).q;have ih:∀v∈grp l,1<=v.qty/\v.qty<=1000000*l.length:=λv hv=>z8u (λx hx=>ho x (y6b _ hx)) hv
  rw[grp]at h;rw[y5y];split at h
  ·rw[y7g]at h;subst h;dsimp only;omega
  ·rename_i w ws e;rw[e]at ih;have hw:=ih w y5z;split at h
   ·rcases y6o.1 h with rfl|h
    ·dsimp only;omega
    ·have:=ih v (y6b _ h);omega
   ·rcases y6o.1 h with rfl|h
    ·dsimp only;omega
    ·have:=ih v h;omega
def z3t {L:List zI} {s:Int} (h:∀o∈L,zQb o) (hl:L.length<=250) (hb:(bestL L s).2=ar):1<=(bestL L s).1.qty/\(bestL L s).1.qty<=250000000:=by
 rw[bestL]at hb ⊢;cases hl2:gR L s with
 |nil=>rw[hl2]at hb;cases hb
 |cons v vs=>
  dsimp only;have hm:v∈grp (L.filter λo=>decide (o.side=s)):=by rw[<- gR,hl2];exact y5z
  have:=z8u (λo ho=>h o (y7t.1 ho).1) hm;have:=y9f (λo:zI=>decide (o.side=s)) L;omega
def yGt {B:List (List zI)} {k:Nat} {L:List zI} (hL:B[k]? =av L):(B.map kD).getD k top0=kD L:=zT (by rw[y7k,hL];rfl)
def zLd (L:List zI) {s:Int} (hs:s=1\/s=2):(kD L).has s=(bestL L s).2/\(kD L).qty s=(bestL L s).1.qty/\(kD L).price s=(bestL L s).1.price:=by
 obtain⟨e1,e2,e3,e4,e5,e6⟩:=zLw L;rcases hs with rfl|rfl
 ·exact⟨e3,e2,e1⟩
 ·exact⟨e6,e5,e4⟩
def z9d {p:Prd} {B:List (List zI)} (h:BOk p B) (ho:yOv B) {inst:Int} (hi:0<=inst/\inst<B.length) {s:Int} (hs:s=1\/s=2) (hn:(yW p B inst s).2.2=ar):
 (1<=(yW p B inst s).1.qty/\(yW p B inst s).1.qty<=250000000)/\((yW p B inst s).2.1=ar->(yW p B inst s).1∈kP ⟨p,B.map kD,inst⟩ s/\QOk (B.map kD) (yW p B inst s).1)/\
 ((yW p B inst s).2.1=aq->(bestL (B.getD inst.toNat []) s).2=ar/\(yW p B inst s).1.price=(bestL (B.getD inst.toNat []) s).1.price/\(yW p B inst s).1.qty=(bestL (B.getD inst.toNat []) s).1.qty):=by
 obtain⟨k,rfl⟩:∃k:Nat,inst=k:=⟨inst.toNat,oM⟩
 obtain⟨L,hL⟩:=yA (l:=B) (i:=k) oM;have hLo:=ho k L hL;rw[yW]at hn ⊢;rw[y6m,zT hL]at hn ⊢;split
 ·rename_i c;simp only[y6h]at c;exact⟨z3t hLo.1 hLo.2.2 c.1,⟨λe=>(by cases e),λ_=>⟨c.1,rfl,rfl⟩⟩⟩
 ·rename_i c;rw[y5t c]at hn;dsimp only at hn ⊢;have hm:=zHf hn;have ha:(zV (x5 ⟨p,B.map kD,k⟩ s) s).1∈kP ⟨p,B.map kD,k⟩ s:=(y7t.1 hm).1;obtain⟨ok,_⟩:=z8a h.pc (by rw[y5u];exact h.bl) hs ha;refine⟨?_,λ_=>⟨ha,ok⟩,λe=>by rw[hn]at e;cases e⟩;generalize (zV (x5 ⟨p,B.map kD,k⟩ s) s).1=q at ok;have a:=ok.a;have b:=ok.b;rw[y5u]at a b;obtain⟨La,hLa⟩:=yA (l:=B) (i:=q.a.inst.toNat) oM;obtain⟨Lb,hLb⟩:=yA (l:=B) (i:=q.b.inst.toNat) oM;have e1:=ok.ha;have e2:=ok.hb;have e3:=ok.qty;rw[yGt hLa]at e1 e3;rw[yGt hLb]at e2 e3;rw[(zLd La ok.sa).1]at e1;rw[(zLd Lb ok.sb).1]at e2;rw[(zLd La ok.sa).2.1,(zLd Lb ok.sb).2.1]at e3;have:=z3t (ho _ _ hLa).1 (ho _ _ hLa).2.2 e1;have:=z3t (ho _ _ hLb).1 (ho _ _ hLb).2.2 e2;omega
def yHx {L:List zI} {id q:Int} {o:zI} (h:o∈(x7 L id q).1):∃o'∈L,o.price=o'.price/\o.side=o'.side/\o.id=o'.id:=by
 rw[x7]at h;split at h
 ·exact⟨o,h,rfl,rfl,rfl⟩
 split at h
 ·exact⟨o,h,rfl,rfl,rfl⟩
 obtain⟨o',ho',e⟩:=xBa.1 h;refine⟨o',ho',?_⟩;split at e
 ·split at e
  ·cases e
  ·cases e;exact⟨rfl,rfl,rfl⟩
 ·cases e;exact⟨rfl,rfl,rfl⟩
def BOk.take {p:Prd} {B:List (List zI)} (h:BOk p B) (id q:Int):BOk p (kO B id q).1:=by
 refine⟨h.pc,h.ps,by rw[rD];exact h.bl,λk L hL o ho=> ?_⟩;rw[kO]at hL;split at hL
 ·exact h.pr k L hL o ho
 ·rename_i j hj;dsimp only at hL;rcases bX hL with⟨rfl,rfl⟩|⟨_,hL⟩
  ·obtain⟨o',ho',e,_⟩:=yHx ho;obtain⟨L',hL',_⟩:=gZ hj;rw[zT hL']at ho';rw[e];exact h.pr k L' hL' o' ho'
  ·exact h.pr k L hL o ho
def BOk.takes {p:Prd}:∀{fs:List c9} {B:List (List zI)},BOk p B->BOk p (kU B fs)
 |[],B,h=>h
 |f::fs,B,h=>BOk.takes (fs:=fs) (h.take f.id f.qty)
def zYc (inst s:Int):∀(os:List zI) (sh:List Int),(x6 inst s os sh).length<=os.length
 |[],sh=>y6p 0
 |o::os,[]=>y6z _
 |o::os,k::sh=>by
  have:=zYc inst s os sh;rw[x6];split
  ·simp only[y5y];omega
  ·simp only[y5y];omega
def pC {p:Prd} {B:List (List zI)} (ho:yOv B) (inst s q:Int):(qV p B inst s q).length<=250:=by
 refine y8p (zYc _ _ _ _) (y8p (y9f _ _) ?_);by_cases h:inst.toNat<B.length
 ·obtain⟨L,hL⟩:=yA h;rw[zT hL];exact(ho _ _ hL).2.2
 ·rw[y6c,y7a (by omega)];exact y6z _
def zOp {p:Prd} {B:List (List zI)} {inst:Int} {sd:Bool} {price q:Int} {t:j7} {B':List (List zI)} (hq:1<=q) (h:aP p B inst sd price q=av (t,B')):1<=t.qty/\t.qty<=q:=by
 rw[aP]at h;dsimp only at h;split at h
 ·rename_i c;simp only[y6h,y7i]at c;split at h
  ·cases h;dsimp only;omega
  ·cases h;dsimp only;omega
 ·cases h
def zYm {p:Prd} {inst:Int} {sd:Bool} {price:Int}:∀(m n:Nat) (B:List (List zI)) (q:Int),q.toNat<=m->q.toNat<=n->zKy p inst sd price m B q=zKy p inst sd price n B q
 |0,0,B,q,_,_=>rfl
 |0,n+1,B,q,h,_=>by rw[zKy,zKy,y5v (by omega)]
 |m+1,0,B,q,_,h=>by rw[zKy,zKy,y5v (by omega)]
 |m+1,n+1,B,q,h1,h2=>by
  rw[zKy,zKy];split
  ·rfl
  ·rename_i hq;cases hs:aP p B inst sd price q with
   |none=>rfl
   |some x=>
    obtain⟨t,B'⟩:=x;have:=zOp oM hs;dsimp only;rw[zYm m n B' (q-t.qty) (by omega) (by omega)]
def lV {p:Prd} {B:List (List zI)} {inst:Int} {sd:Bool} {price q:Int} (h:q<=0\/aP p B inst sd price q=aw):wN p B inst sd price q=⟨[],q,B⟩:=by
 rw[wN];cases hn:q.toNat with
 |zero=>rfl
 |succ n=>
  rw[zKy];rcases h with h|h
  ·rw[y5v h]
  ·rw[y5t (by omega),h]
def zNo {p:Prd} {B:List (List zI)} {inst:Int} {sd:Bool} {price q:Int} {t:j7} {B':List (List zI)} (hq:1<=q) (h:aP p B inst sd price q=av (t,B')):
 wN p B inst sd price q=⟨t::(wN p B' inst sd price (q-t.qty)).steps,(wN p B' inst sd price (q-t.qty)).left,(wN p B' inst sd price (q-t.qty)).B⟩:=by
 have ht:=zOp hq h;rw[wN];cases hn:q.toNat with
 |zero=>omega
 |succ n=>
  rw[zKy,y5t (by omega),h];dsimp only;rw[zYm n (q-t.qty).toNat B' (q-t.qty) (by omega) (y6p _)];rfl
end Sx
