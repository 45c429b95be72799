/- Texts of ours. No condition. -/
import Derived.Test.YthkofaanekmpmaaGreatR7
set_option linter.all false
open List renaming map->aa,replicate->ab,filter_eq_nil_iff->ac,take->ae,drop->af
open Sx.AObj renaming adt->ag,fro->aj,objs->ak,cells->am,own->ao,map->ap
open Bool renaming false->aq,true->ar
open Go.IntKind renaming i64->au
open Option renaming some->av,none->aw
open Go.Value renaming int->ax
open Exists renaming intro->ay
open And renaming intro->az
namespace Sx
set_option maxRecDepth 100000
open Go Cv Go.Proofs
def xA (a:DrI):=(a.b.dropF 1 a.id a.price)
def zHw (a:BkP) (b:DrI):Prop:=a.b.has2=b.b.has2/\ag Arena 3 zG a.b.a=zP b.b 1/\aa zB a.b.buys=aa zB b.b.buys/\aa zB a.b.sells=aa zB b.b.sells/\atE a.b.at_=zBn (ax au b.id) (atE b.b.at_)/\iE a.b.spare=iE b.b.spare/\(qC a)/\∀(c:Unit),True->(gS a)/\∃(d:Int),zE (aa zB a.b.buys) (xX a).toNat 1 1=av [dI d]/\∃(e:ArN),e.n=d/\ag Arena 3 zG e.a=ag Arena 3 zG a.b.a/\True/\∀(f:Unit),True->cnd ((e.a.qAt e.n).count==0) (((iE a.b.spare).length+1)*(8:Nat)<=(140737488355328:Nat)/\∃(g:yXw),(↑g.i:Int)=(xX a)/\(↑g.j:Int)=au.wrap ((xX a)+1)/\g.els=aa zB a.b.buys/\(g.i<g.j/\g.j<=g.els.length)/\∀(h:Unit),True->dh ((1:Int))/\∃(j:Unit),(xA b).top1=a.b.top1/\(xA b).top2=a.b.top2/\(xA b).has1=a.b.has1/\(xA b).has2=a.b.has2/\ag Arena 3 zG (xA b).a=ag Arena 3 zG e.a/\atE (xA b).at_=atE a.b.at_/\aa zB (xA b).buys=ae g.i g.els++af g.j g.els/\aa zB (xA b).sells=aa zB a.b.sells/\iE (xA b).spare=iE a.b.spare++[[dI d]]/\True) (∃(g:Unit),(xA b).top1=a.b.top1/\(xA b).top2=a.b.top2/\(xA b).has1=a.b.has1/\(xA b).has2=a.b.has2/\ag Arena 3 zG (xA b).a=ag Arena 3 zG e.a/\atE (xA b).at_=atE a.b.at_/\aa zB (xA b).buys=aa zB a.b.buys/\aa zB (xA b).sells=aa zB a.b.sells/\iE (xA b).spare=iE a.b.spare/\True)
def zIb (a:DrI):Prop:=∃(b:BkP),dh ((1:Int))/\b.price=a.price/\b.b.top1=a.b.top1/\b.b.top2=a.b.top2/\b.b.has1=a.b.has1/\zHw b a
def yFv (i:DrI):Prop:=
 (∀(a:Value×List D),a∈atE i.b.at_->like (ax au i.id) a.fst=ar)/\cnd i.b.has1 (cnd (i.b.top1==i.id) (∃(a:BkP),dh ((1:Int))/\a.price=i.price/\a.b.top1=i.b.top1/\a.b.top2=i.b.top2/\a.b.has1=aq/\zHw a i) (zIb i)) (zIb i)
def xB (a:DrI):=(a.b.dropF 2 a.id a.price)
def zJi (a:BkP) (b:DrI):Prop:=ag Arena 3 zG a.b.a=zP b.b 1/\aa zB a.b.buys=aa zB b.b.buys/\aa zB a.b.sells=aa zB b.b.sells/\atE a.b.at_=zBn (ax au b.id) (atE b.b.at_)/\iE a.b.spare=iE b.b.spare/\(qC a)/\∀(c:Unit),True->(gZ a)/\∃(d:Int),zE (aa zB a.b.sells) (xW a).toNat 1 1=av [dI d]/\∃(e:ArN),e.n=d/\ag Arena 3 zG e.a=ag Arena 3 zG a.b.a/\True/\∀(f:Unit),True->cnd ((e.a.qAt e.n).count==0) (((iE a.b.spare).length+1)*(8:Nat)<=(140737488355328:Nat)/\∃(g:yXw),(↑g.i:Int)=(xW a)/\(↑g.j:Int)=au.wrap ((xW a)+1)/\g.els=aa zB a.b.sells/\(g.i<g.j/\g.j<=g.els.length)/\∀(h:Unit),True->dh ((2:Int))/\∃(j:Unit),(xB b).top1=a.b.top1/\(xB b).top2=a.b.top2/\(xB b).has1=a.b.has1/\(xB b).has2=a.b.has2/\ag Arena 3 zG (xB b).a=ag Arena 3 zG e.a/\atE (xB b).at_=atE a.b.at_/\aa zB (xB b).buys=aa zB a.b.buys/\aa zB (xB b).sells=ae g.i g.els++af g.j g.els/\iE (xB b).spare=iE a.b.spare++[[dI d]]/\True) (∃(g:Unit),(xB b).top1=a.b.top1/\(xB b).top2=a.b.top2/\(xB b).has1=a.b.has1/\(xB b).has2=a.b.has2/\ag Arena 3 zG (xB b).a=ag Arena 3 zG e.a/\atE (xB b).at_=atE a.b.at_/\aa zB (xB b).buys=aa zB a.b.buys/\aa zB (xB b).sells=aa zB a.b.sells/\iE (xB b).spare=iE a.b.spare/\True)
def zHa (a:DrI):Prop:=∃(b:BkP),dh ((2:Int))/\b.price=a.price/\b.b.top1=a.b.top1/\b.b.top2=a.b.top2/\b.b.has1=a.b.has1/\b.b.has2=a.b.has2/\zJi b a
def yIk (i:DrI):Prop:=
 (∀(a:Value×List D),a∈atE i.b.at_->like (ax au i.id) a.fst=ar)/\cnd i.b.has2 (cnd (i.b.top2==i.id) (∃(a:BkP),dh ((2:Int))/\a.price=i.price/\a.b.top1=i.b.top1/\a.b.top2=i.b.top2/\a.b.has1=i.b.has1/\a.b.has2=aq/\zJi a i) (zHa i)) (zHa i)
def zCc (a:FlI):Prop:=aa zB a.b.buys=aa zB a.b.buys/\dh (aa zB a.b.sells)/\dh (atE a.b.at_)/\dh (iE a.b.spare)/\True
def zIq (a:Int) (b:FlI) (c:Int) (d:Int):Prop:=∃(e:ArN),e.n=a/\ag Arena 3 zG e.a=ag Arena 3 zG b.b.a/\e.a.slots.length<=1000000/\∀(f:Unit),True->∃(g:Unit),(dP b.L b.id).id=b.id/\(dP b.L b.id).side=c/\(dP b.L b.id).price=d/\(dP b.L b.id).qty=(e.a.getF e.n).fst.qty/\(dP b.L b.id).top=(e.a.getF e.n).fst.top/\wO b.L b.id=ar/\dh b.b.top1/\dh b.b.top2/\dh b.b.has1/\dh b.b.has2/\ag Arena 3 zG b.b.a=ag Arena 3 zG e.a/\zCc b
def rK (a:FlI) (b:Int) (c:Int) (d:Int) (e:Bool):Prop:=kK (ax au a.id) (atE a.b.at_)=av [dI b,dI c,dI d]/\e=ar\/kK (ax au a.id) (atE a.b.at_)=aw/\[dI b,dI c,dI d]=[dI 0,dI 0,dI 0]/\e=aq
def yJc (i:FlI):Prop:=
 (∀(a:Value×List D),a∈atE i.b.at_->like (ax au i.id) a.fst=ar)/\∃(a:Bool),∃(b:Int),∃(c:Int),∃(d:Int),(rK i b c d a)/\cnd (!a) (∃(e:Unit),(dP i.L i.id).id=0/\(dP i.L i.id).side=0/\(dP i.L i.id).price=0/\(dP i.L i.id).qty=0/\(dP i.L i.id).top=aq/\wO i.L i.id=aq/\dh i.b.top1/\dh i.b.top2/\dh i.b.has1/\dh i.b.has2/\dh (ag Arena 3 zG i.b.a)/\zCc i) ((zIq d i b c)/\d=d/\True/\zIq d i b c)
def zBe (a:Book) (b:FlI):Prop:=aa zB a.buys=aa zB b.b.buys/\aa zB a.sells=aa zB b.b.sells/\atE a.at_=atE b.b.at_/\iE a.spare=iE b.b.spare/\a.Rep (x3 b.L b.id b.qty).fst
def vH (a:DrJ):=(a.i.b.dropF (zC a.s) a.i.id a.i.price)
def zPp (a:FlI) (b:Int) (c:Int) (d:Int) (e:ArN):Prop:=∃(f:DrJ),f.i.id=a.id/\zC f.s=b/\f.i.price=c/\f.i.slot=d/\f.i.b.top1=a.b.top1/\f.i.b.top2=a.b.top2/\f.i.b.has1=a.b.has1/\f.i.b.has2=a.b.has2/\ag Arena 3 zG f.i.b.a=ag Arena 3 zG e.a/\aa zB f.i.b.buys=aa zB a.b.buys/\aa zB f.i.b.sells=aa zB a.b.sells/\atE f.i.b.at_=atE a.b.at_/\iE f.i.b.spare=iE a.b.spare/\(((f.i.b.a.slots.length<=1000000/\f.i.b.a.queues.length<=1000000)/\f.i.b.buys.length<=1000000/\f.i.b.sells.length<=1000000/\f.i.b.spare.length<=1000000)/\zY (zC f.s) (f.i.b.rungs (zC f.s)) f.i.price<(f.i.b.rungs (zC f.s)).length)/\∀(g:Unit),True->∃(h:Book),(x3 a.L a.id a.qty).snd=0/\h.top1=(vH f).top1/\h.top2=(vH f).top2/\h.has1=(vH f).has1/\h.has2=(vH f).has2/\ag Arena 3 zG h.a=ag Arena 3 zG (vH f).a/\aa zB h.buys=aa zB (vH f).buys/\aa zB h.sells=aa zB (vH f).sells/\atE h.at_=atE (vH f).at_/\iE h.spare=iE (vH f).spare/\h.Rep (x3 a.L a.id a.qty).fst
def zUy (a:Int) (b:TkI) (c:FlI) (d:Int) (e:Int):Prop:=∃(f:ArN),f.n=a/\ag Arena 3 zG f.a=ag Arena 3 zG (b.a.takeF b.n b.qty).fst/\f.a.slots.length<=1000000/\∀(g:Unit),True->cnd (!(f.a.getF f.n).snd) (zPp c d e a f) (cnd ((f.a.getF f.n).fst.id !=c.id) (zPp c d e a f) (∃(h:Book),(x3 c.L c.id c.qty).snd=0/\h.top1=c.b.top1/\h.top2=c.b.top2/\h.has1=c.b.has1/\h.has2=c.b.has2/\ag Arena 3 zG h.a=ag Arena 3 zG f.a/\zBe h c))
def yRm (i:FlI):Prop:=
 (∀(a:Value×List D),a∈atE i.b.at_->like (ax au i.id) a.fst=ar)/\∃(a:Bool),∃(b:Int),∃(c:Int),∃(d:Int),(rK i b c d a)/\cnd (!a) (∃(e:Book),(x3 i.L i.id i.qty).snd=26/\e.top1=i.b.top1/\e.top2=i.b.top2/\e.has1=i.b.has1/\e.has2=i.b.has2/\ag Arena 3 zG e.a=ag Arena 3 zG i.b.a/\zBe e i) (∃(e:TkI),e.n=d/\e.qty=i.qty/\ag Arena 3 zG e.a=ag Arena 3 zG i.b.a/\(e.a.slots.length<=1000000/\∀(k:Nat) (s:Slot),e.a.slots[k]?=av s->s.used=ar->(0<=s.queue/\s.queue<(↑e.a.queues.length:Int))/\s.qty<=1000000/\(s.ahead=(-1)\/0<=s.ahead/\s.ahead<(↑e.a.slots.length:Int)/\s.ahead≠(↑k:Int))/\(s.back=(-1)\/0<=s.back/\s.back<(↑e.a.slots.length:Int)/\s.back≠(↑k:Int)))/\∀(f:Unit),True->cnd ((e.a.takeF e.n e.qty).snd !=0) (∃(g:Book),(x3 i.L i.id i.qty).snd=(e.a.takeF e.n e.qty).snd/\g.top1=i.b.top1/\g.top2=i.b.top2/\g.has1=i.b.has1/\g.has2=i.b.has2/\ag Arena 3 zG g.a=ag Arena 3 zG (e.a.takeF e.n e.qty).fst/\zBe g i) ((zUy d e i b c)/\d=d/\True/\zUy d e i b c))
def y0y (i:AtI):Prop:=
 ∃(a:Int),a=zC aq/\True/\∀(b:Unit),True->cnd (qW a) (∃(c:Unit),dh i.b.top1/\dh i.b.top2/\dh i.b.has1/\dh i.b.has2/\dh (ag Arena 3 zG i.b.a)/\dh (aa zB i.b.buys)/\dh (aa zB i.b.sells)/\dh (atE i.b.at_)/\dh (iE i.b.spare)/\aa vA (atL i.L (zC aq) i.price)=[]/\True) (∃(c:BkP),1=zC aq/\c.price=i.price/\c.b.top1=i.b.top1/\c.b.top2=i.b.top2/\c.b.has1=i.b.has1/\c.b.has2=i.b.has2/\ag Arena 3 zG c.b.a=ag Arena 3 zG i.b.a/\aa zB c.b.buys=aa zB i.b.buys/\aa zB c.b.sells=aa zB i.b.sells/\atE c.b.at_=atE i.b.at_/\iE c.b.spare=iE i.b.spare/\(qC c)/\∀(d:Unit),True->cnd (!kU 1 (c.b.rungs 1) c.price) (∃(e:Unit),i.b.top1=c.b.top1/\i.b.top2=c.b.top2/\i.b.has1=c.b.has1/\i.b.has2=c.b.has2/\ag Arena 3 zG i.b.a=ag Arena 3 zG c.b.a/\aa zB i.b.buys=aa zB c.b.buys/\aa zB i.b.sells=aa zB c.b.sells/\atE i.b.at_=atE c.b.at_/\iE i.b.spare=iE c.b.spare/\aa vA (atL i.L (zC aq) i.price)=[]/\True) ((gS c)/\∃(e:Int),∃(f:Int),zE (aa zB c.b.buys) (xX c).toNat 0 2=av [dI e,dI f]/\∃(g:BoI),g.s=zC aq/\g.r.price=e/\g.r.queue=f/\g.b.top1=c.b.top1/\g.b.top2=c.b.top2/\g.b.has1=c.b.has1/\g.b.has2=c.b.has2/\ag Arena 3 zG g.b.a=ag Arena 3 zG c.b.a/\aa zB g.b.buys=aa zB c.b.buys/\aa zB g.b.sells=aa zB c.b.sells/\atE g.b.at_=atE c.b.at_/\iE g.b.spare=iE c.b.spare/\g.b.a.listOk g.r.queue g.l/\∀(h:Unit),True->∃(j:Unit),z8 i.b=z8 g.b/\aa vA (atL i.L (zC aq) i.price)=aa vA g.ords/\True))
def y0t (i:AtI):Prop:=
 ∃(a:Int),a=zC ar/\True/\∀(b:Unit),True->cnd (qW a) (∃(c:Unit),dh i.b.top1/\dh i.b.top2/\dh i.b.has1/\dh i.b.has2/\dh (ag Arena 3 zG i.b.a)/\dh (aa zB i.b.buys)/\dh (aa zB i.b.sells)/\dh (atE i.b.at_)/\dh (iE i.b.spare)/\aa vA (atL i.L (zC ar) i.price)=[]/\True) (∃(c:BkP),2=zC ar/\c.price=i.price/\c.b.top1=i.b.top1/\c.b.top2=i.b.top2/\c.b.has1=i.b.has1/\c.b.has2=i.b.has2/\ag Arena 3 zG c.b.a=ag Arena 3 zG i.b.a/\aa zB c.b.buys=aa zB i.b.buys/\aa zB c.b.sells=aa zB i.b.sells/\atE c.b.at_=atE i.b.at_/\iE c.b.spare=iE i.b.spare/\(qC c)/\∀(d:Unit),True->cnd (!kU 2 (c.b.rungs 2) c.price) (∃(e:Unit),i.b.top1=c.b.top1/\i.b.top2=c.b.top2/\i.b.has1=c.b.has1/\i.b.has2=c.b.has2/\ag Arena 3 zG i.b.a=ag Arena 3 zG c.b.a/\aa zB i.b.buys=aa zB c.b.buys/\aa zB i.b.sells=aa zB c.b.sells/\atE i.b.at_=atE c.b.at_/\iE i.b.spare=iE c.b.spare/\aa vA (atL i.L (zC ar) i.price)=[]/\True) ((gZ c)/\∃(e:Int),∃(f:Int),zE (aa zB c.b.sells) (xW c).toNat 0 2=av [dI e,dI f]/\∃(g:BoI),g.s=zC ar/\g.r.price=e/\g.r.queue=f/\g.b.top1=c.b.top1/\g.b.top2=c.b.top2/\g.b.has1=c.b.has1/\g.b.has2=c.b.has2/\ag Arena 3 zG g.b.a=ag Arena 3 zG c.b.a/\aa zB g.b.buys=aa zB c.b.buys/\aa zB g.b.sells=aa zB c.b.sells/\atE g.b.at_=atE c.b.at_/\iE g.b.spare=iE c.b.spare/\g.b.a.listOk g.r.queue g.l/\∀(h:Unit),True->∃(j:Unit),z8 i.b=z8 g.b/\aa vA (atL i.L (zC ar) i.price)=aa vA g.ords/\True))
def tM {L:List zI} (h:(L.map (·.id)).Nodup) {o:zI} (ho:o∈L):dP L o.id=o:=by
 induction L with
 |nil=>cases ho
 |cons x L ih=>
  rw[y5t,y7v]at h;rw[dP,xBh];rcases y5z.1 ho with rfl|ho
  ·rw[y5v rfl];rfl
  ·have:x.id≠o.id:=λe=>h.1 (e▸y6i (f:=(·.id)) ho)
   rw[y5r this];exact ih h.2 ho
def a8 {α β:Type} {f g:α->Option β}:∀{l:List α},(∀x∈l,f x=g x)->l.filterMap f=l.filterMap g
 |[],_=>rfl
 |x::l,h=>by rw[List.filterMap_cons,List.filterMap_cons,h x y5k,a8 λy hy=>h y (y5m _ hy)]
def yUv {L:List zI} {id:Int} (h:wO L id=aq):dP L id=yWd:=by
 rw[dP];have:L.find? (λo=>decide (o.id=id))=aw:=by
  rw[List.find?_eq_none];intro o ho;rw[wO,xBj]at h;exact h o ho
 rw[this];rfl
structure Told (b:Book) (Q:List (List Nat)) (id:Int) (s:Int) (r:xM) (k:Nat):Prop where
 hs:s=1\/s=2
 hr:r∈b.rungs s
 hk:k∈xC Q r
 e:pget b.at_ id=av ⟨s,r.price,k⟩
 ident:(b.a.slotAt k).id=id
 get:dP (b.flat Q) id=wX b.a s r.price k
 has:wO (b.flat Q) id=ar
def yOb {b:Book} {Q:List (List Nat)} {s:Int} (hs:s=1\/s=2) {r:xM} (hr:r∈b.rungs s) {k:Nat} (hk:k∈xC Q r):wX b.a s r.price k∈b.flat Q:=
 flat_mem hs (y7y.2 ⟨r,hr,y6i hk⟩)
def Book.Core.told {b:Book} {Q:List (List Nat)} (c:b.Core Q (-1)) (id:Int):(pget b.at_ id=aw/\wO (b.flat Q) id=aq)\/∃s r k,Told b Q id s r k:=by
 cases hg:pget b.at_ id with
 |none=>
  have:=zHk hg;rw[c.keysP.mem_iff,<- hasId_iff]at this;exact .inl ⟨rfl,by simpa using this⟩
 |some x=>
  obtain⟨k,r,hs,hr,hk,hx,hid⟩:=c.plcI (lQ hg);have hm:=yOb hs hr hk;have hget:=tM c.ids hm;have e:(wX b.a x.side r.price k).id=id:=hid;rw[e]at hget;exact .inr ⟨x.side,r,k,hs,hr,hk,by rw[hg];exact congrArg av hx,hid,hget,hasId_iff.2 (by rw[<- e];exact y6i hm)⟩
def Told.only {b:Book} {Q:List (List Nat)} (c:b.Core Q (-1)) {id s:Int} {r:xM} {k:Nat} (h:Told b Q id s r k) {s':Int} (hs':s'=1\/s'=2) {r':xM} (hr':r'∈b.rungs s') {j:Nat} (hj:j∈xC Q r'):(b.a.slotAt j).id=id↔j=k:=by
 constructor
 ·intro e;have h1:=c.plc hs' hr' hj;have h2:=c.plc h.hs h.hr h.hk;rw[e]at h1;rw[h.ident]at h2;have:=congrArg Place.slot (zLw c.keys h1 h2);dsimp only at this;omega
 ·rintro rfl;exact h.ident
def Book.Core.less {b:Book} {Q:List (List Nat)} (c:b.Core Q (-1)) (ht:b.Tops (b.flat Q)) {id s:Int} {r:xM} {k:Nat} (h:Told b Q id s r k) {q:Int} (hq:1<=q/\q<(b.a.slotAt k).qty):
 (b.a.takeF k q).2=0/\({b with a:=(b.a.takeF k q).1}:Book).Rep (uY (b.flat Q) id q)/\(b.a.takeF k q).1.slots.length=250/\(b.a.takeF k q).1.getF k=((((b.a.takeF k q).1.slotAt k)).ent,ar)/\((b.a.takeF k q).1.slotAt k).id=id:=by
 obtain⟨t1,t2,t3⟩:=c.wf.take (c.get h.hs h.hr) h.hk (q:=q) ⟨hq.1,oM⟩;rw[y5e (by omega)]at t3;obtain⟨w,t4,t5⟩:=t3;have hent:∀j,((b.a.takeF k q).1.slotAt j).ent=if j=k then{(b.a.slotAt k).ent with qty:=(b.a.slotAt k).qty-q}else(b.a.slotAt j).ent:=by
  intro j;split
  ·rename_i e;rw[e,t4];rfl
  ·rename_i e;exact(t2 j e).1
 have hid:∀j,((b.a.takeF k q).1.slotAt j).id=(b.a.slotAt j).id:=by
  intro j;have:=congrArg Ent.id (hent j);split at this
  ·rename_i e;rw[e]at this ⊢;exact this
  ·exact this
 have hflat:({b with a:=(b.a.takeF k q).1}:Book).flat Q=uY (b.flat Q) id q:=by
  have side:∀s',s'=1\/s'=2->({b with a:=(b.a.takeF k q).1}:Book).sideL Q s'=uY (b.sideL Q s') id q:=by
   intro s' hs';rw[uY,Book.sideL,Book.sideL,List.filterMap_flatMap];refine xD λr' hr'=> ?_
   rw[Book.rOrds,Book.rOrds,List.filterMap_map];have:(xC Q r').filterMap (λj=>av (wX (b.a.takeF k q).1 s' r'.price j))=(xC Q r').map (wX (b.a.takeF k q).1 s' r'.price):=by rw[<- List.filterMap_eq_map];rfl
   refine this.symm.trans (a8 λj hj=> ?_);simp only[Function.comp,wX,yGl,hent];have hon:=h.only c hs' hr' hj;by_cases e:j=k
   ·subst e;rw[y5g rfl];refine((y5g (show(b.a.slotAt j).ent.id=id from h.ident)).trans (y5e λe=> ?_)).symm;have e:(b.a.slotAt j).qty=q:=e;omega
   ·rw[y5e e];exact(y5e (λe2=>e (hon.1 e2))).symm
  rw[Book.flat,side 1 (.inl rfl),side 2 (.inr rfl),Book.flat,uY,uY,uY,List.filterMap_append]
 have hu:(b.a.takeF k q).1.usedAt k=ar:=by
  obtain⟨hk2,⟨_,_,h2⟩,h3⟩:=w.toWf0.mem (c.get h.hs h.hr) h.hk;have hlt:=w.len;simp only[Arena.usedAt,y5s,y6t,y5x];exact⟨oM,oM,h2.used⟩
 refine⟨t1,⟨Q,c.flag w hid,⟨λo ho=> ?_,λs' hs' hh=> ?_⟩,hflat.symm⟩,w.len,by rw[Arena.getF,y5g hu,y5x],by rw[hid,h.ident]⟩
 ·obtain⟨o',ho',e⟩:=xAm.1 ho;have:=ht.fl o' ho';split at e
  ·split at e
   ·cases e
   ·cases e;exact this
  ·cases e;exact this
 ·obtain⟨o,ho,o1,o2⟩:=ht.th s' hs' hh;by_cases e:o.id=id
  ·refine⟨{o with qty:=o.qty-q},xAm.2 ⟨o,ho,?_⟩,o1,o2⟩;have hg:=tM c.ids ho;rw[e,h.get]at hg;rw[y5g e,y5e (λe2=>by
    rw[<- hg]at e2;have:(b.a.slotAt k).qty=q:=e2;omega)]
  ·exact⟨o,xAm.2 ⟨o,ho,y5e e⟩,o1,o2⟩
def z8v:∀{l:List (Int×Place)} {k:Int},(l.map (·.1)).Nodup->nD k l=l.filter λx=> !decide (x.1=k)
 |[],k,_=>rfl
 |(a,b)::l,k,h=>by
  rw[y5t,y7v]at h;rw[nD];by_cases e:k=a
  ·subst e;rw[y5g rfl,xAd (by simp)];symm;rw[xAx];intro x hx;have:x.1≠k:=λe=>h.1 (e▸y6i (f:=(·.1)) hx)
   simp[this]
  ·rw[y5e e,xAc (by simp[Ne.symm e]),z8v h.2]
def zEi {l:List Nat} (h:l.Nodup) (k:Nat):l.erase k=l.filter λj=> !decide (j=k):=by
 rw[h.erase_eq_filter];refine List.filter_congr λj _=> ?_
 simp[bne,BEq.beq]
def yFb {s:Int} {l:List xM} (hs:l.Pairwise λr r'=>btr s r.price r'.price=ar) {R1 R2:List xM} {r:xM} (hl:l=R1++r::R2):zY s l r.price=R1.length:=by
 subst hl;rw[List.pairwise_append]at hs;refine pZ (by simp) (λk hk x hx=> ?_) (λx hx=> ?_)
 ·rw[y7z hk]at hx;exact hs.2.2 x (y5p hx) r y5k
 ·rw[y7e (y6a _),xAl]at hx;cases hx;exact zBh _ _
def yGx (b:Book) (id:Int) {s:Int} (hs:s=1\/s=2):(b.unhas s id).a=b.a/\(b.unhas s id).buys=b.buys/\(b.unhas s id).sells=b.sells/\(b.unhas s id).spare=b.spare/\∀s',s'=1\/s'=2->(b.unhas s id).topI s'=b.topI s'/\(b.unhas s id).hasF s'=if s'=s/\b.topI s=id then aq else b.hasF s':=by
 rw[Book.unhas];by_cases hc:b.hasF s=ar/\b.topI s=id
 ·rw[y5g hc];rcases hs with rfl|rfl
  ·exact(rF4 (λs' h=>by rcases h with rfl|rfl;exact⟨rfl,(y5g ⟨rfl,hc.2⟩).symm⟩;exact⟨rfl,(y5e (λe=>absurd e.1 Z8)).symm⟩))
  ·exact(rF4 (λs' h=>by rcases h with rfl|rfl;exact⟨rfl,(y5e (λe=>absurd e.1 Z8)).symm⟩;exact⟨rfl,(y5g ⟨rfl,hc.2⟩).symm⟩))
 ·rw[y5e hc];refine(rF4 (λs' h=>⟨rfl,?_⟩));split
  ·rename_i e;rw[e.1];cases hh:b.hasF s with
   |false=>rfl
   |true=>exact absurd ⟨hh,e.2⟩ hc
  ·rfl
def Book.Core.close {b:Book} {Q:List (List Nat)} {s:Int} (hs:s=1\/s=2) {r:xM} {R1 R2:List xM} (hr:b.rungs s=R1++r::R2) (c:b.Core Q r.queue) (he:xC Q r=[]) {b':Book} (hb:b'=({b with spare:=b.spare++[r.queue]}:Book).setR s (R1++R2)):
 b'.Core Q (-1)/\b'.flat Q=b.flat Q:=by
 obtain⟨g1,g2⟩:=zPq ({b with spare:=b.spare++[r.queue]}:Book) hs (R1++R2);rw[<- hb]at g1 g2;have ha:b'.a=b.a:=by rw[hb];rcases hs with rfl|rfl<;>rfl
 have hat:b'.at_=b.at_:=by rw[hb];rcases hs with rfl|rfl<;>rfl
 have hsp:b'.spare=b.spare++[r.queue]:=by rw[hb];rcases hs with rfl|rfl<;>rfl
 have hqs:b'.qs.Perm b.qs:=by
  rw[hb];rcases hs with rfl|rfl
  ·have hr:b.buys=R1++r::R2:=hr;show((R1++R2).map (·.queue)++b.sells.map (·.queue)++(b.spare++[r.queue])).Perm (b.buys.map (·.queue)++b.sells.map (·.queue)++b.spare)
   rw[hr,<- y5l];refine(y9q _ _).trans ?_;simp only[y5o,y5t,y5l,y6w];exact y5u.symm
  ·have hr:b.sells=R1++r::R2:=hr;show(b.buys.map (·.queue)++(R1++R2).map (·.queue)++(b.spare++[r.queue])).Perm (b.buys.map (·.queue)++b.sells.map (·.queue)++b.spare)
   rw[hr,<- y5l];refine(y9q _ _).trans ?_;simp only[y5o,y5t,y5l,y6w];refine .trans ?_ (List.Perm.append_left _ y5u.symm);exact y5u.symm
 have hside:∀s',s'=1\/s'=2->b'.sideL Q s'=b.sideL Q s':=by
  intro s' hs';have ho:∀x,b'.rOrds Q s' x=b.rOrds Q s' x:=λx=>by rw[Book.rOrds,Book.rOrds,ha]
  rw[Book.sideL,Book.sideL];by_cases e:s'=s
  ·subst e;rw[g1,hr,y7c,y7c,y6z,xD (λx _=>ho x),xD (l:=R2) (λx _=>ho x)];rw[show b.rOrds Q s' r=[]by rw[Book.rOrds,he];rfl,y7u]
  ·rw[g2 s' e hs'];exact xD λx _=>ho x
 have hplc:∀s',s'=1\/s'=2->b'.plcs Q s'=b.plcs Q s':=by
  intro s' hs';rw[Book.plcs,Book.plcs,ha];by_cases e:s'=s
  ·subst e;rw[g1,hr,y7c,y7c,y6z,he,y8w,y7u]
  ·rw[g2 s' e hs'];rfl
 have hflat:b'.flat Q=b.flat Q:=by rw[Book.flat,Book.flat,hside 1 (.inl rfl),hside 2 (.inr rfl)]
 have hnd:=hqs.nodup_iff.2 c.nd;have hmid:r.queue∉(R1++R2).map (·.queue):=by
  intro hm;have h1:r.queue∈(b'.rungs s).map (·.queue):=by rw[g1];exact hm
  rw[Book.qs]at hnd;have h2:=(y7o.1 hnd).2.2 r.queue (by
   rcases hs with rfl|rfl
   ·exact y6x _ h1
   ·exact y7a _ h1) r.queue (by rw[hsp];simp)
  exact h2 rfl
 refine⟨⟨by rw[ha];exact c.wf,λs' hs'=> ?_,λq hq=>c.rng q (hqs.mem_iff.1 hq),hnd,by rw[hqs.length_eq];exact c.ql,λs' hs' x hx _=> ?_,λq hq=> ?_,by rw[hat,hplc 1 (.inl rfl),hplc 2 (.inr rfl)];exact c.at_,by rw[hflat];exact c.ids,c.qb⟩,hflat⟩
 ·by_cases e:s'=s
  ·subst e;have:=c.srt s' hs';rw[hr]at this;rw[g1];exact this.sublist (List.Sublist.append_left (List.sublist_cons_self _ _) _)
  ·rw[g2 s' e hs'];exact c.srt s' hs'
 ·by_cases e:s'=s
  ·subst e;rw[g1]at hx;refine c.ne s' hs' x (by rw[hr];rcases y6j.1 hx with h|h;exact y6x _ h;exact y7a _ (y5m _ h)) λe2=>hmid (e2▸y6i (f:=(·.queue)) hx)
  ·rw[g2 s' e hs']at hx;refine c.ne s' hs' x hx λe2=> ?_
   have h1:r.queue∈(b'.rungs s').map (·.queue):=by rw[g2 s' e hs',<- e2];exact y6i (f:=(·.queue)) hx
   rw[Book.qs]at hnd;exact(y7o.1 hnd).2.2 r.queue (by
    rcases hs' with rfl|rfl
    ·exact y6x _ h1
    ·exact y7a _ h1) r.queue (by rw[hsp];simp) rfl
 ·rw[hsp]at hq;rcases y6j.1 hq with hq|hq
  ·exact c.sp q hq
  ·rw[y6r.1 hq];exact he
def zSv {L:List zI} (h:(L.map (·.id)).Nodup) {id:Int} (hh:wO L id=ar):uY L id (dP L id).qty=L.filter λo=> !decide (o.id=id):=by
 rw[uY,<- List.filterMap_eq_filter];refine a8 λo ho=> ?_
 by_cases e:o.id=id
 ·have hg:=tM h ho;rw[e]at hg;rw[y5g e,y5g (by rw[hg])];simp[Option.guard,e]
 ·rw[y5e e];simp[Option.guard,e]
def Book.Core.gone {b:Book} {Q:List (List Nat)} (c:b.Core Q (-1)) (ht:b.Tops (b.flat Q)) {id s:Int} {r:xM} {k:Nat} (h:Told b Q id s r k) {q:Int} (hq:1<=q/\q=(b.a.slotAt k).qty):
 (b.a.takeF k q).2=0/\(({b with a:=(b.a.takeF k q).1}:Book).dropF s id r.price).Rep (uY (b.flat Q) id q)/\(b.a.takeF k q).1.slots.length=250/\(b.a.takeF k q).1.queues.length=b.a.queues.length/\((b.a.takeF k q).1.getF k).2=aq/\zY s (b.rungs s) r.price<(b.rungs s).length:=by
 obtain⟨t1,t2,t3⟩:=c.wf.take (c.get h.hs h.hr) h.hk (q:=q) ⟨hq.1,oM⟩;rw[y5g hq.2.symm]at t3;obtain⟨w,t4,t5⟩:=t3;generalize hA:(b.a.takeF k q).1=a1 at*;have hget:=c.get h.hs h.hr;have hnQ:=(y5i.1 hget).1;have hrq:=c.rng _ (u6 h.hs h.hr);generalize hQ':Q.set r.queue.toNat ((xC Q r).erase k)=Q' at*;have hQl:Q'.length=Q.length:=by rw[<- hQ',y6m]
 have hnd:(xC Q r).Nodup:=c.wf.nd _ _ hget;have hqd:∀s' (r':xM),(s'=1\/s'=2)->r'∈b.rungs s'->xC Q' r'=(xC Q r').erase k:=by
  intro s' r' hs' hr';by_cases e:r'.queue=r.queue
  ·have e1:xC Q r'=xC Q r:=by rw[xC,xC,e]
   rw[e1,xC,e,<- hQ'];exact zT (fJ hnQ)
  ·have h2:xC Q' r'=xC Q r':=by
    have:=c.rng _ (u6 hs' hr');rw[xC,xC,y5n,y5n,<- hQ',vP (by omega)]
   rw[h2];symm;refine List.erase_of_not_mem λhk=> ?_
   have:=c.wf.toWf0.one (c.get hs' hr') hget hk h.hk;have:=c.rng _ (u6 hs' hr');omega
 have hQo:∀q:Int,0<=q->q≠r.queue->Q'.getD q.toNat []=Q.getD q.toNat []:=by
  intro q h0 hne;rw[<- hQ',y5n,vP (by omega),y5n]
 obtain⟨u1,u2,u3,u4,u5⟩:=yGx ({b with a:=a1}:Book) id h.hs;obtain⟨b1,hb1⟩:∃b1:Book,b1={({b with a:=a1}:Book).unhas s id with at_:=nD id b.at_}:=⟨_,rfl⟩
 have v1:b1.a=a1:=by rw[hb1];exact u1
 have v2:b1.buys=b.buys:=by rw[hb1];exact u2
 have v3:b1.sells=b.sells:=by rw[hb1];exact u3
 have v4:b1.spare=b.spare:=by rw[hb1];exact u4
 have v5:b1.at_=nD id b.at_:=by rw[hb1]
 have v6:∀s',s'=1\/s'=2->b1.topI s'=b.topI s'/\b1.hasF s'=if s'=s/\b.topI s=id then aq else b.hasF s':=by
  intro s' hs';rw[hb1];exact u5 s' hs'
 have vr:∀s',b1.rungs s'=b.rungs s':=by intro s';rw[Book.rungs,Book.rungs,v2,v3]
 have vq:b1.qs=b.qs:=by rw[Book.qs,Book.qs,v2,v3,v4]
 have hord:∀s',s'=1\/s'=2->b1.sideL Q' s'=(b.sideL Q s').filter (λo=> !decide (o.id=id))/\b1.plcs Q' s'=(b.plcs Q s').filter λx=> !decide (x.1=id):=by
  intro s' hs';rw[Book.sideL,Book.sideL,Book.plcs,Book.plcs,vr,List.filter_flatMap,List.filter_flatMap];have key:∀r'∈b.rungs s',∀j∈xC Q r',((b.a.slotAt j).id=id↔j=k)/\(j≠k->wX a1 s' r'.price j=wX b.a s' r'.price j/\vK a1 s' r'.price j=vK b.a s' r'.price j):=by
   intro r' hr' j hj;refine⟨h.only c hs' hr' hj,λe=> ?_⟩;have:=(t2 j e).1;refine⟨by rw[wX,wX,this],?_⟩;have:=congrArg Ent.id this;rw[vK,vK];exact congrArg (λi=>(i,(⟨s',r'.price,j⟩:Place))) this
  refine⟨xD λr' hr'=> ?_,xD λr' hr'=> ?_⟩
  ·rw[Book.rOrds,Book.rOrds,hqd s' r' hs' hr',zEi (c.wf.nd _ _ (c.get hs' hr')),List.filter_map,v1];have e1:(xC Q r').filter ((λo:zI=> !decide (o.id=id))∘wX b.a s' r'.price)=(xC Q r').filter λj=> !decide (j=k):=by
    refine List.filter_congr λj hj=> ?_
    show(!decide ((b.a.slotAt j).id=id))=_;rw[decide_eq_decide.2 (key r' hr' j hj).1]
   rw[e1];refine y6o λj hj=> ?_
   rw[y7f]at hj;exact((key r' hr' j hj.1).2 (by simpa using hj.2)).1
  ·rw[hqd s' r' hs' hr',zEi (c.wf.nd _ _ (c.get hs' hr')),List.filter_map,v1];have e1:(xC Q r').filter ((λx:Int×Place=> !decide (x.1=id))∘vK b.a s' r'.price)=(xC Q r').filter λj=> !decide (j=k):=by
    refine List.filter_congr λj hj=> ?_
    show(!decide ((b.a.slotAt j).id=id))=_;rw[decide_eq_decide.2 (key r' hr' j hj).1]
   rw[e1];refine y6o λj hj=> ?_
   rw[y7f]at hj;exact((key r' hr' j hj.1).2 (by simpa using hj.2)).2
 have hflat:b1.flat Q'=(b.flat Q).filter λo=> !decide (o.id=id):=by
  rw[Book.flat,(hord 1 (.inl rfl)).1,(hord 2 (.inr rfl)).1,Book.flat,y9h]
 have hat:b1.at_.Perm (b1.plcs Q' 1++b1.plcs Q' 2):=by
  rw[v5,z8v c.keys,(hord 1 (.inl rfl)).2,(hord 2 (.inr rfl)).2,<- y9h];exact c.at_.filter _
 have hold:∀s' (r':xM),(s'=1\/s'=2)->r'∈b.rungs s'->xC Q r'≠[]:=λs' r' hs' hr'=>c.ne s' hs' r' hr' λe=>by
  have:=c.rng _ (u6 hs' hr');omega
 have c1:b1.Core Q' r.queue:=by
  refine⟨by rw[v1];exact w,λs' hs'=>by rw[vr];exact c.srt s' hs',by rw[vq,hQl];exact c.rng,by rw[vq];exact c.nd,by rw[vq,hQl];exact c.ql,λs' hs' r' hr' hne=> ?_,λq hq=> ?_,hat,?_,by rw[hQl];exact c.qb⟩
  ·rw[vr]at hr';have e:=hQo r'.queue (c.rng _ (u6 hs' hr')).1 hne;rw[xC,e];exact hold s' r' hs' hr'
  ·rw[v4]at hq;have hqq:q∈b.qs:=y7a _ hq;rw[hQo q (c.rng q hqq).1 λe=> ?_]
   ·exact c.sp q hq
   ·have hcn:=c.nd;rw[Book.qs]at hcn;refine(y7o.1 hcn).2.2 r.queue ?_ q hq e.symm;rcases h.hs with rfl|rfl
    ·exact y6x _ (y6i (f:=(·.queue)) h.hr)
    ·exact y7a _ (y6i (f:=(·.queue)) h.hr)
  ·rw[hflat];exact c.ids.sublist (List.Sublist.map _ xAy)
 have htk:uY (b.flat Q) id q=b1.flat Q':=by
  rw[hflat,<- zSv c.ids h.has,h.get,hq.2];rfl
 have hm1:∀o,o∈b1.flat Q'↔o∈b.flat Q/\o.id≠id:=by
  intro o;rw[hflat,y7f];simp
 have ht1:∀b2:Book,(∀x,b2.hasF x=b1.hasF x/\b2.topI x=b1.topI x)->b2.Tops (b1.flat Q'):=by
  intro b2 hb2;refine⟨λo ho=> ?_,λs' hs' hh=> ?_⟩
  ·rw[(hb2 _).1,(hb2 _).2];obtain⟨ho,hne⟩:=(hm1 o).1 ho;have hs':=(nG ho).1;rw[(v6 _ hs').1,(v6 _ hs').2,ht.fl o ho];split
   ·rename_i e;rw[e.1,e.2,y5r hne,xAi,xAi]
   ·rfl
  ·rw[(hb2 _).1,(v6 s' hs').2]at hh;rw[(hb2 _).2,(v6 s' hs').1];split at hh
   ·cases hh
   ·rename_i e;obtain⟨o,ho,o1,o2⟩:=ht.th s' hs' hh;refine⟨o,(hm1 o).2 ⟨ho,λe2=>e ?_⟩,o1,o2⟩;have hg:=tM c.ids ho;rw[e2,h.get]at hg;have hsd:s'=s:=by rw[<- o1,<- hg];rfl
    exact⟨hsd,by rw[<- hsd,<- o2,e2]⟩
 obtain⟨R1,R2,hsplit⟩:=List.append_of_mem h.hr;have hfn:=yFb (c.srt s h.hs) hsplit;have hgd:(b.rungs s).getD (zY s (b.rungs s) r.price) ⟨0,0⟩=r:=by
  rw[hfn,hsplit];refine zT ?_;rw[y7e (y6a _),xAl];rfl
 have hfl:zY s (b.rungs s) r.price<(b.rungs s).length:=by rw[hfn,hsplit];simp
 have hQr:Q'[r.queue.toNat]? =av ((xC Q r).erase k):=by rw[<- hQ'];exact fJ hnQ
 have hcount:(a1.qAt r.queue).count=((xC Q r).erase k).length:=by
  have:=w.q _ _ hQr;have hql:=w.ql;rw[zXb hrq.1 this]
 have er:xC Q' r=(xC Q r).erase k:=zT hQr;have hru:({b with a:=a1}:Book).rungs s=b.rungs s:=rfl;have hus:(a1.getF k).2=aq:=by
  have:a1.usedAt k=aq:=by
   have e:a1.slotAt k=slot0:=t4;rw[Arena.slotAt]at e;rw[Arena.usedAt,y5x,e];simp[slot0]
  rw[Arena.getF,y5e (by rw[this];decide)]
 refine⟨t1,?_,w.len,by rw[w.ql,c.wf.ql,hQl],hus,hfl⟩;rw[Book.dropF,hru,hgd];by_cases hz:(a1.qAt r.queue).count=0
 ·rw[y5g hz];have he:xC Q' r=[]:=by
   rw[er];refine y6f ?_;omega
  obtain⟨k1,k2⟩:=Book.Core.close h.hs (by rw[vr];exact hsplit) c1 he rfl;have ebk:(({({b with a:=a1}:Book).unhas s id with at_:=nD id b.at_,spare:=b.spare++[r.queue]}:Book).setR s ((b.rungs s).take (zY s (b.rungs s) r.price)++(b.rungs s).drop (zY s (b.rungs s) r.price+1)))=(({b1 with spare:=b1.spare++[r.queue]}:Book).setR s (R1++R2)):=by
   have e1:(b.rungs s).take (zY s (b.rungs s) r.price)++(b.rungs s).drop (zY s (b.rungs s) r.price+1)=R1++R2:=by
    rw[hfn,hsplit,xBk];congr 1;rw[xAh,y8m (by omega),Nat.add_sub_cancel_left];rfl
   rw[e1,v4,hb1]
  refine⟨Q',?_,?_,?_⟩
  ·exact ebk▸k1
  ·rw[htk];refine ht1 _ λx=> ?_
   show(Book.hasF (({({b with a:=a1}:Book).unhas s id with at_:=nD id b.at_,spare:=b.spare++[r.queue]}:Book).setR s ((b.rungs s).take (zY s (b.rungs s) r.price)++(b.rungs s).drop (zY s (b.rungs s) r.price+1))) x=_/\Book.topI (({({b with a:=a1}:Book).unhas s id with at_:=nD id b.at_,spare:=b.spare++[r.queue]}:Book).setR s ((b.rungs s).take (zY s (b.rungs s) r.price)++(b.rungs s).drop (zY s (b.rungs s) r.price+1))) x=_);rw[ebk];rcases h.hs with rfl|rfl<;>exact⟨rfl,rfl⟩
  ·rw[htk];show _=Book.flat (({({b with a:=a1}:Book).unhas s id with at_:=nD id b.at_,spare:=b.spare++[r.queue]}:Book).setR s ((b.rungs s).take (zY s (b.rungs s) r.price)++(b.rungs s).drop (zY s (b.rungs s) r.price+1))) Q';rw[ebk];exact k2.symm
 ·rw[y5e hz];have c2:b1.Core Q' (-1):=⟨c1.wf,c1.srt,c1.rng,c1.nd,c1.ql,λs' hs' r' hr' _=>by
   by_cases e:r'.queue=r.queue
   ·rw[xC,e];intro e2;rw[xC]at er;rw[er]at e2;rw[hcount,e2]at hz;exact hz rfl
   ·exact c1.ne s' hs' r' hr' e,c1.sp,c1.at_,c1.ids,c1.qb⟩
  have hh:({({b with a:=a1}:Book).unhas s id with at_:=nD id b.at_}:Book)=b1:=hb1.symm;show Book.Rep {({b with a:=a1}:Book).unhas s id with at_:=nD id b.at_} _;rw[hh,htk];exact⟨Q',c2,ht1 b1 λ_=>⟨rfl,rfl⟩,rfl⟩
def tA (k:Int):∀l,zBn (ax au k) (atE l)=atE (nD k l)
 |[]=>rfl
 |(a,b)::l=>by
  have ih:=tA k l;show(bif (keq .i64 .i64 && decide (k=a))then atE l else _::zBn _ (atE l))=_;rw[ih,nD];by_cases h:k=a
  ·subst h;simp[keq]
  ·simp[h,atE]
def z7v:delRC.ok Tryz.prog 271:=
 delX_ok mixed Tryz.func271 rfl (by kernel_rfl) (by kernel_rfl) (by kernel_rfl) (by kernel_rfl) zIr rfl Z8 (λs sn sk i j w R=>by kernel_rfl)
def dup {X:Prop} {n:Int} (h:X):X/\n=n/\True/\X:=⟨h,rfl,trivial,h⟩
def Book.Core.small {b:Book} {Q:List (List Nat)} (c:b.Core Q (-1)):b.small:=by
 have hq:=c.qb;have h1:=c.ql;have h2:=c.wf.ql;have h3:=c.wf.len;rw[Book.qs,y5d,y5d,y5f,y5f]at h1;exact⟨⟨oM,oM⟩,oM,oM,oM⟩
def yVa (i:DrI) (h:drop1C.cnd i):yFv i:=by
 obtain⟨hsm,hn⟩:i.ok 1:=h;obtain⟨⟨ha1,ha2⟩,hb1,hb2,hsp⟩:=id hsm;have hn:zY 1 i.b.buys i.price<i.b.buys.length:=hn;obtain⟨r,hr⟩:=yD (l:=i.b.buys) hn;have hgd:((i.b.rungs 1).getD (zY 1 (i.b.rungs 1) i.price) ⟨0,0⟩)=r:=zT hr;have hw:∀k:Int,au.wrap ((zY 1 (i.b.rungs 1) i.price:Int)+1)=((zY 1 (i.b.rungs 1) i.price+1:Nat):Int):=λ_=>by
  have:=zFh 1 i.price (i.b.rungs 1);have hl:(i.b.rungs 1).length<=1000000:=by show i.b.buys.length<=_;omega
  rw[w64 (by omega)];rfl
 have hn2:((zY 1 (i.b.rungs 1) i.price:Nat):Int)<((aa zB i.b.buys).length:Int):=by
  rw[y5f];show((zY 1 i.b.buys i.price:Nat):Int)<_;omega
 unfold yFv zIb zHw gS vU qC xX xA dI;refine⟨j6 _ _,Cv.cnd.mk (λc1=>Cv.cnd.mk (λc2=> ?_) (λc2=> ?_)) (λc1=> ?_)⟩
 ·have c2:i.b.top1=i.id:=by simpa using c2
  have hu:i.b.unhas 1 i.id={i.b with has1:=aq}:=by rw[Book.unhas,y5g ⟨c1,c2⟩];rfl
  refine⟨⟨{i.b with has1:=aq,at_:=nD i.id i.b.at_},i.price⟩,rF8 ⟨rfl,(tA _ _).symm,rfl,hsm,λ_ _=>⟨⟨oM,hn2⟩,r.queue,elA hr (by simp[zB]) rfl,⟨i.b.a,r.queue⟩,rfl,rfl,trivial,λ_ _=>Cv.cnd.mk (λe=>⟨by simp only[yZ];omega,⟨i.b.buys.map zB,zY 1 (i.b.rungs 1) i.price,zY 1 (i.b.rungs 1) i.price+1⟩,rfl,(hw 0).symm,rfl,⟨xAk _,by rw[y5f];exact hn⟩,λ_ _=>⟨rfl,(),?_⟩⟩) (λe=>⟨(),?_⟩)⟩⟩⟩
  ·have e:(i.b.a.qAt r.queue).count=0:=by simpa using e
   rw[Book.dropF,hgd,y5g e,hu];refine(rF5 ⟨rfl,?_,rfl,?_,trivial⟩)
   ·show aa zB (i.b.buys.take _++i.b.buys.drop _)=_;rw[y5o,y9p,xAq]
   ·show iE (i.b.spare++[r.queue])=_;simp[iE]
  ·have e:¬(i.b.a.qAt r.queue).count=0:=by simpa using e
   rw[Book.dropF,hgd,y5e e,hu];exact(rF6 (rF3 trivial))
 ·have c2:¬i.b.top1=i.id:=by simpa using c2
  have hu:i.b.unhas 1 i.id={i.b with has1:=i.b.has1}:=by rw[Book.unhas,y5e (λe=>c2 e.2)]
  refine⟨⟨{i.b with has1:=i.b.has1,at_:=nD i.id i.b.at_},i.price⟩,rF8 ⟨rfl,(tA _ _).symm,rfl,hsm,λ_ _=>⟨⟨oM,hn2⟩,r.queue,elA hr (by simp[zB]) rfl,⟨i.b.a,r.queue⟩,rfl,rfl,trivial,λ_ _=>Cv.cnd.mk (λe=>⟨by simp only[yZ];omega,⟨i.b.buys.map zB,zY 1 (i.b.rungs 1) i.price,zY 1 (i.b.rungs 1) i.price+1⟩,rfl,(hw 0).symm,rfl,⟨xAk _,by rw[y5f];exact hn⟩,λ_ _=>⟨rfl,(),?_⟩⟩) (λe=>⟨(),?_⟩)⟩⟩⟩
  ·have e:(i.b.a.qAt r.queue).count=0:=by simpa using e
   rw[Book.dropF,hgd,y5g e,hu];refine(rF5 ⟨rfl,?_,rfl,?_,trivial⟩)
   ·show aa zB (i.b.buys.take _++i.b.buys.drop _)=_;rw[y5o,y9p,xAq]
   ·show iE (i.b.spare++[r.queue])=_;simp[iE]
  ·have e:¬(i.b.a.qAt r.queue).count=0:=by simpa using e
   rw[Book.dropF,hgd,y5e e,hu];exact(rF6 (rF3 trivial))
 ·have hu:i.b.unhas 1 i.id={i.b with has1:=i.b.has1}:=by
   rw[Book.unhas,y5e];rintro⟨e,_⟩;exact absurd (show i.b.has1=ar from e) (by rw[c1];decide)
  refine⟨⟨{i.b with has1:=i.b.has1,at_:=nD i.id i.b.at_},i.price⟩,rF8 ⟨rfl,(tA _ _).symm,rfl,hsm,λ_ _=>⟨⟨oM,hn2⟩,r.queue,elA hr (by simp[zB]) rfl,⟨i.b.a,r.queue⟩,rfl,rfl,trivial,λ_ _=>Cv.cnd.mk (λe=>⟨by simp only[yZ];omega,⟨i.b.buys.map zB,zY 1 (i.b.rungs 1) i.price,zY 1 (i.b.rungs 1) i.price+1⟩,rfl,(hw 0).symm,rfl,⟨xAk _,by rw[y5f];exact hn⟩,λ_ _=>⟨rfl,(),?_⟩⟩) (λe=>⟨(),?_⟩)⟩⟩⟩
  ·have e:(i.b.a.qAt r.queue).count=0:=by simpa using e
   rw[Book.dropF,hgd,y5g e,hu];refine(rF5 ⟨rfl,?_,rfl,?_,trivial⟩)
   ·show aa zB (i.b.buys.take _++i.b.buys.drop _)=_;rw[y5o,y9p,xAq]
   ·show iE (i.b.spare++[r.queue])=_;simp[iE]
  ·have e:¬(i.b.a.qAt r.queue).count=0:=by simpa using e
   rw[Book.dropF,hgd,y5e e,hu];exact(rF6 (rF3 trivial))
def yGz:drop1C.ok Tryz.prog 243:=okw mixed (gokc zOi (gokc pP (gokc z7v gok0))) 0 (λ_=>[]) (λ_=>[]) [] Tryz.func243 yVa
def yWy (i:DrI) (h:drop2C.cnd i):yIk i:=by
 obtain⟨hsm,hn⟩:i.ok 2:=h;obtain⟨⟨ha1,ha2⟩,hb1,hb2,hsp⟩:=id hsm;have hn:zY 2 i.b.sells i.price<i.b.sells.length:=hn;obtain⟨r,hr⟩:=yD (l:=i.b.sells) hn;have hgd:((i.b.rungs 2).getD (zY 2 (i.b.rungs 2) i.price) ⟨0,0⟩)=r:=zT hr;have hw:∀k:Int,au.wrap ((zY 2 (i.b.rungs 2) i.price:Int)+1)=((zY 2 (i.b.rungs 2) i.price+1:Nat):Int):=λ_=>by
  have:=zFh 2 i.price (i.b.rungs 2);have hl:(i.b.rungs 2).length<=1000000:=by show i.b.sells.length<=_;omega
  rw[w64 (by omega)];rfl
 have hn2:((zY 2 (i.b.rungs 2) i.price:Nat):Int)<((aa zB i.b.sells).length:Int):=by
  rw[y5f];show((zY 2 i.b.sells i.price:Nat):Int)<_;omega
 unfold yIk zHa zJi gZ vZ qC xW xB dI;refine⟨j6 _ _,Cv.cnd.mk (λc1=>Cv.cnd.mk (λc2=> ?_) (λc2=> ?_)) (λc1=> ?_)⟩
 ·have c2:i.b.top2=i.id:=by simpa using c2
  have hu:i.b.unhas 2 i.id={i.b with has2:=aq}:=by rw[Book.unhas,y5g ⟨c1,c2⟩];rfl
  refine⟨⟨{i.b with has2:=aq,at_:=nD i.id i.b.at_},i.price⟩,rF8 ⟨rfl,(tA _ _).symm,rfl,hsm,λ_ _=>⟨⟨oM,hn2⟩,r.queue,elA hr (by simp[zB]) rfl,⟨i.b.a,r.queue⟩,rfl,rfl,trivial,λ_ _=>Cv.cnd.mk (λe=>⟨by simp only[yZ];omega,⟨i.b.sells.map zB,zY 2 (i.b.rungs 2) i.price,zY 2 (i.b.rungs 2) i.price+1⟩,rfl,(hw 0).symm,rfl,⟨xAk _,by rw[y5f];exact hn⟩,λ_ _=>⟨rfl,(),?_⟩⟩) (λe=>⟨(),?_⟩)⟩⟩⟩
  ·have e:(i.b.a.qAt r.queue).count=0:=by simpa using e
   rw[Book.dropF,hgd,y5g e,hu];refine(rF6 ⟨rfl,?_,?_,trivial⟩)
   ·show aa zB (i.b.sells.take _++i.b.sells.drop _)=_;rw[y5o,y9p,xAq]
   ·show iE (i.b.spare++[r.queue])=_;simp[iE]
  ·have e:¬(i.b.a.qAt r.queue).count=0:=by simpa using e
   rw[Book.dropF,hgd,y5e e,hu];exact(rF6 (rF3 trivial))
 ·have c2:¬i.b.top2=i.id:=by simpa using c2
  have hu:i.b.unhas 2 i.id={i.b with has2:=i.b.has2}:=by rw[Book.unhas,y5e (λe=>c2 e.2)]
  refine⟨⟨{i.b with has2:=i.b.has2,at_:=nD i.id i.b.at_},i.price⟩,rF8 ⟨rfl,(tA _ _).symm,rfl,hsm,λ_ _=>⟨⟨oM,hn2⟩,r.queue,elA hr (by simp[zB]) rfl,⟨i.b.a,r.queue⟩,rfl,rfl,trivial,λ_ _=>Cv.cnd.mk (λe=>⟨by simp only[yZ];omega,⟨i.b.sells.map zB,zY 2 (i.b.rungs 2) i.price,zY 2 (i.b.rungs 2) i.price+1⟩,rfl,(hw 0).symm,rfl,⟨xAk _,by rw[y5f];exact hn⟩,λ_ _=>⟨rfl,(),?_⟩⟩) (λe=>⟨(),?_⟩)⟩⟩⟩
  ·have e:(i.b.a.qAt r.queue).count=0:=by simpa using e
   rw[Book.dropF,hgd,y5g e,hu];refine(rF6 ⟨rfl,?_,?_,trivial⟩)
   ·show aa zB (i.b.sells.take _++i.b.sells.drop _)=_;rw[y5o,y9p,xAq]
   ·show iE (i.b.spare++[r.queue])=_;simp[iE]
  ·have e:¬(i.b.a.qAt r.queue).count=0:=by simpa using e
   rw[Book.dropF,hgd,y5e e,hu];exact(rF6 (rF3 trivial))
 ·have hu:i.b.unhas 2 i.id={i.b with has2:=i.b.has2}:=by
   rw[Book.unhas,y5e];rintro⟨e,_⟩;exact absurd (show i.b.has2=ar from e) (by rw[c1];decide)
  refine⟨⟨{i.b with has2:=i.b.has2,at_:=nD i.id i.b.at_},i.price⟩,rF8 ⟨rfl,(tA _ _).symm,rfl,hsm,λ_ _=>⟨⟨oM,hn2⟩,r.queue,elA hr (by simp[zB]) rfl,⟨i.b.a,r.queue⟩,rfl,rfl,trivial,λ_ _=>Cv.cnd.mk (λe=>⟨by simp only[yZ];omega,⟨i.b.sells.map zB,zY 2 (i.b.rungs 2) i.price,zY 2 (i.b.rungs 2) i.price+1⟩,rfl,(hw 0).symm,rfl,⟨xAk _,by rw[y5f];exact hn⟩,λ_ _=>⟨rfl,(),?_⟩⟩) (λe=>⟨(),?_⟩)⟩⟩⟩
  ·have e:(i.b.a.qAt r.queue).count=0:=by simpa using e
   rw[Book.dropF,hgd,y5g e,hu];refine(rF6 ⟨rfl,?_,?_,trivial⟩)
   ·show aa zB (i.b.sells.take _++i.b.sells.drop _)=_;rw[y5o,y9p,xAq]
   ·show iE (i.b.spare++[r.queue])=_;simp[iE]
  ·have e:¬(i.b.a.qAt r.queue).count=0:=by simpa using e
   rw[Book.dropF,hgd,y5e e,hu];exact(rF6 (rF3 trivial))
def yJz:drop2C.ok Tryz.prog 243:=okw mixed (gokc zPx (gokc pP (gokc z7v gok0))) 0 (λ_=>[]) (λ_=>[]) [] Tryz.func243 yWy
def yPm:dropC.ok Tryz.prog 243:=λj=>match j with
 |⟨i,aq⟩=>yGz i
 |⟨i,ar⟩=>yJz i
def yLq {a:Arena} {k:Nat} {p t:Int} {m:Nat} (h:zVj (a.slotAt k) m k p t) (hl:k<a.slots.length):a.getF k=((a.slotAt k).ent,ar):=by
 have:a.usedAt k=ar:=by
  simp only[Arena.usedAt,y5s,y6t,y5x];exact⟨oM,oM,h.used⟩
 rw[Arena.getF,y5g this,y5x]
def z0x {b:Book} {Q:List (List Nat)} (c:b.Core Q (-1)) {id s:Int} {r:xM} {k:Nat} (h:Told b Q id s r k):b.a.getF k=((b.a.slotAt k).ent,ar)/\(b.a.slotAt k).qty<=1000000/\1<=(b.a.slotAt k).qty:=by
 obtain⟨h1,⟨p,t,h2⟩,h3⟩:=c.wf.toWf0.mem (c.get h.hs h.hr) h.hk;exact⟨yLq h2 (by rw[c.wf.len];exact h1),h2.q2,c.wf.pos _ _ (c.get h.hs h.hr) _ h.hk⟩
def yUb (i:FlI) (h:bfindC.cnd i):yJc i:=by
 obtain⟨Q,c,ht,hL⟩:i.b.Rep i.L:=h;unfold yJc zIq zCc rK dI;rcases c.told i.id with⟨hg,hn⟩|⟨s,r,k,hT⟩
 ·refine⟨j6 _ _,aq,0,0,0,.inr ⟨?_,rfl,rfl⟩,Cv.cnd.mk (λ_=> ?_) (λe=>absurd e Z8)⟩
  ·rw[zBc,hg];rfl
  ·rw[<- hL]at hn;rw[yUv hn,hn];exact⟨(),k0q⟩
 ·refine⟨j6 _ _,ar,s,r.price,k,.inl ⟨?_,rfl⟩,Cv.cnd.mk (λe=>absurd e Z8) (λ_=>dup ⟨⟨i.b.a,k⟩,rfl,rfl,by dsimp only;rw[c.wf.len];decide,λ_ _=>⟨(),?_⟩⟩)⟩
  ·rw[zBc,hT.e];rfl
  ·have h1:=hT.get;have h2:=hT.has;rw[<- hL]at h1 h2;rw[h1,h2,(z0x c hT).1];exact⟨hT.ident,k0q⟩
def zXi:bfindC.ok Tryz.prog 170:=okw mixed (gokc z9m gok0) 0 (λ_=>[]) (λ_=>[]) [0] Tryz.func170 yUb
def Book.Core.okAt {b:Book} {Q:List (List Nat)} (c:b.Core Q (-1)):b.a.okAt:=c.wf.toWf0.ok
def yYz (i:FlI) (h:fillC.cnd i):yRm i:=by
 have hR:i.b.Rep i.L:=h;obtain⟨Q,c,ht,hL⟩:=id hR;unfold yRm zUy zPp vH zBe rK dI;rcases c.told i.id with⟨hg,hn⟩|⟨s,r,k,hT⟩
 ·refine⟨j6 _ _,aq,0,0,0,.inr ⟨?_,rfl,rfl⟩,Cv.cnd.mk (λ_=> ?_) (λe=>absurd e (by simp))⟩
  ·rw[zBc,hg];rfl
  ·rw[<- hL]at hn;rw[x3,y5g hn];exact⟨i.b,rF7 (rF3 hR)⟩
 have hg:=hT.get;have hh:=hT.has;rw[<- hL]at hg hh;obtain⟨hsg,hq1,hq2⟩:=z0x c hT;have hqq:(dP i.L i.id).qty=(i.b.a.slotAt k).qty:=by rw[hg];rfl
 refine⟨j6 _ _,ar,s,r.price,k,.inl ⟨?_,rfl⟩,Cv.cnd.mk (λe=>absurd e (by simp)) (λ_=>⟨⟨i.b.a,k,i.qty⟩,rfl,rfl,rfl,c.okAt,λ_ _=> ?_⟩)⟩
 ·rw[zBc,hT.e];rfl
 dsimp only;have hu:i.b.a.usedAt k=ar:=by
  cases hu:i.b.a.usedAt k with
  |true=>rfl
  |false=>rw[Arena.getF,y5e (by rw[hu];decide)]at hsg;exact absurd (congrArg Prod.snd hsg) (by simp)
 by_cases hb:i.qty<1\/(i.b.a.slotAt k).qty<i.qty
 ·have ht:i.b.a.takeF k i.qty=(i.b.a,24):=by rw[Arena.takeF,y5e (by rw[hu];decide),y5x,y5g hb]
  rw[ht];refine Cv.cnd.mk (λ_=> ?_) (λe=>absurd e (by simp));rw[x3,y5e (by rw[hh];decide),y5g (by rw[hqq];exact hb)];exact⟨i.b,rF7 (rF3 hR)⟩
 have hfl:x3 i.L i.id i.qty=(uY i.L i.id i.qty,0):=by rw[x3,y5e (by rw[hh];decide),y5e (by rw[hqq];exact hb)]
 by_cases hf:i.qty=(i.b.a.slotAt k).qty
 ·obtain⟨g1,g2,g3,g4,g5,g6⟩:=c.gone (by rw[<- hL];exact ht) hT (q:=i.qty) ⟨oM,hf⟩;rw[<- hL]at g2;have hsm:=c.small;rw[g1];refine Cv.cnd.mk (λe=>absurd e (by simp)) (λ_=>dup ⟨⟨(i.b.a.takeF k i.qty).1,k⟩,rfl,rfl,by dsimp only;rw[g3];decide,λ_ _=> ?_⟩);dsimp only;rw[g5];refine Cv.cnd.mk (λ_=> ?_) (λe=>absurd e (by simp));rcases hT.hs with rfl|rfl
  ·refine⟨⟨⟨{i.b with a:=(i.b.a.takeF k i.qty).1},i.id,r.price,k⟩,aq⟩,rF8 (rF4 ⟨rfl,⟨⟨⟨by dsimp only;rw[g3];decide,by dsimp only;rw[g4];exact hsm.1.2⟩,hsm.2⟩,g6⟩,λ_ _=> ?_⟩)⟩;refine⟨({i.b with a:=(i.b.a.takeF k i.qty).1}:Book).dropF 1 i.id r.price,by rw[hfl],rF6 (rF3 (by rw[hfl];exact g2))⟩
  ·refine⟨⟨⟨{i.b with a:=(i.b.a.takeF k i.qty).1},i.id,r.price,k⟩,ar⟩,rF8 (rF4 ⟨rfl,⟨⟨⟨by dsimp only;rw[g3];decide,by dsimp only;rw[g4];exact hsm.1.2⟩,hsm.2⟩,g6⟩,λ_ _=> ?_⟩)⟩;refine⟨({i.b with a:=(i.b.a.takeF k i.qty).1}:Book).dropF 2 i.id r.price,by rw[hfl],rF6 (rF3 (by rw[hfl];exact g2))⟩
 ·obtain⟨g1,g2,g3,g4,g5⟩:=c.less (by rw[<- hL];exact ht) hT (q:=i.qty) oM;rw[<- hL]at g2;rw[g1];refine Cv.cnd.mk (λe=>absurd e (by simp)) (λ_=>dup ⟨⟨(i.b.a.takeF k i.qty).1,k⟩,rfl,rfl,by dsimp only;rw[g3];decide,λ_ _=> ?_⟩);dsimp only;rw[g4];refine Cv.cnd.mk (λe=>absurd e (by simp)) (λ_=>Cv.cnd.mk (λe=> ?_) (λ_=> ?_))
  ·have e:¬((i.b.a.takeF k i.qty).1.slotAt k).ent.id=i.id:=by simpa using e
   exact absurd g5 e
  ·exact⟨{i.b with a:=(i.b.a.takeF k i.qty).1},by rw[hfl],rF6 (rF3 (by rw[hfl];exact g2))⟩
def yPg:fillC.ok Tryz.prog 211:=okw mixed (gokc yHv (gokc z9m (gokc yPm gok0))) 0 (λ_=>[]) (λ_=>[]) [0] Tryz.func211 yYz
def zWr (A B:List zI) (s p:Int):atL (A++B) s p=atL A s p++atL B s p:=y9h _ _
def zUo {A:List zI} {s p:Int} (h:∀o∈A,o.side=s->o.price≠p):atL A s p=[]:=by
 rw[atL,ac];intro o ho;by_cases e:o.side=s
 ·simp[h o ho e]
 ·simp[e]
def yPn {A:List zI} {s p:Int} (h:∀o∈A,o.side=s/\o.price=p):atL A s p=A:=by
 rw[atL,xAx];intro o ho;simp[h o ho]
def zMv {s x y:Int} (h:btr s x y=ar):x≠y:=by
 rintro rfl;rw[zBh]at h;cases h
def Book.Core.at_no {b:Book} {Q:List (List Nat)} (c:b.Core Q (-1)) {s p:Int} (hs:s=1\/s=2) (h:kU s (b.rungs s) p=aq):atL (b.flat Q) s p=[]:=by
 have hsp:=zCn (p:=p) (c.srt s hs);rw[y5e (by rw[h];decide)]at hsp;refine zUo λo ho e=> ?_
 obtain⟨_,r,hr,_,hp⟩:=nG ho;rw[e]at hr;rw[hp];rw[<- y7l (zY s (b.rungs s) p) (b.rungs s)]at hr;rcases y6j.1 hr with hr|hr
 ·exact zMv (hsp.1 r hr)
 ·exact(zMv (hsp.2 r hr)).symm
def Book.Core.at_yes {b:Book} {Q:List (List Nat)} (c:b.Core Q (-1)) {s p:Int} (hs:s=1\/s=2) (h:kU s (b.rungs s) p=ar):∃r,(b.rungs s)[zY s (b.rungs s) p]? =av r/\r.price=p/\r∈b.rungs s/\atL (b.flat Q) s p=b.rOrds Q s r:=by
 have hsp:=zCn (p:=p) (c.srt s hs);rw[y5g h]at hsp;obtain⟨h1,r,hr,hp,h2⟩:=hsp;have hlt:=(y5i.1 hr).1;refine⟨r,hr,hp,y5p hr,?_⟩;have hsplit:b.rungs s=(b.rungs s).take (zY s (b.rungs s) p)++r::(b.rungs s).drop (zY s (b.rungs s) p+1):=by
  conv=>lhs;rw[<- y7l (zY s (b.rungs s) p) (b.rungs s)]
  rw[y7m hlt,(y5i.1 hr).2]
 have hside:atL (b.sideL Q s) s p=b.rOrds Q s r:=by
  rw[Book.sideL,hsplit,y7c,y6z,zWr,zWr,zUo,yPn,zUo,y6b,y7u]
  ·intro o ho _;obtain⟨r',hr',ho⟩:=y7y.1 ho;rw[(qI ho).2];exact(zMv (h2 r' hr')).symm
  ·intro o ho;rw[<- hp];exact qI ho
  ·intro o ho _;obtain⟨r',hr',ho⟩:=y7y.1 ho;rw[(qI ho).2];exact zMv (h1 r' hr')
 have hother:∀s',s'≠s->atL (b.sideL Q s') s p=[]:=λs' hne=>zUo λo ho e=>absurd ((aU ho).1.symm.trans e) hne
 rw[Book.flat,zWr];rcases hs with rfl|rfl
 ·rw[hside,hother 2 (by decide),y6b]
 ·rw[hside,hother 1 (by decide),y7u]
def Book.Core.listOk {b:Book} {Q:List (List Nat)} (c:b.Core Q (-1)) {s:Int} (hs:s=1\/s=2) {r:xM} (hr:r∈b.rungs s):b.a.listOk r.queue (xC Q r):=by
 have hg:=c.get hs hr;have hrq:=c.rng _ (u6 hs hr);refine⟨by have:=c.wf.toWf0.short hg;omega,?_⟩;rw[y5g ⟨hrq.1,by rw[c.wf.ql];exact hrq.2⟩,zT (c.wf.q _ _ hg)];exact zRq (c.wf.sg _ _ hg)
def y3i (i:AtI) (h:at1C.cnd i):y0y i:=by
 obtain⟨Q,c,ht,hL⟩:i.b.Rep i.L:=h;unfold y0y gS vU qC xX qW dI;refine⟨1,rfl,trivial,λ_ _=>Cv.cnd.mk (λe=>absurd e Z8) λ_=>⟨⟨i.b,i.price⟩,rF7 (rF3 ⟨rfl,c.small,λ_ _=>Cv.cnd.mk (λe=> ?_) (λe=> ?_)⟩)⟩⟩
 ·have e:kU 1 (i.b.rungs 1) i.price=aq:=by simpa using e
  have:=c.at_no (.inl rfl) e;rw[<- hL]at this;refine⟨(),rF8 ⟨rfl,?_,trivial⟩⟩;show aa vA (atL i.L 1 i.price)=[];rw[this];rfl
 ·have e:kU 1 (i.b.rungs 1) i.price=ar:=by simpa using e
  obtain⟨r,hr,hp,hm,ha⟩:=c.at_yes (.inl rfl) e;rw[<- hL]at ha;have hlt:=(y5i.1 hr).1;refine⟨⟨oM,by rw[y5f];exact Int.ofNat_lt.2 hlt⟩,r.price,r.queue,elA hr (by simp[zB]) rfl,⟨i.b,1,r,xC Q r⟩,rF8 (rF3 ⟨rfl,c.listOk (.inl rfl) hm,λ_ _=>⟨(),rfl,?_,trivial⟩⟩)⟩;show aa vA (atL i.L 1 i.price)=_;rw[ha,BoI.ords,Book.rOrds,Arena.ents];simp only[y7t];rfl
def yUs:at1C.ok Tryz.prog 262:=okw mixed (gokc lJ (gokc zOi (gokc zSd gok0))) 0 (λ_=>[]) (λ_=>[]) [0] Tryz.func262 y3i
def y2s (i:AtI) (h:at2C.cnd i):y0t i:=by
 obtain⟨Q,c,ht,hL⟩:i.b.Rep i.L:=h;unfold y0t gZ vZ qC xW qW dI;refine⟨2,rfl,trivial,λ_ _=>Cv.cnd.mk (λe=>absurd e Z8) λ_=>⟨⟨i.b,i.price⟩,rF7 (rF3 ⟨rfl,c.small,λ_ _=>Cv.cnd.mk (λe=> ?_) (λe=> ?_)⟩)⟩⟩
 ·have e:kU 2 (i.b.rungs 2) i.price=aq:=by simpa using e
  have:=c.at_no (.inr rfl) e;rw[<- hL]at this;refine⟨(),rF8 ⟨rfl,?_,trivial⟩⟩;show aa vA (atL i.L 2 i.price)=[];rw[this];rfl
 ·have e:kU 2 (i.b.rungs 2) i.price=ar:=by simpa using e
  obtain⟨r,hr,hp,hm,ha⟩:=c.at_yes (.inr rfl) e;rw[<- hL]at ha;have hlt:=(y5i.1 hr).1;refine⟨⟨oM,by rw[y5f];exact Int.ofNat_lt.2 hlt⟩,r.price,r.queue,elA hr (by simp[zB]) rfl,⟨i.b,2,r,xC Q r⟩,rF8 (rF3 ⟨rfl,c.listOk (.inr rfl) hm,λ_ _=>⟨(),rfl,?_,trivial⟩⟩)⟩;show aa vA (atL i.L 2 i.price)=_;rw[ha,BoI.ords,Book.rOrds,Arena.ents];simp only[y7t];rfl
def yWt:at2C.ok Tryz.prog 262:=okw mixed (gokc lJ (gokc zPx (gokc zSd gok0))) 0 (λ_=>[]) (λ_=>[]) [0] Tryz.func262 y2s
def y1c:atC.ok Tryz.prog 262:=λj=>match j with
 |⟨b,L,aq,p⟩=>yUs ⟨b,L,aq,p⟩
 |⟨b,L,ar,p⟩=>yWt ⟨b,L,ar,p⟩
def zZf (p:Int) (l:List zI):Lv:=⟨p,(l.map (·.qty)).sum,l.length⟩
def zNx:∀{l:List zI} {v:Lv} {vs:List Lv},grp l=v::vs->∃o r,l=o::r/\o.price=v.price
 |[],v,vs,h=>by cases h
 |o::r,v,vs,h=>by
  refine⟨o,r,rfl,?_⟩;rw[grp]at h;split at h
  ·cases h;rfl
  ·split at h
   ·rename_i e;cases h;exact e.symm
   ·cases h;rfl
def z7d {p:Int}:∀{l:List zI} {m:List zI},l≠[]->(∀o∈l,o.price=p)->(∀o r,m=o::r->o.price≠p)->grp (l++m)=zZf p l::grp m
 |[],m,h,_,_=>absurd rfl h
 |[o],m,_,h,hm=>by
  have e:=h o y5k;rw[List.singleton_append,grp];split
  ·rename_i g;simp[zZf,e,g]
  ·rename_i v vs g;obtain⟨o',r,e1,e2⟩:=zNx g;have:=hm o' r e1;rw[y5e (by omega)];simp[zZf,e,g]
 |o::o'::l,m,_,h,hm=>by
  have e:=h o y5k;have ih:=z7d (l:=o'::l) (m:=m) (by simp) (λx hx=>h x (y5m _ hx)) hm;rw[y6w,grp,ih];dsimp only;rw[y5g (show(zZf p (o'::l)).price=o.price from e.symm)];simp only[zZf,y5t,y6u,y5j];rfl
def zZp {f:xM->List zI}:∀{R:List xM},(∀r∈R,f r≠[]/\∀o∈f r,o.price=r.price)->R.Pairwise (λr r'=>r.price≠r'.price)->grp (R.flatMap f)=R.map λr=>zZf r.price (f r)
 |[],_,_=>rfl
 |r::R,h,hp=>by
  rw[y8y]at hp;have ih:=zZp (R:=R) (λx hx=>h x (y5m _ hx)) hp.2;rw[y6z,z7d (h r y5k).1 (h r y5k).2,ih,y5t];intro o l e;cases R with
  |nil=>cases e
  |cons r' R'=>
   rw[y6z]at e;obtain⟨h1,h2⟩:=h r' (y5m _ y5k);cases hf:f r' with
   |nil=>exact absurd hf h1
   |cons x y=>
    rw[hf,y6w]at e;cases e;rw[h2 o (by rw[hf];exact y5k)];exact(hp.1 r' y5k).symm
def zSf {b:Book} {Q:List (List Nat)} {s:Int} (hs:s=1\/s=2):(b.flat Q).filter (λo=>decide (o.side=s))=b.sideL Q s:=by
 have h1:∀s',(b.sideL Q s').filter (λo=>decide (o.side=s))=if s'=s then b.sideL Q s' else[]:=by
  intro s';split
  ·rename_i e;rw[xAx];intro o ho;rw[(aU ho).1,e];simp
  ·rename_i e;rw[ac];intro o ho;rw[(aU ho).1];simp[e]
 rw[Book.flat,y9h,h1,h1];rcases hs with rfl|rfl
 ·simp
 ·simp
def Book.Core.neL {b:Book} {Q:List (List Nat)} (c:b.Core Q (-1)) {s:Int} (hs:s=1\/s=2) {r:xM} (hr:r∈b.rungs s):xC Q r≠[]:=c.ne s hs r hr λe=>by have:=c.rng _ (u6 hs hr);omega
def Book.Core.toldL {b:Book} {Q:List (List Nat)} (c:b.Core Q (-1)) {s:Int} (hs:s=1\/s=2) {r:xM} (hr:r∈b.rungs s):b.told r=zZf r.price (b.rOrds Q s r):=by
 have hg:=c.get hs hr;have hrq:=c.rng _ (u6 hs hr);have hq:=c.wf.q _ _ hg;have hql:=c.wf.ql;rw[Book.told,zXb hrq.1 hq,zZf,Book.rOrds,y7t,y5f];rfl
def Book.Core.lad {b:Book} {Q:List (List Nat)} (c:b.Core Q (-1)) {s:Int} (hs:s=1\/s=2):gA (b.flat Q) s=(b.rungs s).map b.told:=by
 rw[gA,zSf hs,Book.sideL,zZp]
 ·exact y6o λr hr=>(c.toldL hs hr).symm
 ·intro r hr;refine⟨λe=>c.neL hs hr (List.map_eq_nil_iff.1 e),λo ho=>(qI ho).2⟩
 ·exact(c.srt s hs).imp λh=>zMv h
def Book.Core.bestL {b:Book} {Q:List (List Nat)} (c:b.Core Q (-1)) {s:Int} (hs:s=1\/s=2):b.best (b.rungs s)=Sx.bestL (b.flat Q) s:=by
 rw[Sx.bestL,c.lad hs];cases b.rungs s<;>rfl
def Book.Core.cnt {b:Book} {Q:List (List Nat)} (c:b.Core Q (-1)):b.cntOk:=by
 intro q hq;obtain⟨n,hn⟩:=y7w.1 hq;have hlt:=(y5i.1 hn).1;rw[c.wf.ql]at hlt;obtain⟨l,hl⟩:=yD hlt;have:=c.wf.q n l hl;rw[hn]at this;cases this;have:=c.wf.toWf0.short hl;constructor<;>dsimp only<;>omega
def qZ (L:List zI):Top:=(top0.buy (bestL L 1)).sell (bestL L 2)
def Book.Rep.top {b:Book} {L:List zI} (h:b.Rep L):b.top=qZ L:=by
 obtain⟨Q,c,ht,rfl⟩:=h;rw[Book.top,qZ,<- c.bestL (.inl rfl),<- c.bestL (.inr rfl)];rfl
def Book.Rep.cnt {b:Book} {L:List zI} (h:b.Rep L):b.cntOk:=by
 obtain⟨Q,c,ht,rfl⟩:=h;exact c.cnt
structure zNj (o:zI):Prop where
 s:o.side=1\/o.side=2
 q:1<=o.qty/\o.qty<=1000000
def Book.Rep.ords {b:Book} {L:List zI} (h:b.Rep L):(∀o∈L,zNj o)/\(L.map (·.id)).Nodup/\L.length<=250:=by
 obtain⟨Q,c,ht,rfl⟩:=h;refine⟨λo ho=> ?_,c.ids,?_⟩
 ·obtain⟨hs,r,hr,ho,hp⟩:=nG ho;refine⟨hs,?_⟩;obtain⟨k,hk,e⟩:=y6q.1 ho;obtain⟨_,⟨_,_,h2⟩,_⟩:=c.wf.toWf0.mem (c.get hs hr) hk;have eq:o.qty=(b.a.slotAt k).qty:=by rw[<- e];rfl
  rw[eq];exact⟨c.wf.pos _ _ (c.get hs hr) _ hk,h2.q2⟩
 ·have hnd:(((b.rungs 1).flatMap (xC Q)++(b.rungs 2).flatMap (xC Q))).Nodup:=by
   have hm:((b.flat Q).map (·.id))=((b.rungs 1).flatMap (xC Q)++(b.rungs 2).flatMap (xC Q)).map λk=>(b.a.slotAt k).id:=by
    rw[Book.flat,y5o,y5o,Book.sideL,Book.sideL,eF,eF,eF,eF];congr 1
    ·exact xD λr _=>by rw[Book.rOrds,y7t];rfl
    ·exact xD λr _=>by rw[Book.rOrds,y7t];rfl
   have:=c.ids;rw[hm]at this;exact List.Pairwise.of_map _ (λa b hab e=>hab (by rw[e])) this
  have hl:(b.flat Q).length=((b.rungs 1).flatMap (xC Q)++(b.rungs 2).flatMap (xC Q)).length:=by
   rw[Book.flat,y5d,y5d,Book.sideL,Book.sideL,xAf,xAf,xAf,xAf];congr 1
   ·congr 1;exact y6o λr _=>by rw[Book.rOrds,y5f]
   ·congr 1;exact y6o λr _=>by rw[Book.rOrds,y5f]
  rw[hl];refine zNm 250 hnd λk hk=> ?_
  rcases y6j.1 hk with hk|hk
  ·obtain⟨r,hr,hk⟩:=y7y.1 hk;exact(c.wf.toWf0.mem (c.get (.inl rfl) hr) hk).1
  ·obtain⟨r,hr,hk⟩:=y7y.1 hk;exact(c.wf.toWf0.mem (c.get (.inr rfl) hr) hk).1
def Book.Rep.fit {b:Book} {L:List zI} (h:b.Rep L):b.fit:=by
 obtain⟨Q,c,ht,rfl⟩:=h;have hs:=c.small;have h1:=c.ql;have h2:=c.wf.ql;have hqb:=c.qb;rw[Book.qs,y5d,y5d,y5f,y5f]at h1;refine⟨⟨hs.1.1,λhf=> ?_,λq hq=> ?_⟩,oM,oM,oM,oM⟩
 ·obtain⟨k,_,hk,hk1,hku,_⟩:=c.wf.toWf0.unused hf;exact⟨_,y5p hk1,hku⟩
 ·obtain⟨n,hn⟩:=y7w.1 hq;have hlt:=(y5i.1 hn).1;rw[c.wf.ql]at hlt;obtain⟨l,hl⟩:=yD hlt;have:=c.wf.q n l hl;rw[hn]at this;cases this;dsimp only;rcases wP l with e|⟨y,j,e,e2⟩
  ·exact .inl ((pY l).2 e)
  ·rw[e2];have:=(c.wf.toWf0.mem hl (k:=j) (by rw[e];simp)).1;rw[c.wf.len];exact .inr ⟨oM,oM⟩
def whL:Nat->List (List zI)->List (Int×Int)
 |_,[]=>[]
 |k,L::B=>L.map (λo=>(o.id,(k:Int)))++whL (k+1) B
def whL_mem:∀{B:List (List zI)} {n:Nat} {x:Int×Int},x∈whL n B↔∃(k:Nat) (L:List zI),B[k]? =av L/\x.1∈L.map (·.id)/\x.2=((n+k:Nat):Int)
 |[],n,x=>by simp[whL]
 |L::B,n,x=>by
  rw[whL,y6j,whL_mem (B:=B)];constructor
  ·rintro(h|⟨k,L',h1,h2,h3⟩)
   ·obtain⟨o,ho,rfl⟩:=y6q.1 h;exact⟨0,L,rfl,y6i (f:=(·.id)) ho,rfl⟩
   ·exact⟨k+1,L',h1,h2,by rw[h3];omega⟩
  ·rintro⟨k,L',h1,h2,h3⟩;cases k with
   |zero=>
    cases h1;obtain⟨o,ho,e⟩:=y6q.1 h2;exact .inl (y6q.2 ⟨o,ho,Prod.ext e h3.symm⟩)
   |succ k=>exact .inr ⟨k,L',h1,h2,by rw[h3];omega⟩
def zLq:∀{B:List (List zI)} (n k:Nat),k<B.length->∃rest,∀X:List zI,(whL n (B.set k X)).Perm (X.map (λo=>(o.id,((n+k:Nat):Int)))++rest)
 |[],n,k,h=>absurd h (by simp)
 |L::B,n,0,h=>⟨whL (n+1) B,λX=> .refl _⟩
 |L::B,n,k+1,h=>by
  obtain⟨rest,hr⟩:=zLq (B:=B) (n+1) k (by simpa using h);refine⟨L.map (λo=>(o.id,(n:Int)))++rest,λX=> ?_⟩;rw[xBd,whL];refine((hr X).append_left _).trans ?_;rw[<- y5l,<- y5l,show n+1+k=n+(k+1)by omega];exact y7j.append_right _
structure MSt.Rep (s:MSt) (p:Prd) (B:List (List zI)):Prop where
 ep:s.p=p
 bl:s.books.length=B.length
 bk:∀(k:Nat) (b:Book) (L:List zI),s.books[k]? =av b->B[k]? =av L->b.Rep L
 wh:s.wh.Perm (whL 0 B)
 ids:((whL 0 B).map (·.1)).Nodup
def mN (B:List (List zI)) (id:Int):Option Nat:=B.findIdx? λL=>wO L id
def gP {B:List (List zI)} {id:Int} {k:Nat} (h:mN B id=av k):∃L,B[k]? =av L/\wO L id=ar:=by
 rw[mN,y8n]at h;obtain⟨h1,h2,_⟩:=h;exact⟨_,y6g h1,h2⟩
def z4r {B:List (List zI)} {id:Int} (h:mN B id=aw):∀L∈B,wO L id=aq:=by
 rw[mN,y9v]at h;exact h
def zVk:∀{l:List (Int×Int)},(l.map (·.1)).Nodup->∀{k x:Int},(k,x)∈l->zDo l k=av x
 |[],_,k,x,hx=>by cases hx
 |p::l,h,k,x,hx=>by
  rw[y5t,y7v]at h;rw[zDo,xBh];rcases y5z.1 hx with ex|hx
  ·subst ex;simp
  ·have:p.1≠k:=by rintro e;exact h.1 (e▸y6i (f:=(·.1)) hx)
   rw[y5r this];exact zVk h.2 hx
def yAy {l:List (Int×Int)} {k:Int} (h:k∉l.map (·.1)):zDo l k=aw:=by
 rw[zDo,Option.map_eq_none_iff,List.find?_eq_none];intro x hx e;have e:x.1=k:=by simpa using e
 exact h (e▸y6i (f:=(·.1)) hx)
def MSt.Rep.keys {s:MSt} {p:Prd} {B:List (List zI)} (h:s.Rep p B):(s.wh.map (·.1)).Nodup:=(h.wh.map (·.1)).nodup_iff.2 h.ids
def MSt.Rep.at_ {s:MSt} {p:Prd} {B:List (List zI)} (h:s.Rep p B) (id:Int):zDo s.wh id=(mN B id).map (λk:Nat=>(k:Int)):=by
 cases hi:mN B id with
 |none=>
  refine yAy λhm=> ?_
  rw[(h.wh.map (·.1)).mem_iff]at hm
  obtain⟨x,hx,rfl⟩:=y6q.1 hm;obtain⟨k,L,h1,h2,_⟩:=whL_mem.1 hx;have:=z4r hi L (y5p h1);rw[hasId_iff.2 h2]at this;cases this
 |some k=>
  obtain⟨L,h1,h2⟩:=gP hi;refine zVk h.keys (h.wh.mem_iff.2 (whL_mem.2 ⟨k,L,h1,hasId_iff.1 h2,by simp⟩))
def kH (B:List (List zI)) (id q:Int):List (List zI)×Int:=match mN B id with
 |none=>(B,26)
 |some k=>(B.set k (x3 (B.getD k []) id q).1,(x3 (B.getD k []) id q).2)
def zMt {L:List zI} (h:(L.map (·.id)).Nodup) (id q:Int):((x3 L id q).1.map (·.id)=L.map (·.id)/\wO (x3 L id q).1 id=wO L id)\/((x3 L id q).1=L.filter (λo=> !decide (o.id=id))/\wO (x3 L id q).1 id=aq):=by
 rw[x3];by_cases h1:wO L id=aq
 ·rw[y5g h1];exact .inl ⟨rfl,rfl⟩
 have h1:wO L id=ar:=by simpa using h1
 rw[y5e (by rw[h1];decide)];by_cases h2:q<1\/(dP L id).qty<q
 ·rw[y5g h2];exact .inl ⟨rfl,rfl⟩
 rw[y5e h2];dsimp only;by_cases h3:(dP L id).qty=q
 ·refine .inr ?_;have e:uY L id q=L.filter λo=> !decide (o.id=id):=by rw[<- h3];exact zSv h h1
  refine⟨e,?_⟩;rw[e,wO,xBj];intro o ho;rw[y7f]at ho;simpa using ho.2
 ·refine .inl ?_;have hm:(uY L id q).map (·.id)=L.map (·.id):=by
   have:uY L id q=L.map λo=>if o.id=id then{o with qty:=o.qty-q}else o:=by
    rw[uY,<- List.filterMap_eq_map];refine a8 λo ho=> ?_
    simp only[Function.comp];by_cases e:o.id=id
    ·have hg:=tM h ho;rw[e]at hg;rw[y5g e,y5g e,y5e (λe2=>h3 (by rw[hg];exact e2))]
    ·rw[y5e e,y5e e]
   rw[this,y7t];refine y6o λo _=> ?_
   simp only[Function.comp];split<;>rfl
  refine⟨hm,?_⟩;rw[xBg,hasId_iff,hasId_iff,hm]
def z6e:∀{l:List (Int×Int)} {k:Int},(l.map (·.1)).Nodup->z2m k l=l.filter λx=> !decide (x.1=k)
 |[],k,_=>rfl
 |(a,b)::l,k,h=>by
  rw[y5t,y7v]at h;rw[z2m];by_cases e:k=a
  ·subst e;rw[y5g rfl,xAd (by simp)];symm;rw[xAx];intro x hx;have:x.1≠k:=λe=>h.1 (e▸y6i (f:=(·.1)) hx)
   simp[this]
  ·rw[y5e e,xAc (by simp[Ne.symm e]),z6e h.2]
def z1b:∀{l:List (Int×Int)} {k x:Int},k∉l.map (·.1)->zZm k x l=l++[(k,x)]
 |[],k,x,_=>rfl
 |p::l,k,x,h=>by
  rw[y5t,y5z,not_or]at h;rw[zZm,y5e h.1,z1b h.2];rfl
def uR {α:Type} {l:List α} {k:Nat} {x:α} (h:l[k]? =av x):l.set k x=l:=by
 apply y9b;intro i;rw[y8u];split
 ·rename_i e;subst e;rw[y5g (y5i.1 h).1,h]
 ·rfl
def MSt.Rep.set {s:MSt} {p:Prd} {B:List (List zI)} (h:s.Rep p B) {k:Nat} {L':List zI} {b':Book} (hb:b'.Rep L') (hk:k<B.length) {wh':List (Int×Int)} (hw:wh'.Perm (whL 0 (B.set k L'))) (hi:((whL 0 (B.set k L')).map (·.1)).Nodup):({s with books:=s.books.set k b',wh:=wh'}:MSt).Rep p (B.set k L'):=by
 refine⟨h.ep,by simpa using h.bl,λj b L h1 h2=> ?_,hw,hi⟩;by_cases e:k=j
 ·subst e;have h1:(s.books.set k b')[k]? =av b:=h1;rw[fJ (by rw[h.bl];exact hk)]at h1;rw[fJ hk]at h2;cases h1;cases h2;exact hb
 ·have h1:(s.books.set k b')[j]? =av b:=h1;rw[vP e]at h1 h2;exact h.bk j b L h1 h2
def MSt.Rep.take {s:MSt} {p:Prd} {B:List (List zI)} (h:s.Rep p B) {id q:Int} {k:Nat} (hi:mN B id=av k) {L:List zI} (hL:B[k]? =av L) (hn:(L.map (·.id)).Nodup) {b':Book} (hb:b'.Rep (x3 L id q).1):
 ({s with books:=s.books.set k b',wh:=if wO (x3 L id q).1 id=ar then s.wh else z2m id s.wh}:MSt).Rep p (kH B id q).1:=by
 have hk:=(y5i.1 hL).1;have ht:(kH B id q).1=B.set k (x3 L id q).1:=by simp only[kH,hi,zT hL]
 obtain⟨L2,e1,hh⟩:=gP hi;rw[hL]at e1;cases e1;obtain⟨rest,hr⟩:=zLq (B:=B) 0 k hk;have hL0:=hr L;rw[uR hL]at hL0;rw[ht];rcases zMt hn id q with⟨e1,e2⟩|⟨e1,e2⟩
 ·have hm:∀X Y:List zI,X.map (·.id)=Y.map (·.id)->X.map (λo=>(o.id,((0+k:Nat):Int)))=Y.map (λo=>(o.id,((0+k:Nat):Int))):=by
   intro X Y e;have:=congrArg (aa λi:Int=>(i,((0+k:Nat):Int))) e;rw[y7t,y7t]at this;exact this
  have hp:(whL 0 (B.set k (x3 L id q).1)).Perm (whL 0 B):=by
   refine(hr _).trans ?_;rw[hm _ _ e1];exact hL0.symm
  rw[e2,hh,y5g rfl];exact h.set hb hk (h.wh.trans hp.symm) ((hp.map (·.1)).nodup_iff.2 h.ids)
 ·rw[e2,y5e (by decide)];have hrest:∀x∈rest,x.1≠id:=by
   intro x hx e;have hnd:=(hL0.map (·.1)).nodup_iff.1 h.ids
   rw[y5o,y7t]at hnd;have h1:id∈L.map ((·.1)∘λo:zI=>(o.id,((0+k:Nat):Int))):=hasId_iff.1 hh
   exact(y7o.1 hnd).2.2 id h1 x.1 (y6i (f:=(·.1)) hx) e.symm
  have hp:(whL 0 (B.set k (x3 L id q).1)).Perm ((whL 0 B).filter λx=> !decide (x.1=id)):=by
   refine(hr _).trans (.trans ?_ (hL0.filter _).symm);rw[e1,y9h,List.filter_map];have:rest.filter (λx=> !decide (x.1=id))=rest:=by
    rw[xAx];intro x hx;simp[hrest x hx]
   rw[this];exact .refl _
  refine h.set hb hk ?_ ((hp.map (·.1)).nodup_iff.2 (h.ids.sublist (List.Sublist.map _ xAy)))
  rw[z6e h.keys];exact(h.wh.filter _).trans hp.symm
def z4l (p:Prd) (B:List (List zI)) (inst id:Int) (s price q:Int):List (List zI)×Int:=
 if inst<0\/B.length<=inst then(B,20)else if(mN B id).isSome=ar then(B,25)else if 250<=(whL 0 B).length then(B,13)else if p.price inst price≠0 then(B,p.price inst price)
 else(B.set inst.toNat (zKw (B.getD inst.toNat []) s id price q).1,(zKw (B.getD inst.toNat []) s id price q).2)
def yJu (L:List zI) (s id p q:Int):((zUt L s id p q).map (·.id)).Perm (id::L.map (·.id)):=by
 have:∀X:List zI,((X.takeWhile (before s p)++⟨id,s,p,q,gN L s p⟩::X.dropWhile (before s p)).map (·.id)).Perm (id::X.map (·.id)):=by
  intro X
  conv=>rhs;rw[<- xAz (p:=before s p) (l:=X)]
  rw[y5o,y5t,y5o];exact y5u
 rw[zUt];split
 ·refine(this _).trans ?_;rw[z6i]
 ·exact this _
def MSt.Rep.add {s:MSt} {p:Prd} {B:List (List zI)} (h:s.Rep p B) (inst id:Int) (sd:Bool) (price q:Int):
 (MSt.addF ⟨s,inst,id,sd,price,q⟩).1.Rep p (z4l p B inst id (zC sd) price q).1/\(MSt.addF ⟨s,inst,id,sd,price,q⟩).2=(z4l p B inst id (zC sd) price q).2:=by
 have hsd:zC sd=1\/zC sd=2:=by cases sd;exact .inl rfl;exact .inr rfl
 rw[MSt.addF,z4l];dsimp only;rw[h.bl,h.at_,h.wh.length_eq,show s.p.price inst price=p.price inst price by rw[h.ep],Option.isSome_map];by_cases c1:inst<0\/(B.length:Int)<=inst
 ·rw[y5g c1,y5g c1];exact⟨h,rfl⟩
 rw[y5e c1,y5e c1];by_cases c2:(mN B id).isSome=ar
 ·rw[y5g c2,y5g c2];exact⟨h,rfl⟩
 rw[y5e c2,y5e c2];by_cases c3:250<=(whL 0 B).length
 ·rw[y5g c3,y5g c3];exact⟨h,rfl⟩
 rw[y5e c3,y5e c3];by_cases c4:p.price inst price≠0
 ·rw[y5g c4,y5g c4];exact⟨h,rfl⟩
 rw[y5e c4,y5e c4];obtain⟨k,hk⟩:∃k:Nat,inst=k:=⟨inst.toNat,oM⟩
 subst hk;rw[y5x];have hkl:k<B.length:=by omega
 obtain⟨b,hb⟩:=yD (l:=s.books) (i:=k) (by rw[h.bl];exact hkl);obtain⟨L,hL⟩:=yD (l:=B) (i:=k) hkl;have hba:s.bookAt k=b:=by rw[MSt.bookAt,y5x];exact zT hb
 rw[hba,zT hL];obtain⟨r1,r2⟩:=(h.bk k b L hb hL).add hsd id price q;refine⟨?_,r2⟩;rw[r2];obtain⟨rest,hr⟩:=zLq (B:=B) 0 k hkl;have hL0:=hr L;rw[uR hL]at hL0;have hcase:(zKw L (zC sd) id price q).2≠0/\(zKw L (zC sd) id price q).1=L\/(zKw L (zC sd) id price q).2=0/\(zKw L (zC sd) id price q).1=zUt L (zC sd) id price q:=by
  rw[zKw]
  repeat' split
  ·exact .inl ⟨by simp,rfl⟩
  ·exact .inl ⟨by simp,rfl⟩
  ·exact .inl ⟨by simp,rfl⟩
  ·exact .inr ⟨rfl,rfl⟩
 rcases hcase with⟨e1,e2⟩|⟨e1,e2⟩
 ·rw[y5e e1];refine h.set r1 hkl ?_ ?_
  ·rw[e2,uR hL];exact h.wh
  ·rw[e2,uR hL];exact h.ids
 ·rw[y5g e1];have hnk:id∉s.wh.map (·.1):=by
   intro hm;obtain⟨x,hx,rfl⟩:=y6q.1 hm;have:=zVk h.keys hx;rw[h.at_]at this;cases hq:mN B x.1 with
   |none=>rw[hq]at this;cases this
   |some j=>rw[hq]at c2;exact c2 rfl
  have hp:(whL 0 (B.set k (zKw L (zC sd) id price q).1)).Perm ((id,(k:Int))::whL 0 B):=by
   refine(hr _).trans (.trans ?_ (hL0.symm.cons _));rw[e2,<- y6w];refine List.Perm.append_right _ ?_;have:=(yJu L (zC sd) id price q).map λi:Int=>(i,(k:Int))
   rw[y7t,y5t,y7t]at this;rw[y6e];exact this
  refine h.set r1 hkl ?_ ((hp.map (·.1)).nodup_iff.2 (y7v.2 ⟨?_,h.ids⟩))
  ·rw[z1b hnk];exact(y9q _ _).trans ((h.wh.cons _).trans hp.symm)
  ·rw[<- (h.wh.map (·.1)).mem_iff];exact hnk
def zVc:∀(n k:Nat),whL k (ab n [])=[]
 |0,_=>rfl
 |n+1,k=>by rw[y9l,whL,zVc];rfl
def z4d (p:Prd):(cV p).Rep p (ab p.count []):=by
 refine⟨rfl,by simp[cV],λk b L h1 h2=> ?_,?_,?_⟩
 ·have e1:b=book0:=xAw (y5p (show(ab p.count book0)[k]? =av b from h1));have e2:L=[]:=xAw (y5p h2);rw[e1,e2];exact yCu
 ·rw[zVc];exact .refl _
 ·rw[zVc];exact List.nodup_nil
def yRg (s:Bool):Con:=con1 BkL (λi=>[.nm 0 0,zA (zC s)]) (λi=>[z8 i.b]) (λi=>i.b.Rep i.L) (λ_=> .own 1) (λi=>[z8 i.b,.own 41 3 ((gA i.L (zC s)).map lvE)])
def lad1C:Con:=yRg aq
def lad2C:Con:=yRg ar
def y1z (s:Bool) (i:BkL):List SAnn:=[{ι:=Nat,slots:=λj=>[(5,.own 0),(19,zA j)],rows:=λj=>[.own 41 3 (((gA i.L (zC s)).take j).map lvE)]}]
structure BkT where
 b:Book
 L:List zI
 s:Bool
def ladC:Con:=con1 BkT (λi=>[.nm 0 0,zA (zC i.s)]) (λi=>[z8 i.b]) (λi=>i.b.Rep i.L) (λ_=> .own 1) (λi=>[z8 i.b,.own 41 3 ((gA i.L (zC i.s)).map lvE)])
@[reducible] def yJv (s:MSt):List AObj:=[xU s 0,xU s 1,xU s 2,xU s 3,xU s 4]
def topsOC:Con:=con1 MSt (λ_=>[.nm 0 0]) (λs=>yJv s) MSt.cntOk (λs=> .own 5) (λs=>yJv s++[.own 252 6 (s.tops.map z5)])
structure StI where
 s:MSt
 p:Prd
 B:List (List zI)
 id:Int
 q:Int
def stakeC:Con where
 ι:=StI
 pat:=λi=>[.nm 0 0,zA i.id,zA i.q]
 pre:=λi=>[zD i.s]
 cnd:=λi=>i.s.Rep i.p i.B/\i.B.length<=1000
 alts:=λi=>[{o:=MSt,res:=λ_=>zA (kH i.B i.id i.q).2,post:=λs=>[zD s],rel:=λs=>s.Rep i.p (kH i.B i.id i.q).1}]
def zZ (B:List (List zI)) (id:Int):Int×zI×Bool:=match mN B id with
 |none=>(0,yWd,aq)
 |some k=>(k,dP (B.getD k []) id,ar)
def sfindC:Con:=con1 StI (λi=>[.nm 0 0,zA i.id]) (λi=>[zD i.s]) (λi=>i.s.Rep i.p i.B/\i.B.length<=1000) (λi=> .tup [zA (zZ i.B i.id).1,yBf (zZ i.B i.id).2.1,yR (zZ i.B i.id).2.2]) (λi=>[zD i.s])
def zEy (a:Nat->Prop) (b:Nat) (c:Nat->Nat) (d:Nat) (e:BkL) (f:ArN):Prop:=a b/\c b<c d/\dh (am [V.nm 1 0,V.own 2,V.own 3,V.mp 4,V.d (dI e.b.top1),V.d (dI e.b.top2),V.own 5,V.d (D.v (.bool e.b.has1)),V.d (D.v (.bool e.b.has2))] (299:TypeId))/\ag Arena 3 zG f.a=ag Arena 3 zG e.b.a/\dh (ao 304 2 (aa zB e.b.buys))/\dh (ao 304 2 (aa zB e.b.sells))/\dh (ap (atE e.b.at_))/\dh (ao 3 1 (iE e.b.spare))
def bZ (a:Nat) (b:BkL):=(ae a (gA b.L (zC aq)))
def yRh (i:BkL):Prop:=
 ∃(a:Int),a=zC aq/\True/\∀(b:Unit),True->cnd (qW a) (∃(c:Unit),dh i.b.top1/\dh i.b.top2/\dh i.b.has1/\dh i.b.has2/\dh (ag Arena 3 zG i.b.a)/\dh (aa zB i.b.buys)/\dh (aa zB i.b.sells)/\dh (atE i.b.at_)/\dh (iE i.b.spare)/\aa lvE (gA i.L (zC aq))=[]/\True) (∃(c:Nat),(↑c:Int)=0/\aa lvE (bZ c i)=[]/\∃(d:Nat->Prop),∃(e:Nat->Nat),d c/\∀(f:Nat),d f->cnd (decide ((↑f:Int)<(↑(aa zB i.b.buys).length:Int))) ((0<=(↑f:Int)/\(↑f:Int)<(↑(aa zB i.b.buys).length:Int))/\∃(g:Int),∃(h:Int),zE (aa zB i.b.buys) (↑f:Int).toNat 0 2=av [dI g,dI h]/\∃(j:ArN),j.n=h/\ag Arena 3 zG j.a=ag Arena 3 zG i.b.a/\True/\∀(k:Unit),True->h=h/\True/\g=g/\∃(l:ArN),l.n=h/\ag Arena 3 zG l.a=ag Arena 3 zG j.a/\True/\∀(m:Unit),True->g=g/\((aa lvE (bZ f i)).length+1)*(24:Nat)<=(140737488355328:Nat)/\∃(n:Nat),(↑n:Int)=au.wrap ((↑f:Int)+1)/\aa lvE (bZ n i)=aa lvE (bZ f i)++[[dI g,dI ((j.a.qAt j.n).total),dI ((l.a.qAt l.n).count)]]/\zEy d n e f i l) (∃(g:Unit),dh i.b.top1/\dh i.b.top2/\dh i.b.has1/\dh i.b.has2/\dh (ag Arena 3 zG i.b.a)/\dh (aa zB i.b.buys)/\dh (aa zB i.b.sells)/\dh (atE i.b.at_)/\dh (iE i.b.spare)/\aa lvE (gA i.L (zC aq))=aa lvE (bZ f i)/\True))
def bT (a:Nat) (b:BkL):=(ae a (gA b.L (zC ar)))
def yQs (i:BkL):Prop:=
 ∃(a:Int),a=zC ar/\True/\∀(b:Unit),True->cnd (qW a) (∃(c:Unit),dh i.b.top1/\dh i.b.top2/\dh i.b.has1/\dh i.b.has2/\dh (ag Arena 3 zG i.b.a)/\dh (aa zB i.b.buys)/\dh (aa zB i.b.sells)/\dh (atE i.b.at_)/\dh (iE i.b.spare)/\aa lvE (gA i.L (zC ar))=[]/\True) (∃(c:Nat),(↑c:Int)=0/\aa lvE (bT c i)=[]/\∃(d:Nat->Prop),∃(e:Nat->Nat),d c/\∀(f:Nat),d f->cnd (decide ((↑f:Int)<(↑(aa zB i.b.sells).length:Int))) ((0<=(↑f:Int)/\(↑f:Int)<(↑(aa zB i.b.sells).length:Int))/\∃(g:Int),∃(h:Int),zE (aa zB i.b.sells) (↑f:Int).toNat 0 2=av [dI g,dI h]/\∃(j:ArN),j.n=h/\ag Arena 3 zG j.a=ag Arena 3 zG i.b.a/\True/\∀(k:Unit),True->h=h/\True/\g=g/\∃(l:ArN),l.n=h/\ag Arena 3 zG l.a=ag Arena 3 zG j.a/\True/\∀(m:Unit),True->g=g/\((aa lvE (bT f i)).length+1)*(24:Nat)<=(140737488355328:Nat)/\∃(n:Nat),(↑n:Int)=au.wrap ((↑f:Int)+1)/\aa lvE (bT n i)=aa lvE (bT f i)++[[dI g,dI ((j.a.qAt j.n).total),dI ((l.a.qAt l.n).count)]]/\zEy d n e f i l) (∃(g:Unit),dh i.b.top1/\dh i.b.top2/\dh i.b.has1/\dh i.b.has2/\dh (ag Arena 3 zG i.b.a)/\dh (aa zB i.b.buys)/\dh (aa zB i.b.sells)/\dh (atE i.b.at_)/\dh (iE i.b.spare)/\aa lvE (gA i.L (zC ar))=aa lvE (bT f i)/\True))
def sL (a:Nat×Top->Prop) (b:Nat×Top) (c:MSt) (d:Nat) (e:Book):Prop:=a b/\dh (ao 3 1 [[dI 1],[dI 2]])/\dh (xU c 0)/\ak 241 Book 6 zP (c.books.set (↑d:Int).toNat e) aw=xU c 1/\dh (xU c 2)/\dh (xU c 3)/\dh (xU c 4)
def zDb (a:MSt) (b:Nat×Top) (c:Nat×Top->Prop) (d:Nat) (e:Book):Prop:=∃(f:Nat×Top),aa z5 (xV a f.fst f.snd)=aa z5 (xV a b.fst b.snd)/\sL c f a d e
def yIc (s:MSt):Prop:=
 (zAu s)/\∃(a:Nat),(↑a:Int)=0/\aa z5 (x6 s a)=ab (↑s.books.length:Int).toNat [D.v (.bool aq),D.v (.bool aq),dI 0,dI 0,dI 0,dI 0]/\∃(b:Nat->Prop),∃(c:Nat->Nat),b a/\∀(d:Nat),b d->cnd (decide ((↑d:Int)<(↑s.books.length:Int))) ((0<=(↑d:Int)/\(↑d:Int)<(↑s.books.length:Int))/\(↑d:Int).toNat<s.books.length/\∃(e:Nat×Top),aa z5 (xV s e.fst e.snd)=aa z5 (x6 s d)/\∃(f:Nat×Top->Prop),(((0:Int)<=(0:Int)/\0<(↑(2:Nat):Int))/\∃(g:Int),zE [[dI 1],[dI 2]] (Int.toNat 0) 0 1=av [dI g]/\∃(h:Book),s.books[(↑d:Int).toNat]?=av h/\∃(j:BkS),zC j.side=g/\z8 j.b=z8 h/\(vB j)/\∀(k:Unit),True->∃(l:Book),z8 j.b=z8 l/\dh ((↑d:Int).toNat)/\(↑d:Int).toNat<s.books.length/\cnd (zX j).snd ((qP d s e)/\(qP d s e)/\(qP d s e)/\(↑d:Int).toNat<(uV s e).length/\(bS d s e)/\(bS d s e)/\dh ((zX j).fst.qty)/\dh ((zX j).fst.price)/\(↑d:Int).toNat<(b6 s e d).length/\(zBg d s e j)/\dh ((zX j).fst.qty)/\(↑d:Int).toNat<(dJ s e d j).length/\∃(m:Nat×Top),aa z5 (xV s m.fst m.snd)=zV (dJ s e d j) (↑d:Int).toNat 4 [dI (uQ j)]/\sL f m s d l) (zDb s e f d l))/\∀(g:Nat×Top),f g->∃(h:Nat×Top),aa z5 (xV s h.fst h.snd)=aa z5 (xV s g.fst g.snd)/\∃(j:Nat×Top->Prop),((gY)/\∃(k:Int),zE [[dI 1],[dI 2]] (au.wrap ((0:Int)+(1:Int))).toNat 0 1=av [dI k]/\∃(l:Book),s.books[(↑d:Int).toNat]?=av l/\∃(m:BkS),zC m.side=k/\z8 m.b=z8 l/\(vB m)/\∀(n:Unit),True->∃(p:Book),z8 m.b=z8 p/\dh ((↑d:Int).toNat)/\(↑d:Int).toNat<s.books.length/\cnd (zX m).snd ((qP d s h)/\(qP d s h)/\(qP d s h)/\(↑d:Int).toNat<(uV s h).length/\(aB d s h)/\(aB d s h)/\dh ((zX m).fst.qty)/\dh ((zX m).fst.price)/\(↑d:Int).toNat<(bU s h d).length/\(zAt d s h m)/\dh ((zX m).fst.qty)/\(↑d:Int).toNat<(dQ s h d m).length/\∃(q:Nat×Top),aa z5 (xV s q.fst q.snd)=zV (dQ s h d m) (↑d:Int).toNat 5 [dI (uQ m)]/\sL j q s d p) (zDb s h j d p))/\∀(k:Nat×Top),j k->∃(l:Nat),(↑l:Int)=au.wrap ((↑d:Int)+1)/\aa z5 (x6 s l)=aa z5 (xV s k.fst k.snd)/\b l/\c l<c d/\dh (xU s 0)/\dh (xU s 1)/\dh (xU s 2)/\dh (xU s 3)/\dh (xU s 4)) (∃(e:Unit),dh (sb s.p.code)/\dh s.p.tick/\dh s.p.low/\dh s.p.high/\dh s.p.wide/\dh s.p.rule/\dh s.p.top/\dh s.p.least/\dh s.p.part/\ak 241 Book 6 zP s.books aw=xU s 1/\dh (yO s.wh)/\aj 1 (iE s.p.months)=xU s 3/\aj 1 (iE s.p.settle)=xU s 4/\aa z5 s.tops=aa z5 (x6 s d)/\True)
def zCe (a:MSt) (b:StI):Prop:=aj 1 (iE a.p.months)=aj 1 (iE b.s.p.months)/\aj 1 (iE a.p.settle)=aj 1 (iE b.s.p.settle)/\a.Rep b.p (kH b.B b.id b.q).fst
def zBy (a:MSt) (b:StI):Prop:=yO a.wh=yO b.s.wh/\zCe a b
def sA (a:StI) (b:Int) (c:Bool):Prop:=kK (ax au a.id) (yO a.s.wh)=av [dI b]/\c=ar\/kK (ax au a.id) (yO a.s.wh)=aw/\[dI b]=[dI 0]/\c=aq
def mL (a:StI):Prop:=∀(b:Value×List D),b∈yO a.s.wh->like (ax au a.id) b.fst=ar
def yKw (i:StI):Prop:=
 (mL i)/\∃(a:Bool),∃(b:Int),(sA i b a)/\cnd (!a) (∃(c:MSt),(kH i.B i.id i.q).snd=26/\sb c.p.code=sb i.s.p.code/\c.p.tick=i.s.p.tick/\c.p.low=i.s.p.low/\c.p.high=i.s.p.high/\c.p.wide=i.s.p.wide/\c.p.rule=i.s.p.rule/\c.p.top=i.s.p.top/\c.p.least=i.s.p.least/\c.p.part=i.s.p.part/\ak 241 Book 6 zP c.books aw=ak 241 Book 6 zP i.s.books aw/\zBy c i) ((0<=b/\b<(↑i.s.books.length:Int))/\b.toNat<i.s.books.length/\∃(c:Book),i.s.books[b.toNat]?=av c/\∃(d:FlI),d.id=i.id/\d.qty=i.q/\z8 d.b=z8 c/\d.b.Rep d.L/\∀(e:Book),e.Rep (x3 d.L d.id d.qty).fst->∃(f:Book),z8 e=z8 f/\dh b.toNat/\b.toNat<i.s.books.length/\(0<=b/\b<(↑(i.s.books.set b.toNat f).length:Int))/\b.toNat<(i.s.books.set b.toNat f).length/\∃(g:Book),(i.s.books.set b.toNat f)[b.toNat]?=av g/\∃(h:FlI),h.id=i.id/\z8 h.b=z8 g/\h.b.Rep h.L/\∀(j:Unit),True->∃(k:Book),z8 h.b=z8 k/\dh b.toNat/\b.toNat<(i.s.books.set b.toNat f).length/\cnd (!wO h.L h.id) ((mL i)/\∃(l:MSt),(kH i.B i.id i.q).snd=(x3 d.L d.id d.qty).snd/\sb l.p.code=sb i.s.p.code/\l.p.tick=i.s.p.tick/\l.p.low=i.s.p.low/\l.p.high=i.s.p.high/\l.p.wide=i.s.p.wide/\l.p.rule=i.s.p.rule/\l.p.top=i.s.p.top/\l.p.least=i.s.p.least/\l.p.part=i.s.p.part/\ak 241 Book 6 zP l.books aw=ak 241 Book 6 zP ((i.s.books.set b.toNat f).set b.toNat k) aw/\yO l.wh=zBn (ax au i.id) (yO i.s.wh)/\zCe l i) (∃(l:MSt),(kH i.B i.id i.q).snd=(x3 d.L d.id d.qty).snd/\sb l.p.code=sb i.s.p.code/\l.p.tick=i.s.p.tick/\l.p.low=i.s.p.low/\l.p.high=i.s.p.high/\l.p.wide=i.s.p.wide/\l.p.rule=i.s.p.rule/\l.p.top=i.s.p.top/\l.p.least=i.s.p.least/\l.p.part=i.s.p.part/\ak 241 Book 6 zP l.books aw=ak 241 Book 6 zP ((i.s.books.set b.toNat f).set b.toNat k) aw/\zBy l i))
def yZg (i:BkL) (h:lad1C.cnd i):yRh i:=by
 obtain⟨Q,c,ht,hL⟩:i.b.Rep i.L:=h;have hsm:=c.small;obtain⟨⟨ha1,ha2⟩,hb1,hb2,hsp⟩:=id hsm;have hlad:=c.lad (.inl rfl);rw[<- hL]at hlad;have hlad:gA i.L (zC aq)=i.b.buys.map i.b.told:=hlad;unfold yRh zEy bZ qW dI;simp only[hlad,y5f];refine⟨1,rfl,trivial,λ_ _=>Cv.cnd.mk (λe=>absurd e Z8) λ_=>⟨0,by(first|exact rfl|exact trivial),by(first|exact rfl|exact trivial),λj=>j<=i.b.buys.length,λj=>i.b.buys.length-j,y6l _,λj hj=>zH (λe=> ?_) (λe=> ?_)⟩⟩
 ·obtain⟨r,hr⟩:=yD (l:=i.b.buys) (i:=j) oM;have hi:=c.cnt;refine⟨⟨oM,oM⟩,r.price,r.queue,elA hr (by simp[zB]) rfl,⟨i.b.a,r.queue⟩,by(first|exact rfl|exact trivial),by(first|exact rfl|exact trivial),trivial,λ_ _=>⟨by(first|exact rfl|exact trivial),by(first|exact rfl|exact trivial),by(first|exact rfl|exact trivial),⟨i.b.a,r.queue⟩,by(first|exact rfl|exact trivial),by(first|exact rfl|exact trivial),by(first|exact rfl|exact trivial),λ_ _=>⟨by(first|exact rfl|exact trivial),by simp only[y5w,y5f];omega,j+1,wjn oM,?_,oM,Z9,k0q⟩⟩⟩;have hrt:(i.b.buys.map i.b.told)[j]? =av (i.b.told r):=by rw[y6v,hr];rfl
  rw[y6n,hrt];simp[lvE,Book.told]
 ·rw[y5q (by rw[y5f];omega)];exact⟨(),k0q⟩
def yLz:lad1C.ok Tryz.prog 158:=okw mixed (gokc lJ (gokc zIz (gokc pP gok0))) 1 (λ_=>[]) (λi=>y1z aq i) [0] Tryz.func158 yZg
def y0m (i:BkL) (h:lad2C.cnd i):yQs i:=by
 obtain⟨Q,c,ht,hL⟩:i.b.Rep i.L:=h;have hsm:=c.small;obtain⟨⟨ha1,ha2⟩,hb1,hb2,hsp⟩:=id hsm;have hlad:=c.lad (.inr rfl);rw[<- hL]at hlad;have hlad:gA i.L (zC ar)=i.b.sells.map i.b.told:=hlad;unfold yQs bT zEy qW dI;simp only[hlad,y5f];refine⟨2,rfl,trivial,λ_ _=>Cv.cnd.mk (λe=>absurd e Z8) λ_=>⟨0,by(first|exact rfl|exact trivial),by(first|exact rfl|exact trivial),λj=>j<=i.b.sells.length,λj=>i.b.sells.length-j,y6l _,λj hj=>zH (λe=> ?_) (λe=> ?_)⟩⟩
 ·obtain⟨r,hr⟩:=yD (l:=i.b.sells) (i:=j) oM;have hi:=c.cnt;refine⟨⟨oM,oM⟩,r.price,r.queue,elA hr (by simp[zB]) rfl,⟨i.b.a,r.queue⟩,by(first|exact rfl|exact trivial),by(first|exact rfl|exact trivial),trivial,λ_ _=>⟨by(first|exact rfl|exact trivial),by(first|exact rfl|exact trivial),by(first|exact rfl|exact trivial),⟨i.b.a,r.queue⟩,by(first|exact rfl|exact trivial),by(first|exact rfl|exact trivial),by(first|exact rfl|exact trivial),λ_ _=>⟨by(first|exact rfl|exact trivial),by simp only[y5w,y5f];omega,j+1,wjn oM,?_,oM,Z9,k0q⟩⟩⟩;have hrt:(i.b.sells.map i.b.told)[j]? =av (i.b.told r):=by rw[y6v,hr];rfl
  rw[y6n,hrt];simp[lvE,Book.told]
 ·rw[y5q (by rw[y5f];omega)];exact⟨(),k0q⟩
def yLl:lad2C.ok Tryz.prog 158:=okw mixed (gokc lJ (gokc zIz (gokc pP gok0))) 1 (λ_=>[]) (λi=>y1z ar i) [0] Tryz.func158 y0m
def yVj:ladC.ok Tryz.prog 158:=λj=>match j with
 |⟨b,L,aq⟩=>yLz ⟨b,L⟩
 |⟨b,L,ar⟩=>yLl ⟨b,L⟩
def yVe (s:MSt) (h:topsOC.cnd s):yIc s:=by
 obtain⟨h1,h2⟩:s.cntOk:=h;unfold yIc uQ qP vB gY bS aB zAu zBg dJ b6 zAt dQ dE zX bU uV zDb sL dI;have p48:(2:Int) ^ (48:Nat)=281474976710656:=by decide
 refine⟨⟨oM,oM,oM,by rw[p48];omega⟩,0,rfl,?_,λj=>j<=s.books.length,λj=>s.books.length-j,oM,λj hj=>zH (λhlt=> ?_) (λhlt=> ?_)⟩
 ·rw[x6,y5o,List.map_replicate];rfl
 ·have hj':j<s.books.length:=by omega
  obtain⟨b,hb⟩:=yD hj';have hc:=h2 b (y5p hb);simp only[y5x];have ha:∀x,(aa z5 (xV s j x)).length=s.books.length:=λx=>by rw[y5f,zOy hj']
  have w1:au.wrap (0+1)=1:=by decide
  have w2:(0+1) % ((2:Int) ^ au.bits).natAbs=1:=by decide
  refine⟨⟨oM,oM⟩,oM,(j,top0),by rw[zJw hj'],λx=>x=(j,top0.buy (b.best b.buys)),⟨⟨Z8,Z8⟩,1,rfl,b,hb,⟨aq,b⟩,rfl,rfl,hc,λ_ _=>⟨b,rfl,kp,oM,?_⟩⟩,?_⟩
  ·refine Cv.cnd.mk (λc=> ?_) (λc=> ?_)
   ·have c:(b.best b.buys).2=ar:=c;have e1:=qX (s:=s) hj' (x:=top0) (y:={top0 with has1:=ar}) (f:=0+0+0*1) (ds:=[D.v (.bool ar)]) rfl;have e2:=qX (s:=s) hj' (x:={top0 with has1:=ar}) (y:={top0 with has1:=ar,p1:=(b.best b.buys).1.price}) (f:=0+2+0*1) (ds:=[D.v (.int .i64 (b.best b.buys).1.price)]) rfl;have e3:=qX (s:=s) hj' (x:={top0 with has1:=ar,p1:=(b.best b.buys).1.price}) (y:={top0 with has1:=ar,p1:=(b.best b.buys).1.price,q1:=(b.best b.buys).1.qty}) (f:=0+4+0*1) (ds:=[D.v (.int .i64 (b.best b.buys).1.qty)]) rfl;dsimp only;simp only[show b.side aq=b.buys from rfl,e1,e2,e3,ha]
    (repeat'(first|exact rfl|exact trivial|assumption|apply az|refineλ(_:Unit) (_:True)=>?_|refine ay () ?_|omega|(dsimp only;omega)))
    refine⟨(j,{top0 with has1:=ar,p1:=(b.best b.buys).1.price,q1:=(b.best b.buys).1.qty}),rfl,?_,?_⟩
    ·rw[Top.buy,y5g c]
    ·(repeat'(first|exact rfl|exact trivial|assumption|apply az|refineλ(_:Unit) (_:True)=>?_|refine ay () ?_|omega|(dsimp only;omega)))
     rw[fL hb];rfl
   ·have c:(b.best b.buys).2=aq:=c;refine⟨(j,top0),rfl,?_,?_⟩
    ·rw[Top.buy,y5e (by rw[c];simp)]
    ·(repeat'(first|exact rfl|exact trivial|assumption|apply az|refineλ(_:Unit) (_:True)=>?_|refine ay () ?_|omega|(dsimp only;omega)))
     rw[fL hb];rfl
  ·rintro _ rfl;rw[w1];generalize hx:top0.buy (b.best b.buys)=x;have hx2:b.top=x.sell (b.best b.sells):=by rw[Book.top,hx]
   refine⟨(j,x),rfl,λy=>y=(j,b.top),⟨⟨Z8,Z8⟩,2,rfl,b,hb,⟨ar,b⟩,rfl,rfl,hc,λ_ _=>⟨b,rfl,kp,oM,?_⟩⟩,?_⟩
   ·refine Cv.cnd.mk (λc=> ?_) (λc=> ?_)
    ·have c:(b.best b.sells).2=ar:=c;have e1:=qX (s:=s) hj' (x:=x) (y:={x with has2:=ar}) (f:=0+0+1*1) (ds:=[D.v (.bool ar)]) rfl;have e2:=qX (s:=s) hj' (x:={x with has2:=ar}) (y:={x with has2:=ar,p2:=(b.best b.sells).1.price}) (f:=0+2+1*1) (ds:=[D.v (.int .i64 (b.best b.sells).1.price)]) rfl;have e3:=qX (s:=s) hj' (x:={x with has2:=ar,p2:=(b.best b.sells).1.price}) (y:={x with has2:=ar,p2:=(b.best b.sells).1.price,q2:=(b.best b.sells).1.qty}) (f:=0+4+1*1) (ds:=[D.v (.int .i64 (b.best b.sells).1.qty)]) rfl;dsimp only;simp only[w2,show b.side ar=b.sells from rfl,e1,e2,e3,ha]
     (repeat'(first|exact rfl|exact trivial|assumption|apply az|refineλ(_:Unit) (_:True)=>?_|refine ay () ?_|omega|(dsimp only;omega)))
     refine⟨(j,{x with has2:=ar,p2:=(b.best b.sells).1.price,q2:=(b.best b.sells).1.qty}),rfl,?_,?_⟩
     ·rw[hx2,Top.sell,y5g c]
     ·(repeat'(first|exact rfl|exact trivial|assumption|apply az|refineλ(_:Unit) (_:True)=>?_|refine ay () ?_|omega|(dsimp only;omega)))
      rw[fL hb];rfl
    ·have c:(b.best b.sells).2=aq:=c;refine⟨(j,x),rfl,?_,?_⟩
     ·rw[hx2,Top.sell,y5e (by rw[c];simp)]
     ·(repeat'(first|exact rfl|exact trivial|assumption|apply az|refineλ(_:Unit) (_:True)=>?_|refine ay () ?_|omega|(dsimp only;omega)))
      rw[fL hb];rfl
   ·rintro _ rfl;refine⟨j+1,by rw[w64 (by omega)];rfl,?_⟩;refine⟨by dsimp only;rw[zKk hb],?_⟩;exact kp
 ·have hj:j<=s.books.length:=hj;obtain rfl:j=s.books.length:=by omega
  have e:x6 s s.books.length=s.tops:=by
   rw[x6,xAl,List.replicate_zero,y6b,y5q (by rw[MSt.tops,y5f];omega)]
  rw[e];exact kp
def z1j:topsOC.ok Tryz.prog 105:=okw mixed (gokc zLp gok0) 0 (λs=>yQu s) (λs=>yRl s) [] Tryz.func105 yVe
def yXe (i:StI) (h:stakeC.cnd i):yKw i:=by
 obtain⟨hR,hB⟩:i.s.Rep i.p i.B/\i.B.length<=1000:=h;have hat:=hR.at_ i.id;unfold yKw mL sA zBy zCe dI;cases hi:mN i.B i.id with
 |none=>
  rw[hi]at hat;refine⟨dY _ _,aq,0,.inr ⟨by rw[pW,hat];rfl,rfl,rfl⟩,Cv.cnd.mk (λ_=>⟨i.s,?_⟩) (λe=>absurd e Z8)⟩;have ht:kH i.B i.id i.q=(i.B,26):=by rw[kH,hi]
  rw[ht];exact(rF8 (rF6 hR))
 |some k=>
  rw[hi]at hat;obtain⟨L,hL,hh⟩:=gP hi;have hk:=(y5i.1 hL).1;obtain⟨b,hb⟩:=yD (l:=i.s.books) (i:=k) (by rw[hR.bl];exact hk);have hbR:=hR.bk k b L hb hL;have hbl:=hR.bl;have hnd:=hbR.ords.2.1;refine⟨dY _ _,ar,k,.inl ⟨by rw[pW,hat];rfl,rfl⟩,Cv.cnd.mk (λe=>absurd e Z8) (λ_=> ?_)⟩;rw[y5x];refine⟨⟨oM,oM⟩,oM,b,hb,⟨b,L,i.id,i.q⟩,rfl,rfl,rfl,hbR,λb' hb'=> ?_⟩;have hT:=hR.take (q:=i.q) hi hL hnd hb';have hk2:(kH i.B i.id i.q).2=(x3 L i.id i.q).2:=by simp only[kH,hi,zT hL]
  refine⟨b',rfl,rfl,oM,by rw[y6m];omega,by rw[y6m];omega,b',fJ oM,⟨b',(x3 L i.id i.q).1,i.id,0⟩,rfl,rfl,hb',λ_ _=>⟨b',rfl,rfl,by rw[y6m];omega,Cv.cnd.mk (λe=>⟨dY _ _,?_⟩) (λe=> ?_)⟩⟩
  ·have e:wO (x3 L i.id i.q).1 i.id=aq:=by simpa using e
   rw[e,y5e (by decide)]at hT;refine⟨{i.s with books:=i.s.books.set k b',wh:=z2m i.id i.s.wh},hk2,rF8 ⟨rfl,?_,(zZl _ _).symm,rfl,rfl,hT⟩⟩;rw[y9g]
  ·have e:wO (x3 L i.id i.q).1 i.id=ar:=by simpa using e
   rw[e,y5g rfl]at hT;refine⟨{i.s with books:=i.s.books.set k b',wh:=i.s.wh},hk2,rF8 ⟨rfl,?_,rfl,rfl,rfl,hT⟩⟩;rw[y9g]
def zGg:stakeC.ok Tryz.prog 171:=okw mixed (gokc yPg (gokc zXi gok0)) 0 (λ_=>[]) (λ_=>[]) [0] Tryz.func171 yXe
structure BOk (p:Prd) (B:List (List zI)):Prop where
 pc:p.check=0
 ps:p.small
 bl:B.length=p.count
 pr:∀(k:Nat) (L:List zI),B[k]? =av L->∀o∈L,p.price k o.price=0
def motherC:Con:=con1 Bool (λb=>[zA (zC b)]) (λ_=>[]) (λ_=>True) (λb=>zA (zC (!b))) (λ_=>[])
def cZ (s:Bool) (p x:Int):Bool:=if s then decide (p<=x)else decide (x<=p)
structure GoI where
 s:Bool
 p:Int
 x:Int
def mgoodC:Con:=con1 GoI (λi=>[zA (zC i.s),zA i.p,zA i.x]) (λ_=>[]) (λ_=>True) (λi=>yR (cZ i.s i.p i.x)) (λ_=>[])
def yT (p:Prd) (B:List (List zI)) (inst:Int) (s:Int):Quote×Bool×Bool:=
 let bq:=zU (xY ⟨p,B.map qZ,inst⟩ s) s
 let l:=bestL (B.getD inst.toNat []) s
 if(l.2 && !(bq.2 && btr s bq.1.price l.1.price))=ar then(⟨l.1.price,l.1.qty,⟨0,0⟩,⟨0,0⟩⟩,aq,ar)else(bq.1,bq.2,bq.2)
structure NxI where
 s:MSt
 p:Prd
 B:List (List zI)
 inst:Int
 sd:Bool
def nextC:Con:=con1 NxI (λi=>[.nm 0 0,zA i.inst,zA (zC i.sd)]) (λi=>[zD i.s]) (λi=>i.s.Rep i.p i.B/\BOk i.p i.B/\0<=i.inst/\i.inst<i.B.length)
 (λi=> .tup [zUp (yT i.p i.B i.inst (zC i.sd)).1,yR (yT i.p i.B i.inst (zC i.sd)).2.1,yR (yT i.p i.B i.inst (zC i.sd)).2.2]) (λi=>[zD i.s])
structure cM where
 id:Int
 inst:Int
 side:Int
 price:Int
 qty:Int
 left:Int
 deriving DecidableEq
def yV (f:cM):List D:=[.v (.int .i64 f.id),.v (.int .i64 f.inst),.v (.int .i64 f.side),.v (.int .i64 f.price),.v (.int .i64 f.qty),.v (.int .i64 f.left)]
def xZ (inst s:Int):List zI->List Int->List cM
 |o::os,k::ks=>if 0<k then⟨o.id,inst,s,o.price,k,o.qty-k⟩::xZ inst s os ks else xZ inst s os ks
 |_,_=>[]
def kR (B:List (List zI)) (fs:List cM):List (List zI):=fs.foldl (λB f=>(kH B f.id f.qty).1) B
def zUf (B:List (List zI)) (inst s:Int):List zI:=atL (B.getD inst.toNat []) s (bestL (B.getD inst.toNat []) s).1.price
def qS (p:Prd) (B:List (List zI)) (inst s q:Int):List cM:=xZ inst s (zUf B inst s) (kD ⟨p,zUf B inst s,q⟩)
structure TrI where
 s:MSt
 p:Prd
 B:List (List zI)
 inst:Int
 sd:Bool
 q:Int
def TrI.os (i:TrI):List zI:=zUf i.B i.inst (zC i.sd)
def TrI.sh (i:TrI):List Int:=kD ⟨i.p,i.os,i.q⟩
def TrI.fs (i:TrI) (j:Nat):List cM:=xZ i.inst (zC i.sd) (i.os.take j) (i.sh.take j)
def tradeC:Con where
 ι:=TrI
 pat:=λi=>[.nm 0 0,.agg [zA i.inst,zA (zC i.sd)],zA i.q]
 pre:=λi=>[zD i.s]
 cnd:=λi=>i.s.Rep i.p i.B/\BOk i.p i.B/\0<=i.inst/\i.inst<i.B.length/\yW i.q
 alts:=λi=>[{o:=MSt,res:=λ_=> .own 1,post:=λs=>[zD s,.own 374 6 ((qS i.p i.B i.inst (zC i.sd) i.q).map yV)],rel:=λs=>s.Rep i.p (kR i.B (qS i.p i.B i.inst (zC i.sd) i.q))}]
def yUy (i:TrI):List SAnn:=[{ι:=Nat×MSt,slots:=λj=>[(0,.nm 0 0),(11,.own 1),(44,zA j.1)],rows:=λj=>[zD j.2,.own 374 6 ((i.fs j.1).map yV)]}]
def z8j (b:Bool):Prop:=
 ∃(a:Unit),(zC !b)=au.wrap (3-zC b)/\True
def yHk (i:GoI):Prop:=
 cnd (zC i.s==1) (cnd (decide (i.x<=i.p)) (∃(a:Unit),cZ i.s i.p i.x=ar/\True) (cnd (zC i.s==2) (∃(a:Unit),cZ i.s i.p i.x=decide (i.x>=i.p)/\True) (∃(a:Unit),cZ i.s i.p i.x=aq/\True))) (cnd (zC i.s==2) (∃(a:Unit),cZ i.s i.p i.x=decide (i.x>=i.p)/\True) (∃(a:Unit),cZ i.s i.p i.x=aq/\True))
def zIc (a:MSt) (b:NxI):Prop:=sb a.p.code=sb b.s.p.code/\True/\a.p.tick=b.s.p.tick/\a.p.low=b.s.p.low/\a.p.high=b.s.p.high/\a.p.wide=b.s.p.wide/\a.p.rule=b.s.p.rule/\a.p.top=b.s.p.top/\a.p.least=b.s.p.least/\a.p.part=b.s.p.part/\True/\True
def dF (a:BsI):Prop:=(a.s=1\/a.s=2)/\a.l.length<=1000000
def zHp (a:NxI) (b:MSt) (c:Book):Prop:=sb a.s.p.code=sb b.p.code/\a.s.p.tick=b.p.tick/\a.s.p.low=b.p.low/\a.s.p.high=b.p.high/\a.s.p.wide=b.p.wide/\a.s.p.rule=b.p.rule/\a.s.p.top=b.p.top/\a.s.p.least=b.p.least/\a.s.p.part=b.p.part/\ak 241 Book 6 zP a.s.books aw=ak 241 Book 6 zP (b.books.set a.inst.toNat c) aw/\yO a.s.wh=yO b.wh/\aj 1 (iE a.s.p.months)=aj 1 (iE b.p.months)/\aj 1 (iE a.s.p.settle)=aj 1 (iE b.p.settle)/\True
def yA (a:NxI):=(yT a.p a.B a.inst (zC a.sd))
def zOs (a:NxI) (b:BsI) (c:MSt) (d:Book):Prop:=∃(e:Unit),(yA a).fst.price=(zU b.l b.s).fst.price/\(yA a).fst.qty=(zU b.l b.s).fst.qty/\(yA a).fst.a.inst=(zU b.l b.s).fst.a.inst/\(yA a).fst.a.side=(zU b.l b.s).fst.a.side/\(yA a).fst.b.inst=(zU b.l b.s).fst.b.inst/\(yA a).fst.b.side=(zU b.l b.s).fst.b.side/\(yA a).snd.fst=(zU b.l b.s).snd/\(yA a).snd.snd=(zU b.l b.s).snd/\zHp a c d
def zOv (a:NxI) (b:BkS) (c:MSt) (d:Book):Prop:=∃(e:Unit),(yA a).fst.price=(zX b).fst.price/\(yA a).fst.qty=(zX b).fst.qty/\(yA a).fst.a.inst=0/\(yA a).fst.a.side=0/\(yA a).fst.b.inst=0/\(yA a).fst.b.side=0/\(yA a).snd.fst=aq/\(yA a).snd.snd=ar/\zHp a c d
def zLn (a:eA) (b:NxI) (c:MSt):Prop:=∃(d:BsI),aa zJ d.l=aa zJ (xY a.i (zC a.s))/\d.s=zC b.sd/\(dF d)/\∀(e:Unit),True->(0<=b.inst/\b.inst<(↑c.books.length:Int))/\b.inst.toNat<c.books.length/\∃(f:Book),c.books[b.inst.toNat]?=av f/\∃(g:BkS),zC g.side=zC b.sd/\z8 g.b=z8 f/\(vB g)/\∀(h:Unit),True->∃(j:Book),z8 g.b=z8 j/\dh b.inst.toNat/\b.inst.toNat<c.books.length/\cnd (zX g).snd (cnd (zU d.l d.s).snd (∃(k:I3'),k.side=zC b.sd/\k.x=(zU d.l d.s).fst.price/\k.y=(zX g).fst.price/\True/\∀(l:Unit),True->cnd (!btr k.side k.x k.y) (zOv b g c j) (zOs b d c j)) (zOv b g c j)) (zOs b d c j)
def zWz (a:MSt) (b:NxI):Prop:=(zIc a b)/\∃(c:eA),sb c.i.p.code=sb b.s.p.code/\iE c.i.p.months=iE a.p.months/\c.i.p.tick=b.s.p.tick/\c.i.p.low=b.s.p.low/\c.i.p.high=b.s.p.high/\c.i.p.wide=b.s.p.wide/\c.i.p.rule=b.s.p.rule/\c.i.p.top=b.s.p.top/\c.i.p.least=b.s.p.least/\c.i.p.part=b.s.p.part/\iE c.i.p.settle=iE a.p.settle/\aa z5 c.i.tops=aa z5 a.tops/\c.i.inst=b.inst/\zC c.s=zC b.sd/\(kJ c)/\∀(d:Unit),True->zLn c b a
def dN (a:MSt):Prop:=a.books.length<=1000000/\∀(b:Book),b∈a.books->∀(c:cI),c∈b.a.queues->(-9223372036854775808)<=c.count/\c.count<=9223372036854775807
def yQq (i:NxI):Prop:=
 (∃(a:MSt),sb a.p.code=sb i.s.p.code/\a.p.tick=i.s.p.tick/\a.p.low=i.s.p.low/\a.p.high=i.s.p.high/\a.p.wide=i.s.p.wide/\a.p.rule=i.s.p.rule/\a.p.top=i.s.p.top/\a.p.least=i.s.p.least/\a.p.part=i.s.p.part/\ak 241 Book 6 zP a.books aw=ak 241 Book 6 zP i.s.books aw/\yO a.wh=yO i.s.wh/\aj 1 (iE a.p.months)=aj 1 (iE i.s.p.months)/\aj 1 (iE a.p.settle)=aj 1 (iE i.s.p.settle)/\(dN a)/\∀(b:Unit),True->(zIc a i)/\(∃(c:eA),sb c.i.p.code=sb i.s.p.code/\iE c.i.p.months=iE a.p.months/\c.i.p.tick=i.s.p.tick/\c.i.p.low=i.s.p.low/\c.i.p.high=i.s.p.high/\c.i.p.wide=i.s.p.wide/\c.i.p.rule=i.s.p.rule/\c.i.p.top=i.s.p.top/\c.i.p.least=i.s.p.least/\c.i.p.part=i.s.p.part/\iE c.i.p.settle=iE a.p.settle/\aa z5 c.i.tops=aa z5 a.tops/\c.i.inst=i.inst/\zC c.s=zC i.sd/\(kJ c)/\∀(d:Unit),True->(zLn c i a)/\zLn c i a)/\zWz a i)/\(dh (sb i.s.p.code)/\True/\dh i.s.p.tick/\dh i.s.p.low/\dh i.s.p.high/\dh i.s.p.wide/\dh i.s.p.rule/\dh i.s.p.top/\dh i.s.p.least/\dh i.s.p.part/\True/\True)/\∃(a:MSt),sb a.p.code=sb i.s.p.code/\a.p.tick=i.s.p.tick/\a.p.low=i.s.p.low/\a.p.high=i.s.p.high/\a.p.wide=i.s.p.wide/\a.p.rule=i.s.p.rule/\a.p.top=i.s.p.top/\a.p.least=i.s.p.least/\a.p.part=i.s.p.part/\ak 241 Book 6 zP a.books aw=ak 241 Book 6 zP i.s.books aw/\yO a.wh=yO i.s.wh/\aj 1 (iE a.p.months)=aj 1 (iE i.s.p.months)/\aj 1 (iE a.p.settle)=aj 1 (iE i.s.p.settle)/\(dN a)/\∀(b:Unit),True->zWz a i
def aL (a:AtI):=(aa vA (atL a.L (zC a.s) a.price))
def zHq (a:Nat×MSt->Prop) (b:Nat×MSt) (c:Nat×MSt->Nat) (d:Nat×MSt) (e:AlI) (f:AtI) (g:BkS) (h:TrI):Prop:=a b/\c b<c d/\dh (ao 2 1 (iE (kD e)))/\dh (aj 5 (aL f))/\dh (am [V.d (dI (dE g)),V.d (dI (uQ g)),V.d (dI ((zX g).fst.count))] 41)/\dh (am [V.d (dI h.inst),V.d (dI (zC h.sd))] 256)/\dh (aj 1 (iE h.s.p.months))/\dh (aj 1 (iE h.s.p.settle))
def gO (a:TrI):=(qS a.p a.B a.inst (zC a.sd) a.q)
def dX (a:TrI):=(kR a.B (gO a))
def yFg (i:TrI):Prop:=
 (0<=i.inst/\i.inst<(↑i.s.books.length:Int))/\i.inst.toNat<i.s.books.length/\∃(a:Book),i.s.books[i.inst.toNat]?=av a/\∃(b:BkS),zC b.side=zC i.sd/\z8 b.b=z8 a/\(vB b)/\∀(c:Unit),True->∃(d:Book),z8 b.b=z8 d/\dh i.inst.toNat/\i.inst.toNat<i.s.books.length/\∃(e:Book),(i.s.books.set i.inst.toNat d)[i.inst.toNat]?=av e/\∃(f:AtI),zC f.s=zC i.sd/\f.price=(zX b).fst.price/\z8 f.b=z8 e/\f.b.Rep f.L/\∀(g:Unit),True->∃(h:Book),z8 f.b=z8 h/\dh i.inst.toNat/\i.inst.toNat<(i.s.books.set i.inst.toNat d).length/\∃(j:AlI),sb j.p.code=sb i.s.p.code/\iE j.p.months=iE i.s.p.months/\j.p.tick=i.s.p.tick/\j.p.low=i.s.p.low/\j.p.high=i.s.p.high/\j.p.wide=i.s.p.wide/\j.p.rule=i.s.p.rule/\j.p.top=i.s.p.top/\j.p.least=i.s.p.least/\j.p.part=i.s.p.part/\iE j.p.settle=iE i.s.p.settle/\aa vA j.l=aa vA (atL f.L (zC f.s) f.price)/\j.q=i.q/\(j.l.length<=1000/\((-9223372036854775808)<=j.q/\j.q<=9223372036854775807)/\((-9223372036854775808)<=j.p.least/\j.p.least<=9223372036854775807)/\((-9223372036854775808)<=j.p.top/\j.p.top<=9223372036854775807)/\(-9223372036854775808)<=j.p.part/\j.p.part<=9223372036854775807)/\∀(k:Unit),True->∃(l:Nat×MSt),(↑l.fst:Int)=0/\sb l.snd.p.code=sb i.s.p.code/\l.snd.p.tick=i.s.p.tick/\l.snd.p.low=i.s.p.low/\l.snd.p.high=i.s.p.high/\l.snd.p.wide=i.s.p.wide/\l.snd.p.rule=i.s.p.rule/\l.snd.p.top=i.s.p.top/\l.snd.p.least=i.s.p.least/\l.snd.p.part=i.s.p.part/\ak 241 Book 6 zP l.snd.books aw=ak 241 Book 6 zP ((i.s.books.set i.inst.toNat d).set i.inst.toNat h) aw/\yO l.snd.wh=yO i.s.wh/\aj 1 (iE l.snd.p.months)=aj 1 (iE i.s.p.months)/\aj 1 (iE l.snd.p.settle)=aj 1 (iE i.s.p.settle)/\aa yV (i.fs l.fst)=[]/\∃(m:Nat×MSt->Prop),∃(n:Nat×MSt->Nat),m l/\∀(p:Nat×MSt),m p->cnd (decide ((↑p.fst:Int)<(↑(iE (kD j)).length:Int))) ((0<=(↑p.fst:Int)/\(↑p.fst:Int)<(↑(iE (kD j)).length:Int))/\∃(q:Int),zE (iE (kD j)) (↑p.fst:Int).toNat 0 1=av [dI q]/\cnd (decide (q>0)) ((0<=(↑p.fst:Int)/\(↑p.fst:Int)<(↑(aL f).length:Int))/\∃(r:Int),∃(s:Int),∃(t:Int),∃(u:Int),∃(v:Bool),zE (aL f) (↑p.fst:Int).toNat 0 5=av [dI r,dI s,dI t,dI u,D.v (.bool v)]/\∃(w:StI),w.id=r/\w.q=q/\zD w.s=zD p.snd/\(w.s.Rep w.p w.B/\w.B.length<=1000)/\∀(x:MSt),x.Rep w.p (kH w.B w.id w.q).fst->((aa yV (i.fs p.fst)).length+1)*(48:Nat)<=(140737488355328:Nat)/\∃(y:Nat×MSt),(↑y.fst:Int)=au.wrap ((↑p.fst:Int)+1)/\zD y.snd=zD x/\aa yV (i.fs y.fst)=aa yV (i.fs p.fst)++[[dI r,dI i.inst,dI (zC i.sd),dI t,dI q,dI (au.wrap (u-q))]]/\zHq m y n p j f b i) (∃(r:Nat×MSt),(↑r.fst:Int)=au.wrap ((↑p.fst:Int)+1)/\zD r.snd=zD p.snd/\aa yV (i.fs r.fst)=aa yV (i.fs p.fst)/\zHq m r n p j f b i)) (∃(q:MSt),zD q=zD p.snd/\aa yV (gO i)=aa yV (i.fs p.fst)/\q.Rep i.p (dX i))
def eE {p:Prd} (hc:p.check=0) {k v:Int} (h:p.price k v=0): -2000000<=v/\v<=2000000:=by
 have ok:=kE hc;have:=ok.b1;have:=ok.b2;have:=ok.b3;have:=ok.b4;have:=ok.b5;rw[Prd.price]at h;by_cases c1:p.count=0
 ·rw[y5g c1]at h;cases h
 by_cases c2:k<0\/(p.count:Int)<=k
 ·rw[y5e c1,y5g c2]at h;cases h
 cases c3:qO p.tick v with
 |true=>rw[y5e c1,y5e c2,y5g c3]at h;cases h
 |false=>
  rw[y5e c1,y5e c2,y5e (by rw[c3];decide)]at h;by_cases c4:(p.months.length:Int)<=k
  ·simp only[y5g c4]at h;by_cases c5:v< -p.wide\/p.wide<v
   ·rw[y5g c5]at h;cases h
   ·omega
  ·simp only[y5e c4]at h;by_cases c5:v<p.low\/p.high<v
   ·rw[y5g c5]at h;cases h
   ·omega
def l6 {t:Int} (k:Int):qO t (t*k)=aq:=by
 simp[qO,Int.mul_tmod_right]
def zJt (x:Prd):(kprod x).small:=by
 have:=yHh x;refine⟨by simp[kprod],?_,?_⟩
 ·show(qE _).length<=_;rw[lS];omega
 ·show(kF _ _).length<=_;rw[mY];omega
def mP (x:Prd):(kprod x).check=0:=by
 have ht:=zEk x;have hn:=yHh x;have hw:=yQ (n:=x.wide) (lo:=0) (hi:=60) oM;have hr:=yQ (n:=x.rule) (lo:=0) (hi:=2) oM;have ho:=yQ (n:=x.top) (lo:=0) (hi:=9) oM;have hl:=yQ (n:=x.least) (lo:=0) (hi:=4) oM;have hp:=yQ (n:=x.part) (lo:=0) (hi:=100) oM;have h1:wH (kprod x).code=ar:=by show wH [206,169]=ar;decide+kernel
 obtain⟨k,hk,hk1⟩:∃k:Nat,(kN x).toNat=k/\(2<=k/\k<=5):=⟨_,rfl,oM⟩
 have h2:xF (kprod x).months=ar:=by
  show xF (qE (kN x).toNat)=ar;rw[hk];have:k=2\/k=3\/k=4\/k=5:=by omega
  rcases this with rfl|rfl|rfl|rfl<;>decide
 have h3:qK (kprod x)=ar:=by
  have a:qO (zR x) (-20*zR x)=aq:=by rw[y9o];exact l6 _
  have b:qO (zR x) (100*zR x)=aq:=by rw[y9o];exact l6 _
  have c:(kF (zR x) (kN x).toNat).any (qO (zR x))=aq:=by
   rw[xBj];intro y hy;obtain⟨j,_,rfl⟩:=y6q.1 hy;rw[l6];decide
  simp only[qK,kprod,a,b,c,l6,xAg,Bool.and_true,y5s];exact⟨y5v oM,y5v oM⟩
 have mw:=lA (a:=zR x) (b:=5+zF x.wide 0 60) (m:=zR x) (n:=65) oM oM;have h4:qL (kprod x)=aq:=by
  simp only[qL,kprod,y9j];exact⟨⟨⟨⟨y5r oM,y5r oM⟩,y5r oM⟩,y5r oM⟩,y5r oM⟩
 have h5:xI (kprod x)=aq:=by
  have e:(kF (zR x) (kN x).toNat).length=(qE (kN x).toNat).length:=by rw[mY,lS]
  have ne:kF (zR x) (kN x).toNat≠[]:=by
   intro hc;have:=mY (zR x) (kN x).toNat;rw[hc]at this;simp at this;omega
  have bd:∀y∈kF (zR x) (kN x).toNat,0<=y/\y<=zR x*15:=by
   intro y hy;obtain⟨j,hj,rfl⟩:=y6q.1 hy;have:=y8i.1 hj;exact lA oM oM
  have m1:=bd _ (z1v ne);have m2:=bd _ (z0p ne);simp only[xI,kprod,e,ne_eq,not_true_eq_false,decide_false,xBa,y9j];exact⟨y5r oM,y5r oM⟩
 have h6:kC (kprod x)=aq:=by
  simp only[kC,kprod,y9j];exact⟨y5r oM,y5r oM⟩
 have h7:x5 (kprod x)=aq:=by
  simp only[x5,kprod,y9j];exact⟨⟨⟨⟨⟨y5r oM,y5r oM⟩,y5r oM⟩,y5r oM⟩,y5r oM⟩,y5r oM⟩
 rw[Prd.check,h1,h2,h3,h4,h5,h6,h7];rfl
structure zUd (qs sh:List Int) (q:Int):Prop where
 len:sh.length=qs.length
 bd:∀n,0<=sh.getD n 0/\sh.getD n 0<=qs.getD n 0
 sum:sh.sum=q
def yEy:∀{l:List Int},(∀x∈l,0<=x)->0<=l.sum
 |[],_=>y8s 0
 |a::l,h=>by
  have:=yEy (l:=l) λx hx=>h x (y5m _ hx)
  have:=h a y5k;rw[y6u];omega
def z9p:∀{z:List (Int×Int)},(∀y∈z,0<=y.2/\y.2<=y.1)->(z.map (·.2)).sum<=(z.map (·.1)).sum
 |[],_=>y8s 0
 |a::l,h=>by
  have:=z9p (z:=l) λx hx=>h x (y5m _ hx)
  have:=h a y5k;rw[y5t,y5t,y6u,y6u];omega
def eG:∀(l:List Int) (q:Int),(∀x∈l,0<=x)->0<=q->q<=l.sum->zUd l (uX l q) q
 |[],q,_,h0,h1=>⟨rfl,λn=>by simp[uX],by simp at h1;simp[uX];omega⟩
 |n::l,q,h,h0,h1=>by
  have hn:=h n y5k;rw[y6u]at h1;have:=yEy λx hx=>h x (y5m _ hx)
  have ih:=eG l (q-min n q) (λx hx=>h x (y5m _ hx)) oM oM;refine⟨by rw[uX,y5j,y5j,ih.len],λk=> ?_,by rw[uX,y6u,ih.sum];omega⟩;cases k with
  |zero=>exact⟨by show 0<=min n q;omega,by show min n q<=n;omega⟩
  |succ k=>exact ih.bd k
def zBt:∀(z:List (Int×Int)) (q:Int),(∀y∈z,0<=y.2/\y.2<=y.1)->0<=q->q<=(z.map (·.1)).sum-(z.map (·.2)).sum->(wE z q).length=z.length/\(∀n,0<=(wE z q).getD n 0/\(wE z q).getD n 0<=(z.map (·.1)).getD n 0)/\(wE z q).sum=(z.map (·.2)).sum+q
 |[],q,_,h0,h1=>⟨rfl,λn=>by simp[wE],by simp at h1;simp[wE];omega⟩
 |(n,x)::r,q,h,h0,h1=>by
  have hn:=h (n,x) y5k;simp only[y5t,y6u]at h1;have:=z9p λy hy=>h y (y5m _ hy)
  have ih:=zBt r (q-min (n-x) q) (λy hy=>h y (y5m _ hy)) oM oM;refine⟨by rw[wE,y5j,y5j,ih.1],λk=> ?_,by rw[wE,y6u,ih.2.2,y5t,y6u];omega⟩;cases k with
  |zero=>exact⟨by show 0<=x+min (n-x) q;have:=hn.1;have:=hn.2;dsimp only at*;omega,by show x+min (n-x) q<=n;have:=hn.2;dsimp only at*;omega⟩
  |succ k=>exact ih.2.1 k
def yHs {l:List Int} {q:Int} (h1:l.length<=250) (h2:0<=q) (h3:∀x∈l,1<=x/\x<=1000000) (h4:q<=l.sum):yU l q=ar:=by
 rw[yU,y5v h1,y5v h2,y5v h4];simp only[y8b,Bool.and_true,y8k,y5s,y6t];exact h3
def zUx {i:PlI} (h:yU i.l i.q=ar) (hl:1<=i.least):zUd i.l (jB i) i.q:=by
 obtain⟨r1,r2,r3,r4⟩:=jH h;rw[jB,y5g ⟨h,hl⟩];by_cases hne:i.l.length=0
 ·have e:i.l=[]:=y6f hne;have hq:i.q=0:=by rw[e]at r4;simp at r4;omega
  have e0:i.p1=[]:=by rw[PlI.p1,e];rfl
  rw[e0,e,hq];exact⟨rfl,λn=>by simp,rfl⟩
 ·obtain⟨_,_,f1,f2⟩:=zEt h oM;have hpl:=z5e i;have m1:(i.l.zip i.p0).map (·.1)=i.l:=List.map_fst_zip oM
  have m2:(i.l.zip i.p0).map (·.2)=i.p0:=List.map_snd_zip oM
  have hp:=zBt (i.l.zip i.p0) (i.q-i.p0.sum) (λy hy=>by
   obtain⟨j,hj⟩:=y7w.1 hy;rw[y9w]at hj;exact f1 j _ _ hj.1 hj.2) oM (by rw[m1,m2];omega)
  rw[m1,m2]at hp;refine⟨?_,hp.2.1,?_⟩
  ·rw[PlI.p1,hp.1,List.length_zip,hpl,Nat.min_self]
  ·rw[PlI.p1,hp.2.2];omega
def zVq:∀{l:List Int} {k:Nat} {x:Int},k<l.length->(l.set k x).sum=l.sum+(x-l.getD k 0)
 |[],k,x,h=>absurd h (by simp)
 |a::l,0,x,_=>by
  show x+l.sum=a+l.sum+(x-a);omega
 |a::l,k+1,x,h=>by
  have:=zVq (l:=l) (k:=k) (x:=x) (by simpa using h);show a+(l.set k x).sum=a+l.sum+(x-l.getD k 0);omega
def zNe {l:List Int} {k n:Nat} {x:Int} (h:k<l.length):(l.set k x).getD n 0=if n=k then x else l.getD n 0:=by
 rw[y5n,y8u];by_cases e:k=n
 ·subst e;rw[y5g rfl,y5g h,y5g rfl];rfl
 ·rw[y5e e,y5e (λe2=>e e2.symm),y5n]
def zYz {l:List Int}:∀(z:List (Nat×Int)) (o:List Int),(z.map (·.1)).Nodup->(∀y∈z,y.1<o.length/\0<=y.2/\o.getD y.1 0+y.2<=l.getD y.1 0)->(∀n,0<=o.getD n 0/\o.getD n 0<=l.getD n 0/\l.getD n 0<=1000000)->
 (z.foldl (λo y=>o.set y.1 (au.wrap (o.getD y.1 0+y.2))) o).length=o.length/\(z.foldl (λo y=>o.set y.1 (au.wrap (o.getD y.1 0+y.2))) o).sum=o.sum+(z.map (·.2)).sum/\∀n,0<=(z.foldl (λo y=>o.set y.1 (au.wrap (o.getD y.1 0+y.2))) o).getD n 0/\(z.foldl (λo y=>o.set y.1 (au.wrap (o.getD y.1 0+y.2))) o).getD n 0<=l.getD n 0
 |[],o,_,_,h=>⟨rfl,by simp,λn=>⟨(h n).1,(h n).2.1⟩⟩
 |y::z,o,hn,hz,h=>by
  obtain⟨h1,h2,h3⟩:=hz y y5k;rw[y5t,y7v]at hn;have hw:au.wrap (o.getD y.1 0+y.2)=o.getD y.1 0+y.2:=by
   have:=h y.1;exact w64 oM
  rw[y8x,hw];have ih:=zYz (l:=l) z (o.set y.1 (o.getD y.1 0+y.2)) hn.2 (λx hx=>by
   obtain⟨g1,g2,g3⟩:=hz x (y5m _ hx);have hne:x.1≠y.1:=λe=>hn.1 (e▸y6i (f:=(·.1)) hx)
   rw[y6m,zNe h1,y5e hne];exact⟨g1,g2,g3⟩) (λn=>by
   rw[zNe h1];split
   ·rename_i e;rw[e];exact⟨by have:=h y.1;omega,h3,(h y.1).2.2⟩
   ·exact h n)
  refine⟨by rw[ih.1,y6m],?_,ih.2.2⟩;rw[ih.2.1,zVq h1,y5t,y6u];omega
def zOq (l:List Int):(List.range l.length).map (λn=>l.getD n 0)=l:=by
 apply y9b;intro n;rw[y6v];by_cases h:n<l.length
 ·rw[y9m h,y6g h,y7i,y5n,y6g h];rfl
 ·rw[y6k (by simpa using h),y6k (by omega)];rfl
def z5y {f g:Nat->Int}:∀l:List Nat,(l.map λn=>f n-g n).sum=(l.map f).sum-(l.map g).sum
 |[]=>rfl
 |a::l=>by rw[y5t,y5t,y5t,y6u,y6u,y6u,z5y l];omega
def zOb {f:Nat->Int} {p:Nat->Bool}:∀{l:List Nat},(∀n∈l,p n=aq->f n=0)->((l.filter p).map f).sum=(l.map f).sum
 |[],_=>rfl
 |a::l,h=>by
  have ih:=zOb (l:=l) λn hn=>h n (y5m _ hn)
  rw[y5t,y6u];by_cases e:p a=ar
  ·rw[xAc e,y5t,y6u,ih]
  ·rw[xAd e,ih,h a y5k (by simpa using e)];omega
def lK {i:RsI} (hl:i.l.length<=250) (ho:i.out.length=i.l.length) (hn:∀n,0<=i.out.getD n 0/\i.out.getD n 0<=i.l.getD n 0/\i.l.getD n 0<=1000000) (hq:0<=i.q/\i.q<=i.l.sum-i.out.sum) (hle:1<=i.least):
 zUd i.l (pS i) (i.out.sum+i.q):=by
 have hidx:(i.idx i.l.length).length<=250:=y8a (y8q _ _) (by simpa using hl);have hmem:∀n∈i.idx i.l.length,n<i.l.length/\i.out.getD n 0<i.l.getD n 0:=by
  intro n hn;obtain⟨a,b⟩:=y7f.1 hn;exact⟨y8i.1 a,y6d b⟩
 have hls:(i.left i.l.length).sum=i.l.sum-i.out.sum:=by
  rw[RsI.left,RsI.idx,zOb,z5y,zOq]
  ·rw[<- ho,zOq]
  ·intro n _ e;have:=y9t e;have:=hn n;omega
 have hr:yU (i.left i.l.length) i.q=ar:=by
  refine yHs (by rw[RsI.left,y5f];exact hidx) hq.1 (λx hx=> ?_) oM;obtain⟨n,hm,rfl⟩:=y6q.1 hx;have:=hmem n hm;have:=hn n;omega
 have hp:=zUx (i:=⟨i.left i.l.length,i.least,i.q⟩) hr hle;have hpl:i.pl.length=(i.idx i.l.length).length:=by
  have:=hp.len;rw[RsI.pl,this,RsI.left,y5f]
 have hnd:(i.idx i.l.length).Nodup:=List.nodup_range.sublist xAy;have z1:((i.idx i.l.length).zip i.pl).map (·.1)=i.idx i.l.length:=List.map_fst_zip oM
 have z2:((i.idx i.l.length).zip i.pl).map (·.2)=i.pl:=List.map_snd_zip oM
 have hf:=zYz (l:=i.l) ((i.idx i.l.length).zip i.pl) i.out (by rw[z1];exact hnd) (λy hy=>by
  obtain⟨j,hj⟩:=y7w.1 hy;rw[y9w]at hj;have hm:=hmem y.1 (y5p hj.1);have hb:=hp.bd j;have e1:(jB ⟨i.left i.l.length,i.least,i.q⟩).getD j 0=y.2:=by
   rw[y5n];have:(jB ⟨i.left i.l.length,i.least,i.q⟩)[j]? =av y.2:=hj.2;rw[this];rfl
  have e2:(i.left i.l.length).getD j 0=i.l.getD y.1 0-i.out.getD y.1 0:=by
   rw[y5n,RsI.left,y6v,hj.1];rfl
  dsimp only at hb;rw[e1,e2]at hb;exact⟨oM,hb.1,oM⟩) hn
 have hall:pS i=((i.idx i.l.length).zip i.pl).foldl (λo y=>o.set y.1 (au.wrap (o.getD y.1 0+y.2))) i.out:=by
  rw[pS,RsI.add,y5q (by rw[List.length_zip];omega)]
 rw[hall];refine⟨by rw[hf.1,ho],hf.2.2,?_⟩;rw[hf.2.1,z2];have:=hp.sum;rw[RsI.pl,this]
def z8b {l:List Int} (h:∀x∈l,1<=x/\x<=1000000) (n:Nat):0<=l.getD n 0/\l.getD n 0<=1000000:=by
 by_cases hn:n<l.length
 ·obtain⟨x,hx⟩:=yD hn;have:=h x (y5p hx);rw[zT hx];omega
 ·rw[y5n,y6k (by omega)];decide
def yXk (n k:Nat):(ab n (0:Int)).getD k 0=0:=by
 rw[y5n,List.getElem?_replicate];split<;>rfl
def zNh (n:Nat):(ab n (0:Int)).sum=0:=by
 induction n with
 |zero=>rfl
 |succ n ih=>rw[y9l,y6u,ih];rfl
def yTe {q part:Int} (hq:0<=q) (h0:0<=part) (h1:part<=100):0<=q*part / 100/\q*part / 100<=q:=by
 have h2:0<=q*part:=xBl hq h0;have h3:q*part<=q*100:=xAb h1 hq;constructor<;>omega
def zUj {p:Prd} (hc:p.check=0) {l:List zI} {q:Int} (hr:yU (l.map (·.qty)) q=ar):zUd (l.map (·.qty)) (kD ⟨p,l,q⟩) q:=by
 have ok:=kE hc;obtain⟨r1,r2,r3,r4⟩:=jH hr;have q1:=ok.q1;have q3:=ok.q3;have q5:=ok.q5;have q6:=ok.q6;have r5:=ok.r1;have r6:=ok.r2;have gb:=z8b r3;have eqs:(AlI.qs ⟨p,l,q⟩)=l.map (·.qty):=rfl
 rw[kD];simp only[eqs];generalize l.map (·.qty)=qs at*
 by_cases c1:p.rule=1
 ·rw[y5g c1,hP,y5g hr];exact eG _ _ (λx hx=>by have:=r3 x hx;omega) r2 r4
 by_cases c2:p.rule=2
 ·rw[y5e c1,y5g c2,zFd,y5g ⟨hr,q3,q1⟩];rw[PsI.rs];dsimp only;split
  ·rename_i ht;have hk:(topI l).toNat<(ab qs.length (0:Int)).length:=by simp;omega
   have hf:0<=PsI.first ⟨qs,topI l,p.top,p.least,q⟩/\PsI.first ⟨qs,topI l,p.top,p.least,q⟩<=qs.getD (topI l).toNat 0/\PsI.first ⟨qs,topI l,p.top,p.least,q⟩<=q:=by
    have:=gb (topI l).toNat;simp only[PsI.first];omega
   have hs:((ab qs.length (0:Int)).set (topI l).toNat (PsI.first ⟨qs,topI l,p.top,p.least,q⟩)).sum=PsI.first ⟨qs,topI l,p.top,p.least,q⟩:=by
    rw[zVq hk,zNh,yXk];omega
   have:=lK (i:=⟨qs,(ab qs.length 0).set (topI l).toNat (PsI.first ⟨qs,topI l,p.top,p.least,q⟩),p.least,q-PsI.first ⟨qs,topI l,p.top,p.least,q⟩⟩) r1 (by simp) (λn=>by
    dsimp only;rw[zNe hk,yXk];have:=gb n;split
    ·rename_i e;rw[e];exact⟨hf.1,hf.2.1,(gb _).2⟩
    ·omega) (by dsimp only;rw[hs];omega) q3
   dsimp only at this;rw[hs]at this;have e:PsI.first ⟨qs,topI l,p.top,p.least,q⟩+(q-PsI.first ⟨qs,topI l,p.top,p.least,q⟩)=q:=by omega
   rw[e]at this;exact this
  ·have:=lK (i:=⟨qs,ab qs.length 0,p.least,q⟩) r1 (by simp) (λn=>by
    dsimp only;rw[yXk];have:=gb n;omega) (by dsimp only;rw[zNh];omega) q3
   dsimp only at this;rw[zNh,Int.zero_add]at this;exact this
 ·have c3:p.rule=3:=by omega
  rw[y5e c1,y5e c2,y5g c3,zDs,y5g ⟨hr,q5,q6,q3⟩];rw[SpI.rs];dsimp only;obtain⟨d1,d2⟩:=yTe r2 q5 q6;have hr2:yU qs (q*p.part / 100)=ar:=yHs r1 d1 r3 oM;have hfs:=eG qs (q*p.part / 100) (λx hx=>by have:=r3 x hx;omega) d1 oM;have e0:hP qs (q*p.part / 100)=uX qs (q*p.part / 100):=by rw[hP,y5g hr2]
  have:=lK (i:=⟨qs,hP qs (q*p.part / 100),p.least,q-q*p.part / 100⟩) r1 (by dsimp only;rw[e0];exact hfs.len) (λn=>by
   dsimp only;rw[e0];exact⟨(hfs.bd n).1,(hfs.bd n).2,(gb n).2⟩) (by dsimp only;rw[e0,hfs.sum];omega) q3
  dsimp only at this;rw[e0,hfs.sum]at this;rw[e0];have e:q*p.part / 100+(q-q*p.part / 100)=q:=by omega
  rw[e]at this;exact this
def z4u {p:Prd} {l:List zI} {q:Int} (hr:yU (l.map (·.qty)) q=aq):kD ⟨p,l,q⟩=[]:=by
 have eqs:(AlI.qs ⟨p,l,q⟩)=l.map (·.qty):=rfl
 rw[kD];simp only[eqs,hP,zFd,zDs,hr];simp
def zSi:motherC.ok Tryz.prog 206:=okw (V:=z8j) mixed gok0 0 (λ_=>[]) (λ_=>[]) [] Tryz.func206 λ(b:Bool) _=>by
 unfold z8j;cases b<;>exact⟨(),Z8,trivial⟩
def zZd:mgoodC.ok Tryz.prog 207:=okw (V:=yHk) mixed gok0 0 (λ_=>[]) (λ_=>[]) [] Tryz.func207 λ(i:GoI) _=>by
 obtain⟨s,p,x⟩:=i;unfold yHk;cases s
 ·refine Cv.cnd.mk (λ_=>zH (λc=>⟨(),?_,trivial⟩) (λc=>Cv.cnd.mk (λe=>by simp[zC]at e) (λ_=>⟨(),?_,trivial⟩))) (λe=>by simp[zC]at e)
  ·exact y5v c
  ·exact y5r c
 ·exact Cv.cnd.mk (λe=>by simp[zC]at e) (λ_=>Cv.cnd.mk (λ_=>⟨(),rfl,trivial⟩) (λe=>by simp[zC]at e))
def zZt {L:List zI} {s:Int}:((bestL L s).2=ar/\∃o∈L,o.side=s/\o.price=(bestL L s).1.price)\/(bestL L s=(⟨0,0,0⟩,aq)/\∀o∈L,o.side≠s):=by
 rw[bestL];cases hl:gA L s with
 |nil=>
  refine .inr ⟨rfl,λo ho e=> ?_⟩;rw[gA]at hl;cases hf:L.filter λo=>decide (o.side=s)with
  |nil=>
   rw[ac]at hf;have:=hf o ho;simp[e]at this
  |cons x y=>
   rw[hf,grp]at hl;split at hl
   ·cases hl
   ·split at hl<;>cases hl
 |cons v vs=>
  refine .inl ⟨rfl,?_⟩;rw[gA]at hl;obtain⟨o,r,e1,e2⟩:=zNx hl;have:o∈L.filter λo=>decide (o.side=s):=by rw[e1];exact y5k
  rw[y7f]at this;exact⟨o,this.1,by simpa using this.2,e2⟩
def zUw {L:List zI} {s:Int} (h:∀o∈L,-2000000<=o.price/\o.price<=2000000): -2000000<=(bestL L s).1.price/\(bestL L s).1.price<=2000000:=by
 rcases zZt (L:=L) (s:=s)with⟨_,o,ho,_,e⟩|⟨e,_⟩
 ·rw[<- e];exact h o ho
 ·rw[e];constructor<;>decide
def zLd (L:List zI):(qZ L).p1=(bestL L 1).1.price/\(qZ L).q1=(bestL L 1).1.qty/\(qZ L).has1=(bestL L 1).2/\(qZ L).p2=(bestL L 2).1.price/\(qZ L).q2=(bestL L 2).1.qty/\(qZ L).has2=(bestL L 2).2:=by
 have h:∀s,(bestL L s).2=ar\/bestL L s=(⟨0,0,0⟩,aq):=λs=>by
  rcases zZt (L:=L) (s:=s)with⟨h,_⟩|⟨h,_⟩
  ·exact .inl h
  ·exact .inr h
 rw[qZ,Top.sell,Top.buy];rcases h 1 with h1|h1<;>rcases h 2 with h2|h2<;>simp[h1,h2,top0]
def BOk.prices {p:Prd} {B:List (List zI)} (h:BOk p B) {k:Nat} {L:List zI} (hL:B[k]? =av L):∀o∈L,-2000000<=o.price/\o.price<=2000000:=λo ho=>eE h.pc (h.pr k L hL o ho)
def BOk.tops {p:Prd} {B:List (List zI)} (h:BOk p B):vJ (B.map qZ):=by
 have:=xS p;refine⟨by rw[y5f,h.bl];omega,λt ht=> ?_⟩;obtain⟨L,hL,rfl⟩:=y6q.1 ht;obtain⟨k,hk⟩:=y7w.1 hL;have b1:=zUw (s:=1) (h.prices hk);have b2:=zUw (s:=2) (h.prices hk);rw[(zLd L).1,(zLd L).2.2.2.1];exact⟨by constructor<;>omega,by constructor<;>omega⟩
def MSt.Rep.tops {s:MSt} {p:Prd} {B:List (List zI)} (h:s.Rep p B):s.tops=B.map qZ:=by
 rw[MSt.tops];apply y9b;intro k;rw[y6v,y6v];by_cases hk:k<B.length
 ·obtain⟨L,hL⟩:=yD hk;obtain⟨b,hb⟩:=yD (l:=s.books) (i:=k) (by rw[h.bl];exact hk);rw[hL,hb,y7i,y7i,(h.bk k b L hb hL).top]
 ·rw[y6k (by rw[h.bl];omega),y6k (by omega)];rfl
def MSt.Rep.cnt {s:MSt} {p:Prd} {B:List (List zI)} (h:s.Rep p B) (hB:B.length<=1000000):s.cntOk:=by
 refine⟨by rw[h.bl];exact hB,λb hb=> ?_⟩;obtain⟨k,hk⟩:=y7w.1 hb;have hlt:=(y5i.1 hk).1;rw[h.bl]at hlt;obtain⟨L,hL⟩:=yD hlt;exact(h.bk k b L hk hL).cnt
def zZb {b:Book} {L:List zI} (h:b.Rep L) (sd:Bool):b.best (b.side sd)=bestL L (zC sd):=by
 obtain⟨Q,c,ht,rfl⟩:=h;cases sd
 ·exact c.bestL (.inl rfl)
 ·exact c.bestL (.inr rfl)
def zGf (sd:Bool):zC sd=1\/zC sd=2:=by cases sd;exact .inl rfl;exact .inr rfl
def y1w (i:NxI) (h:nextC.cnd i):yQq i:=by
 obtain⟨hR,hB,h0,h1⟩:i.s.Rep i.p i.B/\BOk i.p i.B/\0<=i.inst/\i.inst<i.B.length:=h;have hcl:=xS i.p;have hbl:=hB.bl;have hsl:=hR.bl;obtain⟨k,hk⟩:∃k:Nat,i.inst=k:=⟨i.inst.toNat,oM⟩
 obtain⟨L,hL⟩:=yD (l:=i.B) (i:=k) oM;obtain⟨b,hb⟩:=yD (l:=i.s.books) (i:=k) oM;have hbR:=hR.bk k b L hb hL;have hps:i.s.p.small:=by rw[hR.ep];exact hB.ps
 have hto:vJ i.s.tops:=by rw[hR.tops];exact hB.tops
 have hnx:yT i.p i.B i.inst (zC i.sd)=if((bestL L (zC i.sd)).2 && !((zU (xY ⟨i.s.p,i.s.tops,i.inst⟩ (zC i.sd)) (zC i.sd)).2 && btr (zC i.sd) (zU (xY ⟨i.s.p,i.s.tops,i.inst⟩ (zC i.sd)) (zC i.sd)).1.price (bestL L (zC i.sd)).1.price))=ar then(⟨(bestL L (zC i.sd)).1.price,(bestL L (zC i.sd)).1.qty,⟨0,0⟩,⟨0,0⟩⟩,aq,ar)else((zU (xY ⟨i.s.p,i.s.tops,i.inst⟩ (zC i.sd)) (zC i.sd)).1,(zU (xY ⟨i.s.p,i.s.tops,i.inst⟩ (zC i.sd)) (zC i.sd)).2,(zU (xY ⟨i.s.p,i.s.tops,i.inst⟩ (zC i.sd)) (zC i.sd)).2):=by
  rw[yT,hR.tops,hR.ep,hk,y5x,zT hL]
 have hbest:=zZb hbR i.sd;unfold yQq zWz kJ g7 zLn vB zOv zX zOs yA zHp dF dN zIc;have hcnt:i.s.cntOk:=hR.cnt oM;have hql:(xY ⟨i.s.p,i.s.tops,i.inst⟩ (zC i.sd)).length<=1000000:=by
  have:=y8a (y8q (λq=>decide (i.s.p.price i.inst q.price=0)) _) (zGm ⟨i.s.p,i.s.tops,i.inst⟩ (zC i.sd));exact y8a this Z8
 refine(λhT=>⟨⟨i.s,rF8 (rF4 ⟨rfl,hcnt,λ_ _=>⟨⟨rfl,trivial,rF7 ⟨rfl,trivial,trivial⟩⟩,⟨⟨⟨i.s.p,i.s.tops,i.inst⟩,i.sd⟩,rF8 (rF5 ⟨rfl,⟨hps,hto⟩,λ_ _=>⟨hT,hT⟩⟩)⟩,⟨rfl,trivial,rF7 ⟨rfl,trivial,trivial⟩⟩,⟨⟨⟨i.s.p,i.s.tops,i.inst⟩,i.sd⟩,rF8 (rF5 ⟨rfl,⟨hps,hto⟩,λ_ _=>hT⟩)⟩⟩⟩)⟩,
  ⟨rfl,trivial,rF7 ⟨rfl,trivial,trivial⟩⟩,⟨i.s,rF8 (rF4 ⟨rfl,hcnt,λ_ _=>⟨⟨rfl,trivial,rF7 ⟨rfl,trivial,trivial⟩⟩,⟨⟨⟨i.s.p,i.s.tops,i.inst⟩,i.sd⟩,rF8 (rF5 ⟨rfl,⟨hps,hto⟩,λ_ _=>hT⟩)⟩⟩⟩)⟩⟩) ?_
 refine⟨⟨xY ⟨i.s.p,i.s.tops,i.inst⟩ (zC i.sd),zC i.sd⟩,rfl,rfl,⟨zGf _,hql⟩,λ_ _=>⟨⟨h0,oM⟩,oM,b,by rw[hk];exact hb,⟨i.sd,b⟩,rfl,rfl,hbR.cnt,λ_ _=>⟨b,rfl,rfl,oM,?_⟩⟩⟩;dsimp only;rw[hbest];generalize bestL L (zC i.sd)=l at*;generalize zU (xY ⟨i.s.p,i.s.tops,i.inst⟩ (zC i.sd)) (zC i.sd)=bq at*;have hset:i.s.books.set i.inst.toNat b=i.s.books:=uR (by rw[hk];exact hb);rw[hset];refine Cv.cnd.mk (λc1=>Cv.cnd.mk (λc2=>⟨⟨zC i.sd,bq.1.price,l.1.price⟩,rfl,rfl,rfl,trivial,λ_ _=>Cv.cnd.mk (λc3=> ?_) (λc3=> ?_)⟩) (λc2=> ?_)) (λc1=> ?_)
 ·dsimp only at c3;rw[y5g (by rw[c1,c2];simpa using c3)]at hnx;rw[hnx];exact⟨(),k0q⟩
 ·dsimp only at c3;rw[y5e (by rw[c1,c2];simpa using c3)]at hnx;rw[hnx];exact⟨(),k0q⟩
 ·rw[y5g (by rw[c1,c2];rfl)]at hnx;rw[hnx];exact⟨(),k0q⟩
 ·rw[y5e (by rw[c1];simp)]at hnx;rw[hnx];exact⟨(),k0q⟩
def yLg:nextC.ok Tryz.prog 234:=okw mixed (gokc z1j (gokc zSm (gokc zXk (gokc zLp (gokc mO gok0))))) 0 (λ_=>[]) (λ_=>[]) [0] Tryz.func234 y1w
def z7a (i:RsI) (k:Nat):(i.add k).length=i.out.length:=by
 have:∀(l:List (Nat×Int)) (o:List Int),(l.foldl (λo y=>o.set y.1 (au.wrap (o.getD y.1 0+y.2))) o).length=o.length:=by
  intro l
  induction l with
  |nil=>intro o;rfl
  |cons x l ih=>intro o;rw[y8x,ih,y6m]
 exact this _ _
def zYr (l:List Int) (q:Int):(hP l q).length<=l.length:=by
 rw[hP];split
 ·rw[tZ];exact y6a _
 ·exact y6l _
def yCy (i:AlI):(kD i).length<=i.l.length:=by
 have hq:i.qs.length=i.l.length:=by simp[AlI.qs]
 rw[kD,<- hq]
 repeat' split
 ·exact zYr _ _
 ·rw[zFd];split
  ·rw[pS,z7a,PsI.rs];split
   ·simp
   ·simp
  ·exact y6l _
 ·rw[zDs];split
  ·rw[pS,z7a];exact zYr _ _
  ·exact y6l _
 ·exact y6l _
def zMs {inst s:Int}:∀{os:List zI} {sh:List Int} {j:Nat} {o:zI} {k:Int},os[j]? =av o->sh[j]? =av k->xZ inst s (os.take (j+1)) (sh.take (j+1))=xZ inst s (os.take j) (sh.take j)++(if 0<k then[⟨o.id,inst,s,o.price,k,o.qty-k⟩]else[])
 |[],_,_,_,_,h,_=>by simp at h
 |_::_,[],_,_,_,_,h=>by simp at h
 |o::os,k::sh,0,_,_,h,h2=>by
  cases h;cases h2;rw[y6p,y6p,y9s,y9s,y9s,y9s,xZ];split<;>rfl
 |o::os,k::sh,j+1,o',k',h,h2=>by
  rw[y6p,y6p,xZ,y6p,y6p,xZ,zMs (os:=os) (sh:=sh) (j:=j) h h2];split<;>rfl
def zSk {inst s:Int}:∀(os:List zI) (sh:List Int),xZ inst s (os.take sh.length) (sh.take sh.length)=xZ inst s os sh
 |[],sh=>by simp
 |_::_,[]=>by simp[xZ]
 |o::os,k::sh=>by
  rw[y5j,y6p,y6p,xZ,xZ,zSk os sh]
def yCh (B:List (List zI)) (a b:List cM):kR B (a++b)=kR (kR B a) b:=xAa
def nY (B:List (List zI)) (id q:Int):(kH B id q).1.length=B.length:=by
 rw[kH];split
 ·rfl
 ·simp
def uL:∀(fs:List cM) (B:List (List zI)),(kR B fs).length=B.length
 |[],B=>rfl
 |f::fs,B=>by
  show(kR (kH B f.id f.qty).1 fs).length=_;rw[uL fs,nY]
def yXs {p:Prd} (h:p.check=0):yW p.least/\yW p.top/\yW p.part:=by
 have ok:=kE h;have:=ok.q1;have:=ok.q2;have:=ok.q3;have:=ok.q4;have:=ok.q5;have:=ok.q6;exact⟨⟨oM,oM⟩,⟨oM,oM⟩,⟨oM,oM⟩⟩
def yWp (i:TrI) (h:tradeC.cnd i):yFg i:=by
 obtain⟨hR,hB,h0,h1,hq⟩:i.s.Rep i.p i.B/\BOk i.p i.B/\0<=i.inst/\i.inst<i.B.length/\yW i.q:=h;have hcl:=xS i.p;have hbl:=hB.bl;have hsl:=hR.bl;have ep:=hR.ep;obtain⟨k,hk⟩:∃k:Nat,i.inst=k:=⟨i.inst.toNat,oM⟩
 obtain⟨L,hL⟩:=yD (l:=i.B) (i:=k) oM;obtain⟨b,hb⟩:=yD (l:=i.s.books) (i:=k) oM;have hbR:=hR.bk k b L hb hL;have hbest:=zZb hbR i.sd;have hos:atL L (zC i.sd) (bestL L (zC i.sd)).1.price=i.os:=by rw[TrI.os,zUf,hk,y5x,zT hL]
 have hset:i.s.books.set i.inst.toNat b=i.s.books:=uR (by rw[hk];exact hb);have hosl:i.os.length<=250:=by
  rw[<- hos];exact y8a (y8q _ _) hbR.ords.2.2
 have hsh:i.sh.length<=i.os.length:=yCy _;obtain⟨k1,k2,k3⟩:=yXs hB.pc;have hsb:∀(j:Nat) (n:Int),i.sh[j]? =av n->n<=1000000:=by
  intro j n hn;cases hr:yU (i.os.map (·.qty)) i.q with
  |false=>
   have:i.sh=[]:=z4u hr;rw[this]at hn;cases hn
  |true=>
   have:=(zUj hB.pc hr).bd j;have e:(kD ⟨i.p,i.os,i.q⟩).getD j 0=n:=zT hn;rw[e]at this;have:=(z8b (jH hr).2.2.1 j).2;omega
 unfold yFg zHq uQ dE aL dX gO zX vB dI;refine⟨⟨h0,oM⟩,oM,b,by rw[hk];exact hb,⟨i.sd,b⟩,rfl,rfl,hbR.cnt,λ_ _=> ?_⟩;refine⟨b,rfl,rfl,oM,b,by rw[hset,hk];exact hb,⟨b,L,i.sd,(bestL L (zC i.sd)).1.price⟩,rfl,by dsimp only;rw[hbest],rfl,hbR,λ_ _=> ?_⟩;dsimp only
 try rw[hbest]
 rw[hset,hos];refine⟨b,rfl,rfl,oM,⟨i.p,i.os,i.q⟩,by rw[ep],by rw[ep],by rw[ep],by rw[ep],by rw[ep],by rw[ep],by rw[ep],by rw[ep],by rw[ep],by rw[ep],by rw[ep],rfl,rfl,⟨Z9,hq,k1,k2,k3⟩,λ_ _=> ?_⟩;have esh:kD ⟨i.p,i.os,i.q⟩=i.sh:=rfl;rw[esh,hset,yZ,y5f];refine⟨(0,i.s),rF8 (rF6 ⟨rfl,λj=>j.2.Rep i.p (kR i.B (i.fs j.1))/\j.1<=i.sh.length,λj=>i.sh.length-j.1,⟨hR,y6l _⟩,λj hj=> ?_⟩)⟩;obtain⟨hjR,hjl⟩:=hj;obtain⟨j,sj⟩:=j;dsimp only at hjR hjl ⊢;refine zH (λc=> ?_) (λc=> ?_)
 ·obtain⟨n,hn⟩:=yD (l:=i.sh) (i:=j) oM;obtain⟨o,ho⟩:=yD (l:=i.os) (i:=j) oM;have hst:=zMs (inst:=i.inst) (s:=zC i.sd) ho hn;have hoL:o∈L:=by
   have:=y5p ho;rw[<- hos]at this;exact(y7f.1 this).1
  have hoq:=(hbR.ords.1 o hoL).q;have hnb:=hsb j n hn;refine⟨⟨oM,oM⟩,n,elI hn,zH (λc2=> ?_) (λc2=> ?_)⟩
  ·rw[y5g (show 0<n from c2)]at hst;have hfl:(i.fs j).length<=j:=by
    have:∀(os:List zI) (sh:List Int),(xZ i.inst (zC i.sd) os sh).length<=os.length:=by
     intro os
     induction os with
     |nil=>intro sh;exact y6a 0
     |cons o os ih=>
      intro sh;cases sh with
      |nil=>exact y6l _
      |cons k sh=>
       have:=ih sh;rw[xZ];split
       ·simp only[y5j];omega
       ·simp only[y5j];omega
    exact y8a (this _ _) (by rw[y5w];omega)
   refine⟨⟨oM,oM⟩,o.id,o.side,o.price,o.qty,o.top,yXv ho,⟨sj,i.p,kR i.B (i.fs j),o.id,n⟩,rfl,rfl,rfl,⟨hjR,by dsimp only;rw[uL];omega⟩,λs' hs'=>⟨by rw[y5f];omega,(j+1,s'),wjn oM,rfl,?_,⟨?_,Z9⟩,Z9,k0q⟩⟩
   ·show aa yV (xZ i.inst (zC i.sd) (i.os.take (j+1)) (i.sh.take (j+1)))=_;rw[hst,y5o,w64 (by omega)];rfl
   ·show s'.Rep i.p (kR i.B (xZ i.inst (zC i.sd) (i.os.take (j+1)) (i.sh.take (j+1))));rw[hst,yCh];exact hs'
  ·rw[y5e (show ¬0<n from c2),y6b]at hst;refine⟨(j+1,sj),wjn oM,rfl,?_,⟨?_,Z9⟩,Z9,k0q⟩
   ·show aa yV (xZ i.inst (zC i.sd) (i.os.take (j+1)) (i.sh.take (j+1)))=_;rw[hst];rfl
   ·show sj.Rep i.p (kR i.B (xZ i.inst (zC i.sd) (i.os.take (j+1)) (i.sh.take (j+1))));rw[hst];exact hjR
 ·have hje:j=i.sh.length:=by omega
  subst hje;have hfa:i.fs i.sh.length=qS i.p i.B i.inst (zC i.sd) i.q:=zSk _ _;rw[hfa]at hjR ⊢;exact⟨sj,rfl,rfl,hjR⟩
def yKs:tradeC.ok Tryz.prog 235:=okw mixed (gokc zLp (gokc y1c (gokc yJf (gokc zGg gok0)))) 0 (λ_=>[]) (λi=>yUy i) [0] Tryz.func235 yWp
structure j0 where
 price:Int
 qty:Int
 implied:Bool
 fills:List cM
 deriving DecidableEq
def wG (t:j0):List D:=[.v (.int .i64 t.price),.v (.int .i64 t.qty),.v (.bool t.implied),.ro 6 (t.fills.map yV)]
def aY (p:Prd) (B:List (List zI)) (inst:Int) (sd:Bool) (price qty:Int):Option (j0×List (List zI)):=
 let n:=yT p B inst (zC (!sd))
 if(n.2.2 && (cZ sd price n.1.price && decide (1<=n.1.qty)))=ar then
  if n.2.1=ar then
   let f1:=qS p B n.1.a.inst n.1.a.side (min qty n.1.qty)
   let f2:=qS p (kR B f1) n.1.b.inst n.1.b.side (min qty n.1.qty)
   av (⟨n.1.price,min qty n.1.qty,ar,f1++f2⟩,kR (kR B f1) f2)
  else
   let f:=qS p B inst (zC (!sd)) (min qty n.1.qty)
   av (⟨n.1.price,min qty n.1.qty,aq,f⟩,kR B f)
 else aw
structure yUr where
 steps:List j0
 left:Int
 B:List (List zI)
def zKt (p:Prd) (inst:Int) (sd:Bool) (price:Int):Nat->List (List zI)->Int->yUr
 |0,B,q=>⟨[],q,B⟩
 |n+1,B,q=>if q<=0 then⟨[],q,B⟩else match aY p B inst sd price q with
  |none=>⟨[],q,B⟩
  |some (t,B')=>let r:=zKt p inst sd price n B' (q-t.qty);⟨t::r.steps,r.left,r.B⟩
def wK (p:Prd) (B:List (List zI)) (inst:Int) (sd:Bool) (price q:Int):yUr:=zKt p inst sd price q.toNat B q
structure RunI where
 s:MSt
 p:Prd
 B:List (List zI)
 inst:Int
 sd:Bool
 price:Int
 q:Int
def RunI.r (i:RunI):yUr:=wK i.p i.B i.inst i.sd i.price i.q
def runC:Con where
 ι:=RunI
 pat:=λi=>[.nm 0 0,zA i.inst,zA (zC i.sd),zA i.price,zA i.q]
 pre:=λi=>[zD i.s]
 cnd:=λi=>i.s.Rep i.p i.B/\BOk i.p i.B/\(0<=i.inst/\i.inst<i.B.length)/\1<=i.q/\i.q<=1000000
 alts:=λi=>[{o:=MSt,res:=λ_=> .tup [.own 1,zA i.r.left],post:=λs=>[zD s,.own 321 4 (i.r.steps.map wG)],rel:=λs=>s.Rep i.p i.r.B}]
structure zMr where
 s:MSt
 B:List (List zI)
 steps:List j0
 q:Int
def y3h:List SAnn:=[
 {ι:=zMr,slots:=λj=>[(0,.nm 0 0),(12,.own 1),(4,zA j.q)],rows:=λj=>[zD j.s,.own 321 4 (j.steps.map wG)]},
 {ι:=Unit,slots:=λ_=>[],rows:=λ_=>[],un:=3}]
def zPc (a:zMr->Nat) (b:zMr) (c:zMr) (d:RunI):Prop:=a b<a c/\dh (aj 1 (iE d.s.p.months))/\dh (aj 1 (iE d.s.p.settle))
def zEb (a:TrI):Prop:=a.s.Rep a.p a.B/\BOk a.p a.B/\0<=a.inst/\a.inst<(↑a.B.length:Int)/\(-9223372036854775808)<=a.q/\a.q<=9223372036854775807
def zMa (a:RunI) (b:zMr) (c:NxI):Prop:=∃(d:MSt),a.r.left=b.q/\zD d=zD c.s/\aa wG a.r.steps=aa wG b.steps/\d.Rep a.p a.r.B
def eJ (a:TrI):=(aa yV (gO a))
def z2c (a:RunI):Prop:=∃(b:zMr),b.q=a.q/\sb b.s.p.code=sb a.s.p.code/\b.s.p.tick=a.s.p.tick/\b.s.p.low=a.s.p.low/\b.s.p.high=a.s.p.high/\b.s.p.wide=a.s.p.wide/\b.s.p.rule=a.s.p.rule/\b.s.p.top=a.s.p.top/\b.s.p.least=a.s.p.least/\b.s.p.part=a.s.p.part/\ak 241 Book 6 zP b.s.books aw=ak 241 Book 6 zP a.s.books aw/\yO b.s.wh=yO a.s.wh/\aj 1 (iE b.s.p.months)=aj 1 (iE a.s.p.months)/\aj 1 (iE b.s.p.settle)=aj 1 (iE a.s.p.settle)/\aa wG b.steps=[]/\∃(c:zMr->Prop),∃(d:zMr->Nat),c b/\∀(e:zMr),c e->cnd (decide (e.q>0)) (∃(f:Bool),zC f=zC a.sd/\True/\∀(g:Unit),True->∃(h:NxI),h.inst=a.inst/\zC h.sd=zC !f/\zD h.s=zD e.s/\(h.s.Rep h.p h.B/\BOk h.p h.B/\0<=h.inst/\h.inst<(↑h.B.length:Int))/\∀(j:Unit),True->cnd (!(yA h).snd.snd) (zMa a e h) (∃(k:GoI),zC k.s=zC a.sd/\k.p=a.price/\k.x=(yA h).fst.price/\True/\∀(l:Unit),True->cnd (!cZ k.s k.p k.x) (zMa a e h) (cnd (yA h).snd.fst (∃(m:TrI),m.inst=(yA h).fst.a.inst/\zC m.sd=(yA h).fst.a.side/\m.q=min e.q (yA h).fst.qty/\zD m.s=zD h.s/\(zEb m)/\∀(n:MSt),n.Rep m.p (dX m)->True/\(eJ m).length*(48:Nat)<=(140737488355328:Nat)/\∃(p:TrI),p.inst=(yA h).fst.b.inst/\zC p.sd=(yA h).fst.b.side/\p.q=min e.q (yA h).fst.qty/\zD p.s=zD n/\(zEb p)/\∀(q:MSt),q.Rep p.p (dX p)->True/\((eJ m).length+(eJ p).length)*(48:Nat)<=(140737488355328:Nat)/\((aa wG e.steps).length+1)*(48:Nat)<=(140737488355328:Nat)/\∃(r:zMr),r.q=au.wrap (e.q-min e.q (yA h).fst.qty)/\zD r.s=zD q/\aa wG r.steps=aa wG e.steps++[[dI ((yA h).fst.price),dI (min e.q (yA h).fst.qty),D.v (.bool (yA h).snd.fst),D.ro 6 (aa yV (gO m)++aa yV (gO p))]]/\c r/\zPc d r e a) (∃(m:Bool),zC m=zC a.sd/\True/\∀(n:Unit),True->dh (min e.q (yA h).fst.qty)/\∃(p:TrI),p.inst=a.inst/\zC p.sd=zC !m/\p.q=min e.q (yA h).fst.qty/\zD p.s=zD h.s/\(zEb p)/\∀(q:MSt),q.Rep p.p (dX p)->((aa wG e.steps).length+1)*(48:Nat)<=(140737488355328:Nat)/\∃(r:zMr),r.q=au.wrap (e.q-min e.q (yA h).fst.qty)/\zD r.s=zD q/\aa wG r.steps=aa wG e.steps++[[dI ((yA h).fst.price),dI (min e.q (yA h).fst.qty),D.v (.bool (yA h).snd.fst),D.ro 6 (eJ p)]]/\c r/\zPc d r e a)))) (∃(f:MSt),a.r.left=e.q/\zD f=zD e.s/\aa wG a.r.steps=aa wG e.steps/\f.Rep a.p a.r.B)
def mV (a:RunI):Prop:=∃(b:MSt),a.r.left=a.q/\sb b.p.code=sb a.s.p.code/\b.p.tick=a.s.p.tick/\b.p.low=a.s.p.low/\b.p.high=a.s.p.high/\b.p.wide=a.s.p.wide/\b.p.rule=a.s.p.rule/\b.p.top=a.s.p.top/\b.p.least=a.s.p.least/\b.p.part=a.s.p.part/\ak 241 Book 6 zP b.books aw=ak 241 Book 6 zP a.s.books aw/\yO b.wh=yO a.s.wh/\aj 1 (iE b.p.months)=aj 1 (iE a.s.p.months)/\aj 1 (iE b.p.settle)=aj 1 (iE a.s.p.settle)/\aa wG a.r.steps=[]/\b.Rep a.p a.r.B
def y0r (i:RunI):Prop:=
 cnd (decide (i.inst>=0)) (cnd (decide (i.inst<(↑i.s.books.length:Int))) (cnd (zC i.sd==1) (cnd (decide (i.q>=1)) (cnd (!decide (i.q<=1000000)) (mV i) (z2c i)) (mV i)) (cnd (zC i.sd==2) (cnd (decide (i.q>=1)) (cnd (!decide (i.q<=1000000)) (mV i) (z2c i)) (mV i)) (mV i))) (mV i)) (mV i)
structure QOk (T:List Top) (q:Quote):Prop where
 a:0<=q.a.inst/\q.a.inst<T.length
 b:0<=q.b.inst/\q.b.inst<T.length
 sa:q.a.side=1\/q.a.side=2
 sb:q.b.side=1\/q.b.side=2
 ne:q.a.inst≠q.b.inst
 ha:(T.getD q.a.inst.toNat top0).has q.a.side=ar
 hb:(T.getD q.b.inst.toNat top0).has q.b.side=ar
 qty:q.qty=min ((T.getD q.a.inst.toNat top0).qty q.a.side) ((T.getD q.b.inst.toNat top0).qty q.b.side)
def z3s {T:List Top} {a b:Leg} {less:Bool} {q:Quote} (h:q∈mkq T a b less) (h1:0<=a.inst/\a.inst<T.length) (h2:0<=b.inst/\b.inst<T.length) (h3:a.side=1\/a.side=2) (h4:b.side=1\/b.side=2) (hne:a.inst≠b.inst):QOk T q/\q.a=a/\q.b=b:=by
 cases less
 all_goals
  simp only[mkq,y5y,↓reduceIte]at h;split at h
  ·rename_i hc;simp only[y5s]at hc;rw[y6r]at h;subst h;exact⟨⟨h1,h2,h3,h4,hne,hc.1.1,hc.1.2,rfl⟩,rfl,rfl⟩
  ·cases h
def yXf:∀n≤6,∀k<n+n*(n-1) / 2,n<=k->(kV n k n 0).1≠(kV n k n 0).2.1:=by decide
def z9l {p:Prd} (hc:p.check=0) {k:Nat} (hk:k<p.count) (hs:(p.legs k).2.2=ar):(p.legs k).1≠(p.legs k).2.1:=by
 have m6:=(kE hc).m6;have hk':=hk;rw[Prd.count,y5g hc]at hk';by_cases h:k<p.months.length
 ·rw[Prd.legs,y5e (by omega),y5g (by omega)]at hs;cases hs
 ·rw[Prd.legs,y5e (by omega),y5e (by omega)];exact yXf p.months.length m6 k hk' oM
def yAo:∀n≤6,∀a<n,∀b<n,a<b->(yJ n a:Int)+b-a-1>=n:=by decide
def zTq {p:Prd} (hc:p.check=0) {a b:Nat} (hab:a<b) (hb:b<p.months.length):(p.months.length:Int)<=(p.spread a b).1:=by
 have m6:=(kE hc).m6;have:=yAo p.months.length m6 a oM b hb hab;rw[Prd.spread,y5e (by omega)];simpa using this
def z5t {p:Prd} (hc:p.check=0) {T:List Top} (hT:T.length=p.count) {inst:Int} {s:Int} (hs:s=1\/s=2) {q:Quote} (h:q∈kL ⟨p,T,inst⟩ s):QOk T q/\0<=inst/\inst<p.count/\
 (((p.legs inst).2.2=ar/\q.a=⟨(p.legs inst).1,s⟩/\q.b=⟨(p.legs inst).2.1,3-s⟩)\/(inst<p.months.length/\q.a.inst≠inst/\(p.months.length:Int)<=q.a.inst)):=by
 rw[kL]at h;dsimp only at h;split at h
 ·cases h
 ·rename_i hn;have h0:0<=inst/\inst<p.count:=by omega
  obtain⟨k,rfl⟩:∃k:Nat,inst=k:=⟨inst.toNat,oM⟩
  have hk:k<p.count:=by omega
  have hge:=zGq hc;split at h
  ·rename_i hl;obtain⟨q',hq',rfl⟩:=y6q.1 h;have hle:=g8 hc hk;rcases hle with⟨_,l1,l2,l3,l4⟩|⟨e,_⟩
   ·obtain⟨ok,e1,e2⟩:=z3s hq' Z9 Z9 Z9 hs (λe=>z9l hc hk hl e.symm);refine⟨⟨by dsimp only[cY];omega,by dsimp only[cY];omega,hs,by dsimp only[cY];omega,z9l hc hk hl,?_,?_,?_⟩,h0.1,h0.2,.inl ⟨hl,rfl,rfl⟩⟩
    ·have:=ok.hb;rw[e2]at this;exact this
    ·have:=ok.ha;rw[e1]at this;exact this
    ·have:=ok.qty;rw[e1,e2]at this;dsimp only[cY];rw[this];exact Int.min_comm _ _
   ·rw[e]at hl;cases hl
  ·rename_i hl;have hm:k<p.months.length:=by
    rcases g8 hc hk with⟨e,_⟩|⟨_,e⟩
    ·exact absurd e hl
    ·exact e
   rcases y6j.1 h with h|h
   ·obtain⟨j,hj,h⟩:=y7y.1 h;have hj:=y8i.1 hj;rw[y5x]at hj;have s1:=b9 hc (a:=k) (b:=k+1+j) oM oM;have s2:=zTq hc (a:=k) (b:=k+1+j) oM oM;have ec:((k:Int)+1+j)=((k+1+j:Nat):Int):=by omega
    rw[ec]at h;obtain⟨ok,e1,e2⟩:=z3s h Z9 Z9 hs hs Z9;exact⟨ok,h0.1,h0.2,.inr ⟨oM,by rw[e1];dsimp only;omega,by rw[e1];exact s2⟩⟩
   ·obtain⟨j,hj,h⟩:=y7y.1 h;have hj:=y8i.1 hj;rw[y5x]at hj;have s1:=b9 hc (a:=j) (b:=k) oM oM;have s2:=zTq hc (a:=j) (b:=k) oM oM;obtain⟨ok,e1,e2⟩:=z3s h Z9 Z9 Z9 hs Z9;exact⟨ok,h0.1,h0.2,.inr ⟨oM,by rw[e1];dsimp only;omega,by rw[e1];exact s2⟩⟩
def zTa {s:Int}:∀(r:List Quote) (q:Quote),r.foldl (λb q=>if btr s q.price b.price then q else b) q∈q::r
 |[],q=>y5k
 |x::r,q=>by
  rw[y8x];have:=zTa (s:=s) r (if btr s x.price q.price then x else q);rcases y5z.1 this with e|h
  ·rw[e];split
   ·exact y5m _ y5k
   ·exact y5k
  ·exact y5m _ (y5m _ h)
def zHe {l:List Quote} {s:Int} (h:(zU l s).2=ar):(zU l s).1∈l:=by
 cases l with
 |nil=>cases h
 |cons q r=>exact zTa r q
def yNf (B:List (List zI)):Prop:=∀(k:Nat) (L:List zI),B[k]?=av L->(∀o∈L,zNj o)/\(L.map (·.id)).Nodup/\L.length<=250
def MSt.Rep.ords {s:MSt} {p:Prd} {B:List (List zI)} (h:s.Rep p B):yNf B:=by
 intro k L hL;obtain⟨b,hb⟩:=yD (l:=s.books) (i:=k) (by rw[h.bl];exact(y5i.1 hL).1);exact(h.bk k b L hb hL).ords
def z9k:∀{l:List zI} {v:Lv},(∀o∈l,zNj o)->v∈grp l->1<=v.qty/\v.qty<=1000000*l.length
 |[],v,_,h=>by cases h
 |o::l,v,ho,h=>by
  have h0:=(ho o y5k).q;have ih:∀v∈grp l,1<=v.qty/\v.qty<=1000000*l.length:=λv hv=>z9k (λx hx=>ho x (y5m _ hx)) hv
  rw[grp]at h;rw[y5j];split at h
  ·rw[y6r]at h;subst h;dsimp only;omega
  ·rename_i w ws e;rw[e]at ih;have hw:=ih w y5k;split at h
   ·rcases y5z.1 h with rfl|h
    ·dsimp only;omega
    ·have:=ih v (y5m _ h);omega
   ·rcases y5z.1 h with rfl|h
    ·dsimp only;omega
    ·have:=ih v h;omega
def z2o {L:List zI} {s:Int} (h:∀o∈L,zNj o) (hl:L.length<=250) (hb:(bestL L s).2=ar):1<=(bestL L s).1.qty/\(bestL L s).1.qty<=250000000:=by
 rw[bestL]at hb ⊢;cases hl2:gA L s with
 |nil=>rw[hl2]at hb;cases hb
 |cons v vs=>
  dsimp only;have hm:v∈grp (L.filter λo=>decide (o.side=s)):=by rw[<- gA,hl2];exact y5k
  have:=z9k (λo ho=>h o (y7f.1 ho).1) hm;have:=y8q (λo:zI=>decide (o.side=s)) L;omega
def yKj {B:List (List zI)} {k:Nat} {L:List zI} (hL:B[k]? =av L):(B.map qZ).getD k top0=qZ L:=zT (by rw[y6v,hL];rfl)
def zLg (L:List zI) {s:Int} (hs:s=1\/s=2):(qZ L).has s=(bestL L s).2/\(qZ L).qty s=(bestL L s).1.qty/\(qZ L).price s=(bestL L s).1.price:=by
 obtain⟨e1,e2,e3,e4,e5,e6⟩:=zLd L;rcases hs with rfl|rfl
 ·exact⟨e3,e2,e1⟩
 ·exact⟨e6,e5,e4⟩
def z6s {p:Prd} {B:List (List zI)} (h:BOk p B) (ho:yNf B) {inst:Int} (hi:0<=inst/\inst<B.length) {s:Int} (hs:s=1\/s=2) (hn:(yT p B inst s).2.2=ar):
 (1<=(yT p B inst s).1.qty/\(yT p B inst s).1.qty<=250000000)/\((yT p B inst s).2.1=ar->(yT p B inst s).1∈kL ⟨p,B.map qZ,inst⟩ s/\QOk (B.map qZ) (yT p B inst s).1)/\
 ((yT p B inst s).2.1=aq->(bestL (B.getD inst.toNat []) s).2=ar/\(yT p B inst s).1.price=(bestL (B.getD inst.toNat []) s).1.price/\(yT p B inst s).1.qty=(bestL (B.getD inst.toNat []) s).1.qty):=by
 obtain⟨k,rfl⟩:∃k:Nat,inst=k:=⟨inst.toNat,oM⟩
 obtain⟨L,hL⟩:=yD (l:=B) (i:=k) oM;have hLo:=ho k L hL;rw[yT]at hn ⊢;rw[y5x,zT hL]at hn ⊢;split
 ·rename_i c;simp only[y5s]at c;exact⟨z2o hLo.1 hLo.2.2 c.1,⟨λe=>(by cases e),λ_=>⟨c.1,rfl,rfl⟩⟩⟩
 ·rename_i c;rw[y5e c]at hn;dsimp only at hn ⊢;have hm:=zHe hn;have ha:(zU (xY ⟨p,B.map qZ,k⟩ s) s).1∈kL ⟨p,B.map qZ,k⟩ s:=(y7f.1 hm).1;obtain⟨ok,_⟩:=z5t h.pc (by rw[y5f];exact h.bl) hs ha;refine⟨?_,λ_=>⟨ha,ok⟩,λe=>by rw[hn]at e;cases e⟩;generalize (zU (xY ⟨p,B.map qZ,k⟩ s) s).1=q at ok;have a:=ok.a;have b:=ok.b;rw[y5f]at a b;obtain⟨La,hLa⟩:=yD (l:=B) (i:=q.a.inst.toNat) oM;obtain⟨Lb,hLb⟩:=yD (l:=B) (i:=q.b.inst.toNat) oM;have e1:=ok.ha;have e2:=ok.hb;have e3:=ok.qty;rw[yKj hLa]at e1 e3;rw[yKj hLb]at e2 e3;rw[(zLg La ok.sa).1]at e1;rw[(zLg Lb ok.sb).1]at e2;rw[(zLg La ok.sa).2.1,(zLg Lb ok.sb).2.1]at e3;have:=z2o (ho _ _ hLa).1 (ho _ _ hLa).2.2 e1;have:=z2o (ho _ _ hLb).1 (ho _ _ hLb).2.2 e2;omega
def yDv {L:List zI} {id q:Int} {o:zI} (h:o∈(x3 L id q).1):∃o'∈L,o.price=o'.price/\o.side=o'.side/\o.id=o'.id:=by
 rw[x3]at h;split at h
 ·exact⟨o,h,rfl,rfl,rfl⟩
 split at h
 ·exact⟨o,h,rfl,rfl,rfl⟩
 obtain⟨o',ho',e⟩:=xAm.1 h;refine⟨o',ho',?_⟩;split at e
 ·split at e
  ·cases e
  ·cases e;exact⟨rfl,rfl,rfl⟩
 ·cases e;exact⟨rfl,rfl,rfl⟩
def BOk.take {p:Prd} {B:List (List zI)} (h:BOk p B) (id q:Int):BOk p (kH B id q).1:=by
 refine⟨h.pc,h.ps,by rw[nY];exact h.bl,λk L hL o ho=> ?_⟩;rw[kH]at hL;split at hL
 ·exact h.pr k L hL o ho
 ·rename_i j hj;dsimp only at hL;rcases c8 hL with⟨rfl,rfl⟩|⟨_,hL⟩
  ·obtain⟨o',ho',e,_⟩:=yDv ho;obtain⟨L',hL',_⟩:=gP hj;rw[zT hL']at ho';rw[e];exact h.pr k L' hL' o' ho'
  ·exact h.pr k L hL o ho
def BOk.takes {p:Prd}:∀{fs:List cM} {B:List (List zI)},BOk p B->BOk p (kR B fs)
 |[],B,h=>h
 |f::fs,B,h=>BOk.takes (fs:=fs) (h.take f.id f.qty)
def zYv (inst s:Int):∀(os:List zI) (sh:List Int),(xZ inst s os sh).length<=os.length
 |[],sh=>y6a 0
 |o::os,[]=>y6l _
 |o::os,k::sh=>by
  have:=zYv inst s os sh;rw[xZ];split
  ·simp only[y5j];omega
  ·simp only[y5j];omega
def pR {p:Prd} {B:List (List zI)} (ho:yNf B) (inst s q:Int):(qS p B inst s q).length<=250:=by
 refine y8a (zYv _ _ _ _) (y8a (y8q _ _) ?_);by_cases h:inst.toNat<B.length
 ·obtain⟨L,hL⟩:=yD h;rw[zT hL];exact(ho _ _ hL).2.2
 ·rw[y5n,y6k (by omega)];exact y6l _
def zMw {p:Prd} {B:List (List zI)} {inst:Int} {sd:Bool} {price q:Int} {t:j0} {B':List (List zI)} (hq:1<=q) (h:aY p B inst sd price q=av (t,B')):1<=t.qty/\t.qty<=q:=by
 rw[aY]at h;dsimp only at h;split at h
 ·rename_i c;simp only[y5s,y6t]at c;split at h
  ·cases h;dsimp only;omega
  ·cases h;dsimp only;omega
 ·cases h
def z0d {p:Prd} {inst:Int} {sd:Bool} {price:Int}:∀(m n:Nat) (B:List (List zI)) (q:Int),q.toNat<=m->q.toNat<=n->zKt p inst sd price m B q=zKt p inst sd price n B q
 |0,0,B,q,_,_=>rfl
 |0,n+1,B,q,h,_=>by rw[zKt,zKt,y5g (by omega)]
 |m+1,0,B,q,_,h=>by rw[zKt,zKt,y5g (by omega)]
 |m+1,n+1,B,q,h1,h2=>by
  rw[zKt,zKt];split
  ·rfl
  ·rename_i hq;cases hs:aY p B inst sd price q with
   |none=>rfl
   |some x=>
    obtain⟨t,B'⟩:=x;have:=zMw oM hs;dsimp only;rw[z0d m n B' (q-t.qty) (by omega) (by omega)]
def lL {p:Prd} {B:List (List zI)} {inst:Int} {sd:Bool} {price q:Int} (h:q<=0\/aY p B inst sd price q=aw):wK p B inst sd price q=⟨[],q,B⟩:=by
 rw[wK];cases hn:q.toNat with
 |zero=>rfl
 |succ n=>
  rw[zKt];rcases h with h|h
  ·rw[y5g h]
  ·rw[y5e (by omega),h]
def zOc {p:Prd} {B:List (List zI)} {inst:Int} {sd:Bool} {price q:Int} {t:j0} {B':List (List zI)} (hq:1<=q) (h:aY p B inst sd price q=av (t,B')):
 wK p B inst sd price q=⟨t::(wK p B' inst sd price (q-t.qty)).steps,(wK p B' inst sd price (q-t.qty)).left,(wK p B' inst sd price (q-t.qty)).B⟩:=by
 have ht:=zMw hq h;rw[wK];cases hn:q.toNat with
 |zero=>omega
 |succ n=>
  rw[zKt,y5e (by omega),h];dsimp only;rw[z0d n (q-t.qty).toNat B' (q-t.qty) (by omega) (y6a _)];rfl
end Sx
