/- Texts of ours. No condition. -/
import Derived.Test.YthkofaanekmpmaaGreatS7
set_option linter.all false
open List renaming map->aa,replicate->ab,filter_eq_nil_iff->ac,take->ae,drop->af
open Sx.AObj renaming adt->ag,fro->aj,objs->ak,cells->am,own->ao,map->ap
open Bool renaming false->aq,true->ar
open Go.IntKind renaming i64->au
open Option renaming some->av,none->aw
open Go.Value renaming int->ax
open Exists renaming intro->ay
open And renaming intro->az
namespace Sx
set_option maxRecDepth 100000
open Go Cv Go.Proofs
def xC (a:DrI):=(a.b.dropF 1 a.id a.price)
def zIo (a:BkP) (b:DrI):Prop:=a.b.has2=b.b.has2/\ag Arena 3 zG a.b.a=zP b.b 1/\aa zB a.b.buys=aa zB b.b.buys/\aa zB a.b.sells=aa zB b.b.sells/\atE a.b.at_=zBn (ax au b.id) (atE b.b.at_)/\iE a.b.spare=iE b.b.spare/\(qA a)/\∀(c:Unit),True->(gR a)/\∃(d:Int),zE (aa zB a.b.buys) (xW a).toNat 1 1=av [dI d]/\∃(e:ArN),e.n=d/\ag Arena 3 zG e.a=ag Arena 3 zG a.b.a/\True/\∀(f:Unit),True->cnd ((e.a.qAt e.n).count==0) (((iE a.b.spare).length+1)*(8:Nat)<=(140737488355328:Nat)/\∃(g:ySp),(↑g.i:Int)=(xW a)/\(↑g.j:Int)=au.wrap ((xW a)+1)/\g.els=aa zB a.b.buys/\(g.i<g.j/\g.j<=g.els.length)/\∀(h:Unit),True->rE ((1:Int))/\∃(j:Unit),(xC b).top1=a.b.top1/\(xC b).top2=a.b.top2/\(xC b).has1=a.b.has1/\(xC b).has2=a.b.has2/\ag Arena 3 zG (xC b).a=ag Arena 3 zG e.a/\atE (xC b).at_=atE a.b.at_/\aa zB (xC b).buys=ae g.i g.els++af g.j g.els/\aa zB (xC b).sells=aa zB a.b.sells/\iE (xC b).spare=iE a.b.spare++[[dI d]]/\True) (∃(g:Unit),(xC b).top1=a.b.top1/\(xC b).top2=a.b.top2/\(xC b).has1=a.b.has1/\(xC b).has2=a.b.has2/\ag Arena 3 zG (xC b).a=ag Arena 3 zG e.a/\atE (xC b).at_=atE a.b.at_/\aa zB (xC b).buys=aa zB a.b.buys/\aa zB (xC b).sells=aa zB a.b.sells/\iE (xC b).spare=iE a.b.spare/\True)
def zId (a:DrI):Prop:=∃(b:BkP),rE ((1:Int))/\b.price=a.price/\b.b.top1=a.b.top1/\b.b.top2=a.b.top2/\b.b.has1=a.b.has1/\zIo b a
def yJa (i:DrI):Prop:=
 (∀(a:Value×List D),a∈atE i.b.at_->like (ax au i.id) a.fst=ar)/\cnd i.b.has1 (cnd (i.b.top1==i.id) (∃(a:BkP),rE ((1:Int))/\a.price=i.price/\a.b.top1=i.b.top1/\a.b.top2=i.b.top2/\a.b.has1=aq/\zIo a i) (zId i)) (zId i)
def xB (a:DrI):=(a.b.dropF 2 a.id a.price)
def zGq (a:BkP) (b:DrI):Prop:=ag Arena 3 zG a.b.a=zP b.b 1/\aa zB a.b.buys=aa zB b.b.buys/\aa zB a.b.sells=aa zB b.b.sells/\atE a.b.at_=zBn (ax au b.id) (atE b.b.at_)/\iE a.b.spare=iE b.b.spare/\(qA a)/\∀(c:Unit),True->(gY a)/\∃(d:Int),zE (aa zB a.b.sells) (xX a).toNat 1 1=av [dI d]/\∃(e:ArN),e.n=d/\ag Arena 3 zG e.a=ag Arena 3 zG a.b.a/\True/\∀(f:Unit),True->cnd ((e.a.qAt e.n).count==0) (((iE a.b.spare).length+1)*(8:Nat)<=(140737488355328:Nat)/\∃(g:ySp),(↑g.i:Int)=(xX a)/\(↑g.j:Int)=au.wrap ((xX a)+1)/\g.els=aa zB a.b.sells/\(g.i<g.j/\g.j<=g.els.length)/\∀(h:Unit),True->rE ((2:Int))/\∃(j:Unit),(xB b).top1=a.b.top1/\(xB b).top2=a.b.top2/\(xB b).has1=a.b.has1/\(xB b).has2=a.b.has2/\ag Arena 3 zG (xB b).a=ag Arena 3 zG e.a/\atE (xB b).at_=atE a.b.at_/\aa zB (xB b).buys=aa zB a.b.buys/\aa zB (xB b).sells=ae g.i g.els++af g.j g.els/\iE (xB b).spare=iE a.b.spare++[[dI d]]/\True) (∃(g:Unit),(xB b).top1=a.b.top1/\(xB b).top2=a.b.top2/\(xB b).has1=a.b.has1/\(xB b).has2=a.b.has2/\ag Arena 3 zG (xB b).a=ag Arena 3 zG e.a/\atE (xB b).at_=atE a.b.at_/\aa zB (xB b).buys=aa zB a.b.buys/\aa zB (xB b).sells=aa zB a.b.sells/\iE (xB b).spare=iE a.b.spare/\True)
def zJf (a:DrI):Prop:=∃(b:BkP),rE ((2:Int))/\b.price=a.price/\b.b.top1=a.b.top1/\b.b.top2=a.b.top2/\b.b.has1=a.b.has1/\b.b.has2=a.b.has2/\zGq b a
def yCz (i:DrI):Prop:=
 (∀(a:Value×List D),a∈atE i.b.at_->like (ax au i.id) a.fst=ar)/\cnd i.b.has2 (cnd (i.b.top2==i.id) (∃(a:BkP),rE ((2:Int))/\a.price=i.price/\a.b.top1=i.b.top1/\a.b.top2=i.b.top2/\a.b.has1=i.b.has1/\a.b.has2=aq/\zGq a i) (zJf i)) (zJf i)
def zBy (a:FlI):Prop:=aa zB a.b.buys=aa zB a.b.buys/\rE (aa zB a.b.sells)/\rE (atE a.b.at_)/\rE (iE a.b.spare)/\True
def zHa (a:Int) (b:FlI) (c:Int) (d:Int):Prop:=∃(e:ArN),e.n=a/\ag Arena 3 zG e.a=ag Arena 3 zG b.b.a/\e.a.slots.length<=1000000/\∀(f:Unit),True->∃(g:Unit),(dW b.L b.id).id=b.id/\(dW b.L b.id).side=c/\(dW b.L b.id).price=d/\(dW b.L b.id).qty=(e.a.getF e.n).fst.qty/\(dW b.L b.id).top=(e.a.getF e.n).fst.top/\wN b.L b.id=ar/\rE b.b.top1/\rE b.b.top2/\rE b.b.has1/\rE b.b.has2/\ag Arena 3 zG b.b.a=ag Arena 3 zG e.a/\zBy b
def tL (a:FlI) (b:Int) (c:Int) (d:Int) (e:Bool):Prop:=kH (ax au a.id) (atE a.b.at_)=av [dI b,dI c,dI d]/\e=ar\/kH (ax au a.id) (atE a.b.at_)=aw/\[dI b,dI c,dI d]=[dI 0,dI 0,dI 0]/\e=aq
def yFz (i:FlI):Prop:=
 (∀(a:Value×List D),a∈atE i.b.at_->like (ax au i.id) a.fst=ar)/\∃(a:Bool),∃(b:Int),∃(c:Int),∃(d:Int),(tL i b c d a)/\cnd (!a) (∃(e:Unit),(dW i.L i.id).id=0/\(dW i.L i.id).side=0/\(dW i.L i.id).price=0/\(dW i.L i.id).qty=0/\(dW i.L i.id).top=aq/\wN i.L i.id=aq/\rE i.b.top1/\rE i.b.top2/\rE i.b.has1/\rE i.b.has2/\rE (ag Arena 3 zG i.b.a)/\zBy i) ((zHa d i b c)/\d=d/\True/\zHa d i b c)
def zBk (a:Book) (b:FlI):Prop:=aa zB a.buys=aa zB b.b.buys/\aa zB a.sells=aa zB b.b.sells/\atE a.at_=atE b.b.at_/\iE a.spare=iE b.b.spare/\a.Rep (x4 b.L b.id b.qty).fst
def vE (a:DrJ):=(a.i.b.dropF (zC a.s) a.i.id a.i.price)
def zMp (a:FlI) (b:Int) (c:Int) (d:Int) (e:ArN):Prop:=∃(f:DrJ),f.i.id=a.id/\zC f.s=b/\f.i.price=c/\f.i.slot=d/\f.i.b.top1=a.b.top1/\f.i.b.top2=a.b.top2/\f.i.b.has1=a.b.has1/\f.i.b.has2=a.b.has2/\ag Arena 3 zG f.i.b.a=ag Arena 3 zG e.a/\aa zB f.i.b.buys=aa zB a.b.buys/\aa zB f.i.b.sells=aa zB a.b.sells/\atE f.i.b.at_=atE a.b.at_/\iE f.i.b.spare=iE a.b.spare/\(((f.i.b.a.slots.length<=1000000/\f.i.b.a.queues.length<=1000000)/\f.i.b.buys.length<=1000000/\f.i.b.sells.length<=1000000/\f.i.b.spare.length<=1000000)/\zY (zC f.s) (f.i.b.rungs (zC f.s)) f.i.price<(f.i.b.rungs (zC f.s)).length)/\∀(g:Unit),True->∃(h:Book),(x4 a.L a.id a.qty).snd=0/\h.top1=(vE f).top1/\h.top2=(vE f).top2/\h.has1=(vE f).has1/\h.has2=(vE f).has2/\ag Arena 3 zG h.a=ag Arena 3 zG (vE f).a/\aa zB h.buys=aa zB (vE f).buys/\aa zB h.sells=aa zB (vE f).sells/\atE h.at_=atE (vE f).at_/\iE h.spare=iE (vE f).spare/\h.Rep (x4 a.L a.id a.qty).fst
def zMx (a:Int) (b:TkI) (c:FlI) (d:Int) (e:Int):Prop:=∃(f:ArN),f.n=a/\ag Arena 3 zG f.a=ag Arena 3 zG (b.a.takeF b.n b.qty).fst/\f.a.slots.length<=1000000/\∀(g:Unit),True->cnd (!(f.a.getF f.n).snd) (zMp c d e a f) (cnd ((f.a.getF f.n).fst.id !=c.id) (zMp c d e a f) (∃(h:Book),(x4 c.L c.id c.qty).snd=0/\h.top1=c.b.top1/\h.top2=c.b.top2/\h.has1=c.b.has1/\h.has2=c.b.has2/\ag Arena 3 zG h.a=ag Arena 3 zG f.a/\zBk h c))
def yRs (i:FlI):Prop:=
 (∀(a:Value×List D),a∈atE i.b.at_->like (ax au i.id) a.fst=ar)/\∃(a:Bool),∃(b:Int),∃(c:Int),∃(d:Int),(tL i b c d a)/\cnd (!a) (∃(e:Book),(x4 i.L i.id i.qty).snd=26/\e.top1=i.b.top1/\e.top2=i.b.top2/\e.has1=i.b.has1/\e.has2=i.b.has2/\ag Arena 3 zG e.a=ag Arena 3 zG i.b.a/\zBk e i) (∃(e:TkI),e.n=d/\e.qty=i.qty/\ag Arena 3 zG e.a=ag Arena 3 zG i.b.a/\(e.a.slots.length<=1000000/\∀(k:Nat) (s:Slot),e.a.slots[k]?=av s->s.used=ar->(0<=s.queue/\s.queue<(↑e.a.queues.length:Int))/\s.qty<=1000000/\(s.ahead=(-1)\/0<=s.ahead/\s.ahead<(↑e.a.slots.length:Int)/\s.ahead≠(↑k:Int))/\(s.back=(-1)\/0<=s.back/\s.back<(↑e.a.slots.length:Int)/\s.back≠(↑k:Int)))/\∀(f:Unit),True->cnd ((e.a.takeF e.n e.qty).snd !=0) (∃(g:Book),(x4 i.L i.id i.qty).snd=(e.a.takeF e.n e.qty).snd/\g.top1=i.b.top1/\g.top2=i.b.top2/\g.has1=i.b.has1/\g.has2=i.b.has2/\ag Arena 3 zG g.a=ag Arena 3 zG (e.a.takeF e.n e.qty).fst/\zBk g i) ((zMx d e i b c)/\d=d/\True/\zMx d e i b c))
def y1s (i:AtI):Prop:=
 ∃(a:Int),a=zC aq/\True/\∀(b:Unit),True->cnd (qW a) (∃(c:Unit),rE i.b.top1/\rE i.b.top2/\rE i.b.has1/\rE i.b.has2/\rE (ag Arena 3 zG i.b.a)/\rE (aa zB i.b.buys)/\rE (aa zB i.b.sells)/\rE (atE i.b.at_)/\rE (iE i.b.spare)/\aa vA (atL i.L (zC aq) i.price)=[]/\True) (∃(c:BkP),1=zC aq/\c.price=i.price/\c.b.top1=i.b.top1/\c.b.top2=i.b.top2/\c.b.has1=i.b.has1/\c.b.has2=i.b.has2/\ag Arena 3 zG c.b.a=ag Arena 3 zG i.b.a/\aa zB c.b.buys=aa zB i.b.buys/\aa zB c.b.sells=aa zB i.b.sells/\atE c.b.at_=atE i.b.at_/\iE c.b.spare=iE i.b.spare/\(qA c)/\∀(d:Unit),True->cnd (!kV 1 (c.b.rungs 1) c.price) (∃(e:Unit),i.b.top1=c.b.top1/\i.b.top2=c.b.top2/\i.b.has1=c.b.has1/\i.b.has2=c.b.has2/\ag Arena 3 zG i.b.a=ag Arena 3 zG c.b.a/\aa zB i.b.buys=aa zB c.b.buys/\aa zB i.b.sells=aa zB c.b.sells/\atE i.b.at_=atE c.b.at_/\iE i.b.spare=iE c.b.spare/\aa vA (atL i.L (zC aq) i.price)=[]/\True) ((gR c)/\∃(e:Int),∃(f:Int),zE (aa zB c.b.buys) (xW c).toNat 0 2=av [dI e,dI f]/\∃(g:BoI),g.s=zC aq/\g.r.price=e/\g.r.queue=f/\g.b.top1=c.b.top1/\g.b.top2=c.b.top2/\g.b.has1=c.b.has1/\g.b.has2=c.b.has2/\ag Arena 3 zG g.b.a=ag Arena 3 zG c.b.a/\aa zB g.b.buys=aa zB c.b.buys/\aa zB g.b.sells=aa zB c.b.sells/\atE g.b.at_=atE c.b.at_/\iE g.b.spare=iE c.b.spare/\g.b.a.listOk g.r.queue g.l/\∀(h:Unit),True->∃(j:Unit),z7 i.b=z7 g.b/\aa vA (atL i.L (zC aq) i.price)=aa vA g.ords/\True))
def y0o (i:AtI):Prop:=
 ∃(a:Int),a=zC ar/\True/\∀(b:Unit),True->cnd (qW a) (∃(c:Unit),rE i.b.top1/\rE i.b.top2/\rE i.b.has1/\rE i.b.has2/\rE (ag Arena 3 zG i.b.a)/\rE (aa zB i.b.buys)/\rE (aa zB i.b.sells)/\rE (atE i.b.at_)/\rE (iE i.b.spare)/\aa vA (atL i.L (zC ar) i.price)=[]/\True) (∃(c:BkP),2=zC ar/\c.price=i.price/\c.b.top1=i.b.top1/\c.b.top2=i.b.top2/\c.b.has1=i.b.has1/\c.b.has2=i.b.has2/\ag Arena 3 zG c.b.a=ag Arena 3 zG i.b.a/\aa zB c.b.buys=aa zB i.b.buys/\aa zB c.b.sells=aa zB i.b.sells/\atE c.b.at_=atE i.b.at_/\iE c.b.spare=iE i.b.spare/\(qA c)/\∀(d:Unit),True->cnd (!kV 2 (c.b.rungs 2) c.price) (∃(e:Unit),i.b.top1=c.b.top1/\i.b.top2=c.b.top2/\i.b.has1=c.b.has1/\i.b.has2=c.b.has2/\ag Arena 3 zG i.b.a=ag Arena 3 zG c.b.a/\aa zB i.b.buys=aa zB c.b.buys/\aa zB i.b.sells=aa zB c.b.sells/\atE i.b.at_=atE c.b.at_/\iE i.b.spare=iE c.b.spare/\aa vA (atL i.L (zC ar) i.price)=[]/\True) ((gY c)/\∃(e:Int),∃(f:Int),zE (aa zB c.b.sells) (xX c).toNat 0 2=av [dI e,dI f]/\∃(g:BoI),g.s=zC ar/\g.r.price=e/\g.r.queue=f/\g.b.top1=c.b.top1/\g.b.top2=c.b.top2/\g.b.has1=c.b.has1/\g.b.has2=c.b.has2/\ag Arena 3 zG g.b.a=ag Arena 3 zG c.b.a/\aa zB g.b.buys=aa zB c.b.buys/\aa zB g.b.sells=aa zB c.b.sells/\atE g.b.at_=atE c.b.at_/\iE g.b.spare=iE c.b.spare/\g.b.a.listOk g.r.queue g.l/\∀(h:Unit),True->∃(j:Unit),z7 i.b=z7 g.b/\aa vA (atL i.L (zC ar) i.price)=aa vA g.ords/\True))
def rI {L:List zI} (h:(L.map (·.id)).Nodup) {o:zI} (ho:o∈L):dW L o.id=o:=by
 induction L with
 |nil=>cases ho
 |cons x L ih=>
  rw[y5q,y7s]at h;rw[dW,xBe];rcases y5w.1 ho with rfl|ho
  ·rw[y5s rfl];rfl
  ·have:x.id≠o.id:=λe=>h.1 (e▸y6f (f:=(·.id)) ho)
   rw[y5o this];exact ih h.2 ho
def aZ {α β:Type} {f g:α->Option β}:∀{l:List α},(∀x∈l,f x=g x)->l.filterMap f=l.filterMap g
 |[],_=>rfl
 |x::l,h=>by rw[List.filterMap_cons,List.filterMap_cons,h x y5h,aZ λy hy=>h y (y5j _ hy)]
def yXm {L:List zI} {id:Int} (h:wN L id=aq):dW L id=yXt:=by
 rw[dW];have:L.find? (λo=>decide (o.id=id))=aw:=by
  rw[List.find?_eq_none];intro o ho;rw[wN,xBg]at h;exact h o ho
 rw[this];rfl
structure Told (b:Book) (Q:List (List Nat)) (id:Int) (s:Int) (r:xK) (k:Nat):Prop where
 hs:s=1\/s=2
 hr:r∈b.rungs s
 hk:k∈xD Q r
 e:pget b.at_ id=av ⟨s,r.price,k⟩
 ident:(b.a.slotAt k).id=id
 get:dW (b.flat Q) id=wZ b.a s r.price k
 has:wN (b.flat Q) id=ar
def yNk {b:Book} {Q:List (List Nat)} {s:Int} (hs:s=1\/s=2) {r:xK} (hr:r∈b.rungs s) {k:Nat} (hk:k∈xD Q r):wZ b.a s r.price k∈b.flat Q:=
 flat_mem hs (y7v.2 ⟨r,hr,y6f hk⟩)
def Book.Core.told {b:Book} {Q:List (List Nat)} (c:b.Core Q (-1)) (id:Int):(pget b.at_ id=aw/\wN (b.flat Q) id=aq)\/∃s r k,Told b Q id s r k:=by
 cases hg:pget b.at_ id with
 |none=>
  have:=zIq hg;rw[c.keysP.mem_iff,<- hasId_iff]at this;exact .inl ⟨rfl,by simpa using this⟩
 |some x=>
  obtain⟨k,r,hs,hr,hk,hx,hid⟩:=c.plcI (eD hg);have hm:=yNk hs hr hk;have hget:=rI c.ids hm;have e:(wZ b.a x.side r.price k).id=id:=hid;rw[e]at hget;exact .inr ⟨x.side,r,k,hs,hr,hk,by rw[hg];exact congrArg av hx,hid,hget,hasId_iff.2 (by rw[<- e];exact y6f hm)⟩
def Told.only {b:Book} {Q:List (List Nat)} (c:b.Core Q (-1)) {id s:Int} {r:xK} {k:Nat} (h:Told b Q id s r k) {s':Int} (hs':s'=1\/s'=2) {r':xK} (hr':r'∈b.rungs s') {j:Nat} (hj:j∈xD Q r'):(b.a.slotAt j).id=id↔j=k:=by
 constructor
 ·intro e;have h1:=c.plc hs' hr' hj;have h2:=c.plc h.hs h.hr h.hk;rw[e]at h1;rw[h.ident]at h2;have:=congrArg Place.slot (zLi c.keys h1 h2);dsimp only at this;omega
 ·rintro rfl;exact h.ident
def Book.Core.less {b:Book} {Q:List (List Nat)} (c:b.Core Q (-1)) (ht:b.Tops (b.flat Q)) {id s:Int} {r:xK} {k:Nat} (h:Told b Q id s r k) {q:Int} (hq:1<=q/\q<(b.a.slotAt k).qty):
 (b.a.takeF k q).2=0/\({b with a:=(b.a.takeF k q).1}:Book).Rep (uW (b.flat Q) id q)/\(b.a.takeF k q).1.slots.length=250/\(b.a.takeF k q).1.getF k=((((b.a.takeF k q).1.slotAt k)).ent,ar)/\((b.a.takeF k q).1.slotAt k).id=id:=by
 obtain⟨t1,t2,t3⟩:=c.wf.take (c.get h.hs h.hr) h.hk (q:=q) ⟨hq.1,oM⟩;rw[y5b (by omega)]at t3;obtain⟨w,t4,t5⟩:=t3;have hent:∀j,((b.a.takeF k q).1.slotAt j).ent=if j=k then{(b.a.slotAt k).ent with qty:=(b.a.slotAt k).qty-q}else(b.a.slotAt j).ent:=by
  intro j;split
  ·rename_i e;rw[e,t4];rfl
  ·rename_i e;exact(t2 j e).1
 have hid:∀j,((b.a.takeF k q).1.slotAt j).id=(b.a.slotAt j).id:=by
  intro j;have:=congrArg Ent.id (hent j);split at this
  ·rename_i e;rw[e]at this ⊢;exact this
  ·exact this
 have hflat:({b with a:=(b.a.takeF k q).1}:Book).flat Q=uW (b.flat Q) id q:=by
  have side:∀s',s'=1\/s'=2->({b with a:=(b.a.takeF k q).1}:Book).sideL Q s'=uW (b.sideL Q s') id q:=by
   intro s' hs';rw[uW,Book.sideL,Book.sideL,List.filterMap_flatMap];refine xE λr' hr'=> ?_
   rw[Book.rOrds,Book.rOrds,List.filterMap_map];have:(xD Q r').filterMap (λj=>av (wZ (b.a.takeF k q).1 s' r'.price j))=(xD Q r').map (wZ (b.a.takeF k q).1 s' r'.price):=by rw[<- List.filterMap_eq_map];rfl
   refine this.symm.trans (aZ λj hj=> ?_);simp only[Function.comp,wZ,yHq,hent];have hon:=h.only c hs' hr' hj;by_cases e:j=k
   ·subst e;rw[y5d rfl];refine((y5d (show(b.a.slotAt j).ent.id=id from h.ident)).trans (y5b λe=> ?_)).symm;have e:(b.a.slotAt j).qty=q:=e;omega
   ·rw[y5b e];exact(y5b (λe2=>e (hon.1 e2))).symm
  rw[Book.flat,side 1 (.inl rfl),side 2 (.inr rfl),Book.flat,uW,uW,uW,List.filterMap_append]
 have hu:(b.a.takeF k q).1.usedAt k=ar:=by
  obtain⟨hk2,⟨_,_,h2⟩,h3⟩:=w.toWf0.mem (c.get h.hs h.hr) h.hk;have hlt:=w.len;simp only[Arena.usedAt,y5p,y6p,y5u];exact⟨oM,oM,h2.used⟩
 refine⟨t1,⟨Q,c.flag w hid,⟨λo ho=> ?_,λs' hs' hh=> ?_⟩,hflat.symm⟩,w.len,by rw[Arena.getF,y5d hu,y5u],by rw[hid,h.ident]⟩
 ·obtain⟨o',ho',e⟩:=xAi.1 ho;have:=ht.fl o' ho';split at e
  ·split at e
   ·cases e
   ·cases e;exact this
  ·cases e;exact this
 ·obtain⟨o,ho,o1,o2⟩:=ht.th s' hs' hh;by_cases e:o.id=id
  ·refine⟨{o with qty:=o.qty-q},xAi.2 ⟨o,ho,?_⟩,o1,o2⟩;have hg:=rI c.ids ho;rw[e,h.get]at hg;rw[y5d e,y5b (λe2=>by
    rw[<- hg]at e2;have:(b.a.slotAt k).qty=q:=e2;omega)]
  ·exact⟨o,xAi.2 ⟨o,ho,y5b e⟩,o1,o2⟩
def z8p:∀{l:List (Int×Place)} {k:Int},(l.map (·.1)).Nodup->nF k l=l.filter λx=> !decide (x.1=k)
 |[],k,_=>rfl
 |(a,b)::l,k,h=>by
  rw[y5q,y7s]at h;rw[nF];by_cases e:k=a
  ·subst e;rw[y5d rfl,xAa (by simp)];symm;rw[xAu];intro x hx;have:x.1≠k:=λe=>h.1 (e▸y6f (f:=(·.1)) hx)
   simp[this]
  ·rw[y5b e,y9z (by simp[Ne.symm e]),z8p h.2]
def zFi {l:List Nat} (h:l.Nodup) (k:Nat):l.erase k=l.filter λj=> !decide (j=k):=by
 rw[h.erase_eq_filter];refine List.filter_congr λj _=> ?_
 simp[bne,BEq.beq]
def yFd {s:Int} {l:List xK} (hs:l.Pairwise λr r'=>btr s r.price r'.price=ar) {R1 R2:List xK} {r:xK} (hl:l=R1++r::R2):zY s l r.price=R1.length:=by
 subst hl;rw[List.pairwise_append]at hs;refine nJ (by simp) (λk hk x hx=> ?_) (λx hx=> ?_)
 ·rw[y7w hk]at hx;exact hs.2.2 x (y5m hx) r y5h
 ·rw[y7f (y5x _),xAp]at hx;cases hx;exact zAr _ _
def yDq (b:Book) (id:Int) {s:Int} (hs:s=1\/s=2):(b.unhas s id).a=b.a/\(b.unhas s id).buys=b.buys/\(b.unhas s id).sells=b.sells/\(b.unhas s id).spare=b.spare/\∀s',s'=1\/s'=2->(b.unhas s id).topI s'=b.topI s'/\(b.unhas s id).hasF s'=if s'=s/\b.topI s=id then aq else b.hasF s':=by
 rw[Book.unhas];by_cases hc:b.hasF s=ar/\b.topI s=id
 ·rw[y5d hc];rcases hs with rfl|rfl
  ·exact(rF4 (λs' h=>by rcases h with rfl|rfl;exact⟨rfl,(y5d ⟨rfl,hc.2⟩).symm⟩;exact⟨rfl,(y5b (λe=>absurd e.1 Z8)).symm⟩))
  ·exact(rF4 (λs' h=>by rcases h with rfl|rfl;exact⟨rfl,(y5b (λe=>absurd e.1 Z8)).symm⟩;exact⟨rfl,(y5d ⟨rfl,hc.2⟩).symm⟩))
 ·rw[y5b hc];refine(rF4 (λs' h=>⟨rfl,?_⟩));split
  ·rename_i e;rw[e.1];cases hh:b.hasF s with
   |false=>rfl
   |true=>exact absurd ⟨hh,e.2⟩ hc
  ·rfl
def Book.Core.close {b:Book} {Q:List (List Nat)} {s:Int} (hs:s=1\/s=2) {r:xK} {R1 R2:List xK} (hr:b.rungs s=R1++r::R2) (c:b.Core Q r.queue) (he:xD Q r=[]) {b':Book} (hb:b'=({b with spare:=b.spare++[r.queue]}:Book).setR s (R1++R2)):
 b'.Core Q (-1)/\b'.flat Q=b.flat Q:=by
 obtain⟨g1,g2⟩:=zLq ({b with spare:=b.spare++[r.queue]}:Book) hs (R1++R2);rw[<- hb]at g1 g2;have ha:b'.a=b.a:=by rw[hb];rcases hs with rfl|rfl<;>rfl
 have hat:b'.at_=b.at_:=by rw[hb];rcases hs with rfl|rfl<;>rfl
 have hsp:b'.spare=b.spare++[r.queue]:=by rw[hb];rcases hs with rfl|rfl<;>rfl
 have hqs:b'.qs.Perm b.qs:=by
  rw[hb];rcases hs with rfl|rfl
  ·have hr:b.buys=R1++r::R2:=hr;show((R1++R2).map (·.queue)++b.sells.map (·.queue)++(b.spare++[r.queue])).Perm (b.buys.map (·.queue)++b.sells.map (·.queue)++b.spare);rw[hr,<- y5i];refine(y9n _ _).trans ?_;simp only[y5l,y5q,y5i,y6t];exact y5r.symm
  ·have hr:b.sells=R1++r::R2:=hr;show(b.buys.map (·.queue)++(R1++R2).map (·.queue)++(b.spare++[r.queue])).Perm (b.buys.map (·.queue)++b.sells.map (·.queue)++b.spare);rw[hr,<- y5i];refine(y9n _ _).trans ?_;simp only[y5l,y5q,y5i,y6t];refine .trans ?_ (List.Perm.append_left _ y5r.symm);exact y5r.symm
 have hside:∀s',s'=1\/s'=2->b'.sideL Q s'=b.sideL Q s':=by
  intro s' hs';have ho:∀x,b'.rOrds Q s' x=b.rOrds Q s' x:=λx=>by rw[Book.rOrds,Book.rOrds,ha]
  rw[Book.sideL,Book.sideL];by_cases e:s'=s
  ·subst e;rw[g1,hr,y7a,y7a,y6w,xE (λx _=>ho x),xE (l:=R2) (λx _=>ho x)];rw[show b.rOrds Q s' r=[]by rw[Book.rOrds,he];rfl,y7r]
  ·rw[g2 s' e hs'];exact xE λx _=>ho x
 have hplc:∀s',s'=1\/s'=2->b'.plcs Q s'=b.plcs Q s':=by
  intro s' hs';rw[Book.plcs,Book.plcs,ha];by_cases e:s'=s
  ·subst e;rw[g1,hr,y7a,y7a,y6w,he,y8t,y7r]
  ·rw[g2 s' e hs'];rfl
 have hflat:b'.flat Q=b.flat Q:=by rw[Book.flat,Book.flat,hside 1 (.inl rfl),hside 2 (.inr rfl)]
 have hnd:=hqs.nodup_iff.2 c.nd;have hmid:r.queue∉(R1++R2).map (·.queue):=by
  intro hm;have h1:r.queue∈(b'.rungs s).map (·.queue):=by rw[g1];exact hm
  rw[Book.qs]at hnd;have h2:=(y7m.1 hnd).2.2 r.queue (by
   rcases hs with rfl|rfl
   ·exact y6u _ h1
   ·exact y6x _ h1) r.queue (by rw[hsp];simp)
  exact h2 rfl
 refine⟨⟨by rw[ha];exact c.wf,λs' hs'=> ?_,λq hq=>c.rng q (hqs.mem_iff.1 hq),hnd,by rw[hqs.length_eq];exact c.ql,λs' hs' x hx _=> ?_,λq hq=> ?_,by rw[hat,hplc 1 (.inl rfl),hplc 2 (.inr rfl)];exact c.at_,by rw[hflat];exact c.ids,c.qb⟩,hflat⟩
 ·by_cases e:s'=s
  ·subst e;have:=c.srt s' hs';rw[hr]at this;rw[g1];exact this.sublist (List.Sublist.append_left (List.sublist_cons_self _ _) _)
  ·rw[g2 s' e hs'];exact c.srt s' hs'
 ·by_cases e:s'=s
  ·subst e;rw[g1]at hx;refine c.ne s' hs' x (by rw[hr];rcases y6g.1 hx with h|h;exact y6u _ h;exact y6x _ (y5j _ h)) λe2=>hmid (e2▸y6f (f:=(·.queue)) hx)
  ·rw[g2 s' e hs']at hx;refine c.ne s' hs' x hx λe2=> ?_
   have h1:r.queue∈(b'.rungs s').map (·.queue):=by rw[g2 s' e hs',<- e2];exact y6f (f:=(·.queue)) hx
   rw[Book.qs]at hnd;exact(y7m.1 hnd).2.2 r.queue (by
    rcases hs' with rfl|rfl
    ·exact y6u _ h1
    ·exact y6x _ h1) r.queue (by rw[hsp];simp) rfl
 ·rw[hsp]at hq;rcases y6g.1 hq with hq|hq
  ·exact c.sp q hq
  ·rw[y6r.1 hq];exact he
def zRr {L:List zI} (h:(L.map (·.id)).Nodup) {id:Int} (hh:wN L id=ar):uW L id (dW L id).qty=L.filter λo=> !decide (o.id=id):=by
 rw[uW,<- List.filterMap_eq_filter];refine aZ λo ho=> ?_
 by_cases e:o.id=id
 ·have hg:=rI h ho;rw[e]at hg;rw[y5d e,y5d (by rw[hg])];simp[Option.guard,e]
 ·rw[y5b e];simp[Option.guard,e]
def Book.Core.gone {b:Book} {Q:List (List Nat)} (c:b.Core Q (-1)) (ht:b.Tops (b.flat Q)) {id s:Int} {r:xK} {k:Nat} (h:Told b Q id s r k) {q:Int} (hq:1<=q/\q=(b.a.slotAt k).qty):
 (b.a.takeF k q).2=0/\(({b with a:=(b.a.takeF k q).1}:Book).dropF s id r.price).Rep (uW (b.flat Q) id q)/\(b.a.takeF k q).1.slots.length=250/\(b.a.takeF k q).1.queues.length=b.a.queues.length/\((b.a.takeF k q).1.getF k).2=aq/\zY s (b.rungs s) r.price<(b.rungs s).length:=by
 obtain⟨t1,t2,t3⟩:=c.wf.take (c.get h.hs h.hr) h.hk (q:=q) ⟨hq.1,oM⟩;rw[y5d hq.2.symm]at t3;obtain⟨w,t4,t5⟩:=t3;generalize hA:(b.a.takeF k q).1=a1 at*;have hget:=c.get h.hs h.hr;have hnQ:=(y5f.1 hget).1;have hrq:=c.rng _ (uY h.hs h.hr);generalize hQ':Q.set r.queue.toNat ((xD Q r).erase k)=Q' at*;have hQl:Q'.length=Q.length:=by rw[<- hQ',y6j]
 have hnd:(xD Q r).Nodup:=c.wf.nd _ _ hget;have hqd:∀s' (r':xK),(s'=1\/s'=2)->r'∈b.rungs s'->xD Q' r'=(xD Q r').erase k:=by
  intro s' r' hs' hr';by_cases e:r'.queue=r.queue
  ·have e1:xD Q r'=xD Q r:=by rw[xD,xD,e]
   rw[e1,xD,e,<- hQ'];exact zS (fW hnQ)
  ·have h2:xD Q' r'=xD Q r':=by
    have:=c.rng _ (uY hs' hr');rw[xD,xD,y5k,y5k,<- hQ',vU (by omega)]
   rw[h2];symm;refine List.erase_of_not_mem λhk=> ?_
   have:=c.wf.toWf0.one (c.get hs' hr') hget hk h.hk;have:=c.rng _ (uY hs' hr');omega
 have hQo:∀q:Int,0<=q->q≠r.queue->Q'.getD q.toNat []=Q.getD q.toNat []:=by
  intro q h0 hne;rw[<- hQ',y5k,vU (by omega),y5k]
 obtain⟨u1,u2,u3,u4,u5⟩:=yDq ({b with a:=a1}:Book) id h.hs;obtain⟨b1,hb1⟩:∃b1:Book,b1={({b with a:=a1}:Book).unhas s id with at_:=nF id b.at_}:=⟨_,rfl⟩
 have v1:b1.a=a1:=by rw[hb1];exact u1
 have v2:b1.buys=b.buys:=by rw[hb1];exact u2
 have v3:b1.sells=b.sells:=by rw[hb1];exact u3
 have v4:b1.spare=b.spare:=by rw[hb1];exact u4
 have v5:b1.at_=nF id b.at_:=by rw[hb1]
 have v6:∀s',s'=1\/s'=2->b1.topI s'=b.topI s'/\b1.hasF s'=if s'=s/\b.topI s=id then aq else b.hasF s':=by
  intro s' hs';rw[hb1];exact u5 s' hs'
 have vr:∀s',b1.rungs s'=b.rungs s':=by intro s';rw[Book.rungs,Book.rungs,v2,v3]
 have vq:b1.qs=b.qs:=by rw[Book.qs,Book.qs,v2,v3,v4]
 have hord:∀s',s'=1\/s'=2->b1.sideL Q' s'=(b.sideL Q s').filter (λo=> !decide (o.id=id))/\b1.plcs Q' s'=(b.plcs Q s').filter λx=> !decide (x.1=id):=by
  intro s' hs';rw[Book.sideL,Book.sideL,Book.plcs,Book.plcs,vr,List.filter_flatMap,List.filter_flatMap];have key:∀r'∈b.rungs s',∀j∈xD Q r',((b.a.slotAt j).id=id↔j=k)/\(j≠k->wZ a1 s' r'.price j=wZ b.a s' r'.price j/\vL a1 s' r'.price j=vL b.a s' r'.price j):=by
   intro r' hr' j hj;refine⟨h.only c hs' hr' hj,λe=> ?_⟩;have:=(t2 j e).1;refine⟨by rw[wZ,wZ,this],?_⟩;have:=congrArg Ent.id this;rw[vL,vL];exact congrArg (λi=>(i,(⟨s',r'.price,j⟩:Place))) this
  refine⟨xE λr' hr'=> ?_,xE λr' hr'=> ?_⟩
  ·rw[Book.rOrds,Book.rOrds,hqd s' r' hs' hr',zFi (c.wf.nd _ _ (c.get hs' hr')),List.filter_map,v1];have e1:(xD Q r').filter ((λo:zI=> !decide (o.id=id))∘wZ b.a s' r'.price)=(xD Q r').filter λj=> !decide (j=k):=by
    refine List.filter_congr λj hj=> ?_
    show(!decide ((b.a.slotAt j).id=id))=_;rw[decide_eq_decide.2 (key r' hr' j hj).1]
   rw[e1];refine y6l λj hj=> ?_
   rw[y7b]at hj;exact((key r' hr' j hj.1).2 (by simpa using hj.2)).1
  ·rw[hqd s' r' hs' hr',zFi (c.wf.nd _ _ (c.get hs' hr')),List.filter_map,v1];have e1:(xD Q r').filter ((λx:Int×Place=> !decide (x.1=id))∘vL b.a s' r'.price)=(xD Q r').filter λj=> !decide (j=k):=by
    refine List.filter_congr λj hj=> ?_
    show(!decide ((b.a.slotAt j).id=id))=_;rw[decide_eq_decide.2 (key r' hr' j hj).1]
   rw[e1];refine y6l λj hj=> ?_
   rw[y7b]at hj;exact((key r' hr' j hj.1).2 (by simpa using hj.2)).2
 have hflat:b1.flat Q'=(b.flat Q).filter λo=> !decide (o.id=id):=by
  rw[Book.flat,(hord 1 (.inl rfl)).1,(hord 2 (.inr rfl)).1,Book.flat,y9e]
 have hat:b1.at_.Perm (b1.plcs Q' 1++b1.plcs Q' 2):=by
  rw[v5,z8p c.keys,(hord 1 (.inl rfl)).2,(hord 2 (.inr rfl)).2,<- y9e];exact c.at_.filter _
 have hold:∀s' (r':xK),(s'=1\/s'=2)->r'∈b.rungs s'->xD Q r'≠[]:=λs' r' hs' hr'=>c.ne s' hs' r' hr' λe=>by
  have:=c.rng _ (uY hs' hr');omega
 have c1:b1.Core Q' r.queue:=by
  refine⟨by rw[v1];exact w,λs' hs'=>by rw[vr];exact c.srt s' hs',by rw[vq,hQl];exact c.rng,by rw[vq];exact c.nd,by rw[vq,hQl];exact c.ql,λs' hs' r' hr' hne=> ?_,λq hq=> ?_,hat,?_,by rw[hQl];exact c.qb⟩
  ·rw[vr]at hr';have e:=hQo r'.queue (c.rng _ (uY hs' hr')).1 hne;rw[xD,e];exact hold s' r' hs' hr'
  ·rw[v4]at hq;have hqq:q∈b.qs:=y6x _ hq;rw[hQo q (c.rng q hqq).1 λe=> ?_]
   ·exact c.sp q hq
   ·have hcn:=c.nd;rw[Book.qs]at hcn;refine(y7m.1 hcn).2.2 r.queue ?_ q hq e.symm;rcases h.hs with rfl|rfl
    ·exact y6u _ (y6f (f:=(·.queue)) h.hr)
    ·exact y6x _ (y6f (f:=(·.queue)) h.hr)
  ·rw[hflat];exact c.ids.sublist (List.Sublist.map _ xAv)
 have htk:uW (b.flat Q) id q=b1.flat Q':=by
  rw[hflat,<- zRr c.ids h.has,h.get,hq.2];rfl
 have hm1:∀o,o∈b1.flat Q'↔o∈b.flat Q/\o.id≠id:=by
  intro o;rw[hflat,y7b];simp
 have ht1:∀b2:Book,(∀x,b2.hasF x=b1.hasF x/\b2.topI x=b1.topI x)->b2.Tops (b1.flat Q'):=by
  intro b2 hb2;refine⟨λo ho=> ?_,λs' hs' hh=> ?_⟩
  ·rw[(hb2 _).1,(hb2 _).2];obtain⟨ho,hne⟩:=(hm1 o).1 ho;have hs':=(nP ho).1;rw[(v6 _ hs').1,(v6 _ hs').2,ht.fl o ho];split
   ·rename_i e;rw[e.1,e.2,y5o hne,xAf,xAf]
   ·rfl
  ·rw[(hb2 _).1,(v6 s' hs').2]at hh;rw[(hb2 _).2,(v6 s' hs').1];split at hh
   ·cases hh
   ·rename_i e;obtain⟨o,ho,o1,o2⟩:=ht.th s' hs' hh;refine⟨o,(hm1 o).2 ⟨ho,λe2=>e ?_⟩,o1,o2⟩;have hg:=rI c.ids ho;rw[e2,h.get]at hg;have hsd:s'=s:=by rw[<- o1,<- hg];rfl
    exact⟨hsd,by rw[<- hsd,<- o2,e2]⟩
 obtain⟨R1,R2,hsplit⟩:=List.append_of_mem h.hr;have hfn:=yFd (c.srt s h.hs) hsplit;have hgd:(b.rungs s).getD (zY s (b.rungs s) r.price) ⟨0,0⟩=r:=by
  rw[hfn,hsplit];refine zS ?_;rw[y7f (y5x _),xAp];rfl
 have hfl:zY s (b.rungs s) r.price<(b.rungs s).length:=by rw[hfn,hsplit];simp
 have hQr:Q'[r.queue.toNat]? =av ((xD Q r).erase k):=by rw[<- hQ'];exact fW hnQ
 have hcount:(a1.qAt r.queue).count=((xD Q r).erase k).length:=by
  have:=w.q _ _ hQr;have hql:=w.ql;rw[zVw hrq.1 this]
 have er:xD Q' r=(xD Q r).erase k:=zS hQr;have hru:({b with a:=a1}:Book).rungs s=b.rungs s:=rfl;have hus:(a1.getF k).2=aq:=by
  have:a1.usedAt k=aq:=by
   have e:a1.slotAt k=slot0:=t4;rw[Arena.slotAt]at e;rw[Arena.usedAt,y5u,e];simp[slot0]
  rw[Arena.getF,y5b (by rw[this];decide)]
 refine⟨t1,?_,w.len,by rw[w.ql,c.wf.ql,hQl],hus,hfl⟩;rw[Book.dropF,hru,hgd];by_cases hz:(a1.qAt r.queue).count=0
 ·rw[y5d hz];have he:xD Q' r=[]:=by
   rw[er];refine y6c ?_;omega
  obtain⟨k1,k2⟩:=Book.Core.close h.hs (by rw[vr];exact hsplit) c1 he rfl;have ebk:(({({b with a:=a1}:Book).unhas s id with at_:=nF id b.at_,spare:=b.spare++[r.queue]}:Book).setR s ((b.rungs s).take (zY s (b.rungs s) r.price)++(b.rungs s).drop (zY s (b.rungs s) r.price+1)))=(({b1 with spare:=b1.spare++[r.queue]}:Book).setR s (R1++R2)):=by
   have e1:(b.rungs s).take (zY s (b.rungs s) r.price)++(b.rungs s).drop (zY s (b.rungs s) r.price+1)=R1++R2:=by
    rw[hfn,hsplit,xBh];congr 1;rw[xAe,y8j (by omega),Nat.add_sub_cancel_left];rfl
   rw[e1,v4,hb1]
  refine⟨Q',?_,?_,?_⟩
  ·exact ebk▸k1
  ·rw[htk];refine ht1 _ λx=> ?_
   show(Book.hasF (({({b with a:=a1}:Book).unhas s id with at_:=nF id b.at_,spare:=b.spare++[r.queue]}:Book).setR s ((b.rungs s).take (zY s (b.rungs s) r.price)++(b.rungs s).drop (zY s (b.rungs s) r.price+1))) x=_/\Book.topI (({({b with a:=a1}:Book).unhas s id with at_:=nF id b.at_,spare:=b.spare++[r.queue]}:Book).setR s ((b.rungs s).take (zY s (b.rungs s) r.price)++(b.rungs s).drop (zY s (b.rungs s) r.price+1))) x=_);rw[ebk];rcases h.hs with rfl|rfl<;>exact⟨rfl,rfl⟩
  ·rw[htk];show _=Book.flat (({({b with a:=a1}:Book).unhas s id with at_:=nF id b.at_,spare:=b.spare++[r.queue]}:Book).setR s ((b.rungs s).take (zY s (b.rungs s) r.price)++(b.rungs s).drop (zY s (b.rungs s) r.price+1))) Q';rw[ebk];exact k2.symm
 ·rw[y5b hz];have c2:b1.Core Q' (-1):=⟨c1.wf,c1.srt,c1.rng,c1.nd,c1.ql,λs' hs' r' hr' _=>by
   by_cases e:r'.queue=r.queue
   ·rw[xD,e];intro e2;rw[xD]at er;rw[er]at e2;rw[hcount,e2]at hz;exact hz rfl
   ·exact c1.ne s' hs' r' hr' e,c1.sp,c1.at_,c1.ids,c1.qb⟩
  have hh:({({b with a:=a1}:Book).unhas s id with at_:=nF id b.at_}:Book)=b1:=hb1.symm;show Book.Rep {({b with a:=a1}:Book).unhas s id with at_:=nF id b.at_} _;rw[hh,htk];exact⟨Q',c2,ht1 b1 λ_=>⟨rfl,rfl⟩,rfl⟩
def tG (k:Int):∀l,zBn (ax au k) (atE l)=atE (nF k l)
 |[]=>rfl
 |(a,b)::l=>by
  have ih:=tG k l;show(bif (keq .i64 .i64 && decide (k=a))then atE l else _::zBn _ (atE l))=_;rw[ih,nF];by_cases h:k=a
  ·subst h;simp[keq]
  ·simp[h,atE]
def z6r:delRC.ok Tryz.prog 271:=
 delX_ok mixed Tryz.func271 rfl (by kernel_rfl) (by kernel_rfl) (by kernel_rfl) (by kernel_rfl) zIy rfl Z8 (λs sn sk i j w R=>by kernel_rfl)
def dup {X:Prop} {n:Int} (h:X):X/\n=n/\True/\X:=⟨h,rfl,trivial,h⟩
def Book.Core.small {b:Book} {Q:List (List Nat)} (c:b.Core Q (-1)):b.small:=by
 have hq:=c.qb;have h1:=c.ql;have h2:=c.wf.ql;have h3:=c.wf.len;rw[Book.qs,y5a,y5a,y5c,y5c]at h1;exact⟨⟨oM,oM⟩,oM,oM,oM⟩
def yTa (i:DrI) (h:drop1C.cnd i):yJa i:=by
 obtain⟨hsm,hn⟩:i.ok 1:=h;obtain⟨⟨ha1,ha2⟩,hb1,hb2,hsp⟩:=id hsm;have hn:zY 1 i.b.buys i.price<i.b.buys.length:=hn;obtain⟨r,hr⟩:=yE (l:=i.b.buys) hn;have hgd:((i.b.rungs 1).getD (zY 1 (i.b.rungs 1) i.price) ⟨0,0⟩)=r:=zS hr;have hw:∀k:Int,au.wrap ((zY 1 (i.b.rungs 1) i.price:Int)+1)=((zY 1 (i.b.rungs 1) i.price+1:Nat):Int):=λ_=>by
  have:=zFp 1 i.price (i.b.rungs 1);have hl:(i.b.rungs 1).length<=1000000:=by show i.b.buys.length<=_;omega
  rw[w64 (by omega)];rfl
 have hn2:((zY 1 (i.b.rungs 1) i.price:Nat):Int)<((aa zB i.b.buys).length:Int):=by
  rw[y5c];show((zY 1 i.b.buys i.price:Nat):Int)<_;omega
 unfold yJa zId zIo gR vY qA xW xC dI;refine⟨j0 _ _,Cv.cnd.mk (λc1=>Cv.cnd.mk (λc2=> ?_) (λc2=> ?_)) (λc1=> ?_)⟩
 ·have c2:i.b.top1=i.id:=by simpa using c2
  have hu:i.b.unhas 1 i.id={i.b with has1:=aq}:=by rw[Book.unhas,y5d ⟨c1,c2⟩];rfl
  refine⟨⟨{i.b with has1:=aq,at_:=nF i.id i.b.at_},i.price⟩,rF6 (rF3 ⟨(tG _ _).symm,rfl,hsm,λ_ _=>⟨⟨oM,hn2⟩,r.queue,elA hr (by simp[zB]) rfl,⟨i.b.a,r.queue⟩,rfl,rfl,trivial,λ_ _=>Cv.cnd.mk (λe=>⟨by simp only[y3];omega,⟨i.b.buys.map zB,zY 1 (i.b.rungs 1) i.price,zY 1 (i.b.rungs 1) i.price+1⟩,rfl,(hw 0).symm,rfl,⟨xAh _,by rw[y5c];exact hn⟩,λ_ _=>⟨rfl,(),?_⟩⟩) (λe=>⟨(),?_⟩)⟩⟩)⟩
  ·have e:(i.b.a.qAt r.queue).count=0:=by simpa using e
   rw[Book.dropF,hgd,y5d e,hu];refine(rF6 ⟨?_,rfl,?_,trivial⟩)
   ·show aa zB (i.b.buys.take _++i.b.buys.drop _)=_;rw[y5l,y9m,xAm]
   ·show iE (i.b.spare++[r.queue])=_;simp[iE]
  ·have e:¬(i.b.a.qAt r.queue).count=0:=by simpa using e
   rw[Book.dropF,hgd,y5b e,hu];exact(rF6 (rF3 trivial))
 ·have c2:¬i.b.top1=i.id:=by simpa using c2
  have hu:i.b.unhas 1 i.id={i.b with has1:=i.b.has1}:=by rw[Book.unhas,y5b (λe=>c2 e.2)]
  refine⟨⟨{i.b with has1:=i.b.has1,at_:=nF i.id i.b.at_},i.price⟩,rF6 (rF3 ⟨(tG _ _).symm,rfl,hsm,λ_ _=>⟨⟨oM,hn2⟩,r.queue,elA hr (by simp[zB]) rfl,⟨i.b.a,r.queue⟩,rfl,rfl,trivial,λ_ _=>Cv.cnd.mk (λe=>⟨by simp only[y3];omega,⟨i.b.buys.map zB,zY 1 (i.b.rungs 1) i.price,zY 1 (i.b.rungs 1) i.price+1⟩,rfl,(hw 0).symm,rfl,⟨xAh _,by rw[y5c];exact hn⟩,λ_ _=>⟨rfl,(),?_⟩⟩) (λe=>⟨(),?_⟩)⟩⟩)⟩
  ·have e:(i.b.a.qAt r.queue).count=0:=by simpa using e
   rw[Book.dropF,hgd,y5d e,hu];refine(rF6 ⟨?_,rfl,?_,trivial⟩)
   ·show aa zB (i.b.buys.take _++i.b.buys.drop _)=_;rw[y5l,y9m,xAm]
   ·show iE (i.b.spare++[r.queue])=_;simp[iE]
  ·have e:¬(i.b.a.qAt r.queue).count=0:=by simpa using e
   rw[Book.dropF,hgd,y5b e,hu];exact(rF6 (rF3 trivial))
 ·have hu:i.b.unhas 1 i.id={i.b with has1:=i.b.has1}:=by
   rw[Book.unhas,y5b];rintro⟨e,_⟩;exact absurd (show i.b.has1=ar from e) (by rw[c1];decide)
  refine⟨⟨{i.b with has1:=i.b.has1,at_:=nF i.id i.b.at_},i.price⟩,rF6 (rF3 ⟨(tG _ _).symm,rfl,hsm,λ_ _=>⟨⟨oM,hn2⟩,r.queue,elA hr (by simp[zB]) rfl,⟨i.b.a,r.queue⟩,rfl,rfl,trivial,λ_ _=>Cv.cnd.mk (λe=>⟨by simp only[y3];omega,⟨i.b.buys.map zB,zY 1 (i.b.rungs 1) i.price,zY 1 (i.b.rungs 1) i.price+1⟩,rfl,(hw 0).symm,rfl,⟨xAh _,by rw[y5c];exact hn⟩,λ_ _=>⟨rfl,(),?_⟩⟩) (λe=>⟨(),?_⟩)⟩⟩)⟩
  ·have e:(i.b.a.qAt r.queue).count=0:=by simpa using e
   rw[Book.dropF,hgd,y5d e,hu];refine(rF6 ⟨?_,rfl,?_,trivial⟩)
   ·show aa zB (i.b.buys.take _++i.b.buys.drop _)=_;rw[y5l,y9m,xAm]
   ·show iE (i.b.spare++[r.queue])=_;simp[iE]
  ·have e:¬(i.b.a.qAt r.queue).count=0:=by simpa using e
   rw[Book.dropF,hgd,y5b e,hu];exact(rF6 (rF3 trivial))
def yFk:drop1C.ok Tryz.prog 243:=okw mixed (gokc zMd (gokc nY (gokc z6r gok0))) 0 (λ_=>[]) (λ_=>[]) [] Tryz.func243 yTa
def ySu (i:DrI) (h:drop2C.cnd i):yCz i:=by
 obtain⟨hsm,hn⟩:i.ok 2:=h;obtain⟨⟨ha1,ha2⟩,hb1,hb2,hsp⟩:=id hsm;have hn:zY 2 i.b.sells i.price<i.b.sells.length:=hn;obtain⟨r,hr⟩:=yE (l:=i.b.sells) hn;have hgd:((i.b.rungs 2).getD (zY 2 (i.b.rungs 2) i.price) ⟨0,0⟩)=r:=zS hr;have hw:∀k:Int,au.wrap ((zY 2 (i.b.rungs 2) i.price:Int)+1)=((zY 2 (i.b.rungs 2) i.price+1:Nat):Int):=λ_=>by
  have:=zFp 2 i.price (i.b.rungs 2);have hl:(i.b.rungs 2).length<=1000000:=by show i.b.sells.length<=_;omega
  rw[w64 (by omega)];rfl
 have hn2:((zY 2 (i.b.rungs 2) i.price:Nat):Int)<((aa zB i.b.sells).length:Int):=by
  rw[y5c];show((zY 2 i.b.sells i.price:Nat):Int)<_;omega
 unfold yCz zJf zGq gY vS qA xX xB dI;refine⟨j0 _ _,Cv.cnd.mk (λc1=>Cv.cnd.mk (λc2=> ?_) (λc2=> ?_)) (λc1=> ?_)⟩
 ·have c2:i.b.top2=i.id:=by simpa using c2
  have hu:i.b.unhas 2 i.id={i.b with has2:=aq}:=by rw[Book.unhas,y5d ⟨c1,c2⟩];rfl
  refine⟨⟨{i.b with has2:=aq,at_:=nF i.id i.b.at_},i.price⟩,rF6 (rF3 ⟨(tG _ _).symm,rfl,hsm,λ_ _=>⟨⟨oM,hn2⟩,r.queue,elA hr (by simp[zB]) rfl,⟨i.b.a,r.queue⟩,rfl,rfl,trivial,λ_ _=>Cv.cnd.mk (λe=>⟨by simp only[y3];omega,⟨i.b.sells.map zB,zY 2 (i.b.rungs 2) i.price,zY 2 (i.b.rungs 2) i.price+1⟩,rfl,(hw 0).symm,rfl,⟨xAh _,by rw[y5c];exact hn⟩,λ_ _=>⟨rfl,(),?_⟩⟩) (λe=>⟨(),?_⟩)⟩⟩)⟩
  ·have e:(i.b.a.qAt r.queue).count=0:=by simpa using e
   rw[Book.dropF,hgd,y5d e,hu];refine(rF7 ⟨?_,?_,trivial⟩)
   ·show aa zB (i.b.sells.take _++i.b.sells.drop _)=_;rw[y5l,y9m,xAm]
   ·show iE (i.b.spare++[r.queue])=_;simp[iE]
  ·have e:¬(i.b.a.qAt r.queue).count=0:=by simpa using e
   rw[Book.dropF,hgd,y5b e,hu];exact(rF6 (rF3 trivial))
 ·have c2:¬i.b.top2=i.id:=by simpa using c2
  have hu:i.b.unhas 2 i.id={i.b with has2:=i.b.has2}:=by rw[Book.unhas,y5b (λe=>c2 e.2)]
  refine⟨⟨{i.b with has2:=i.b.has2,at_:=nF i.id i.b.at_},i.price⟩,rF6 (rF3 ⟨(tG _ _).symm,rfl,hsm,λ_ _=>⟨⟨oM,hn2⟩,r.queue,elA hr (by simp[zB]) rfl,⟨i.b.a,r.queue⟩,rfl,rfl,trivial,λ_ _=>Cv.cnd.mk (λe=>⟨by simp only[y3];omega,⟨i.b.sells.map zB,zY 2 (i.b.rungs 2) i.price,zY 2 (i.b.rungs 2) i.price+1⟩,rfl,(hw 0).symm,rfl,⟨xAh _,by rw[y5c];exact hn⟩,λ_ _=>⟨rfl,(),?_⟩⟩) (λe=>⟨(),?_⟩)⟩⟩)⟩
  ·have e:(i.b.a.qAt r.queue).count=0:=by simpa using e
   rw[Book.dropF,hgd,y5d e,hu];refine(rF7 ⟨?_,?_,trivial⟩)
   ·show aa zB (i.b.sells.take _++i.b.sells.drop _)=_;rw[y5l,y9m,xAm]
   ·show iE (i.b.spare++[r.queue])=_;simp[iE]
  ·have e:¬(i.b.a.qAt r.queue).count=0:=by simpa using e
   rw[Book.dropF,hgd,y5b e,hu];exact(rF6 (rF3 trivial))
 ·have hu:i.b.unhas 2 i.id={i.b with has2:=i.b.has2}:=by
   rw[Book.unhas,y5b];rintro⟨e,_⟩;exact absurd (show i.b.has2=ar from e) (by rw[c1];decide)
  refine⟨⟨{i.b with has2:=i.b.has2,at_:=nF i.id i.b.at_},i.price⟩,rF6 (rF3 ⟨(tG _ _).symm,rfl,hsm,λ_ _=>⟨⟨oM,hn2⟩,r.queue,elA hr (by simp[zB]) rfl,⟨i.b.a,r.queue⟩,rfl,rfl,trivial,λ_ _=>Cv.cnd.mk (λe=>⟨by simp only[y3];omega,⟨i.b.sells.map zB,zY 2 (i.b.rungs 2) i.price,zY 2 (i.b.rungs 2) i.price+1⟩,rfl,(hw 0).symm,rfl,⟨xAh _,by rw[y5c];exact hn⟩,λ_ _=>⟨rfl,(),?_⟩⟩) (λe=>⟨(),?_⟩)⟩⟩)⟩
  ·have e:(i.b.a.qAt r.queue).count=0:=by simpa using e
   rw[Book.dropF,hgd,y5d e,hu];refine(rF7 ⟨?_,?_,trivial⟩)
   ·show aa zB (i.b.sells.take _++i.b.sells.drop _)=_;rw[y5l,y9m,xAm]
   ·show iE (i.b.spare++[r.queue])=_;simp[iE]
  ·have e:¬(i.b.a.qAt r.queue).count=0:=by simpa using e
   rw[Book.dropF,hgd,y5b e,hu];exact(rF6 (rF3 trivial))
def yDm:drop2C.ok Tryz.prog 243:=okw mixed (gokc zPf (gokc nY (gokc z6r gok0))) 0 (λ_=>[]) (λ_=>[]) [] Tryz.func243 ySu
def yOt:dropC.ok Tryz.prog 243:=λj=>match j with
 |⟨i,aq⟩=>yFk i
 |⟨i,ar⟩=>yDm i
def yOo {a:Arena} {k:Nat} {p t:Int} {m:Nat} (h:zUg (a.slotAt k) m k p t) (hl:k<a.slots.length):a.getF k=((a.slotAt k).ent,ar):=by
 have:a.usedAt k=ar:=by
  simp only[Arena.usedAt,y5p,y6p,y5u];exact⟨oM,oM,h.used⟩
 rw[Arena.getF,y5d this,y5u]
def zZm {b:Book} {Q:List (List Nat)} (c:b.Core Q (-1)) {id s:Int} {r:xK} {k:Nat} (h:Told b Q id s r k):b.a.getF k=((b.a.slotAt k).ent,ar)/\(b.a.slotAt k).qty<=1000000/\1<=(b.a.slotAt k).qty:=by
 obtain⟨h1,⟨p,t,h2⟩,h3⟩:=c.wf.toWf0.mem (c.get h.hs h.hr) h.hk;exact⟨yOo h2 (by rw[c.wf.len];exact h1),h2.q2,c.wf.pos _ _ (c.get h.hs h.hr) _ h.hk⟩
def ySw (i:FlI) (h:bfindC.cnd i):yFz i:=by
 obtain⟨Q,c,ht,hL⟩:i.b.Rep i.L:=h;unfold yFz zHa zBy tL dI;rcases c.told i.id with⟨hg,hn⟩|⟨s,r,k,hT⟩
 ·refine⟨j0 _ _,aq,0,0,0,.inr ⟨?_,rfl,rfl⟩,Cv.cnd.mk (λ_=> ?_) (λe=>absurd e Z8)⟩
  ·rw[zAj,hg];rfl
  ·rw[<- hL]at hn;rw[yXm hn,hn];exact⟨(),k0q⟩
 ·refine⟨j0 _ _,ar,s,r.price,k,.inl ⟨?_,rfl⟩,Cv.cnd.mk (λe=>absurd e Z8) (λ_=>dup ⟨⟨i.b.a,k⟩,rfl,rfl,by dsimp only;rw[c.wf.len];decide,λ_ _=>⟨(),?_⟩⟩)⟩
  ·rw[zAj,hT.e];rfl
  ·have h1:=hT.get;have h2:=hT.has;rw[<- hL]at h1 h2;rw[h1,h2,(zZm c hT).1];exact⟨hT.ident,k0q⟩
def zZb:bfindC.ok Tryz.prog 170:=okw mixed (gokc z9b gok0) 0 (λ_=>[]) (λ_=>[]) [0] Tryz.func170 ySw
def Book.Core.okAt {b:Book} {Q:List (List Nat)} (c:b.Core Q (-1)):b.a.okAt:=c.wf.toWf0.ok
def yZr (i:FlI) (h:fillC.cnd i):yRs i:=by
 have hR:i.b.Rep i.L:=h;obtain⟨Q,c,ht,hL⟩:=id hR;unfold yRs zMx zMp vE zBk tL dI;rcases c.told i.id with⟨hg,hn⟩|⟨s,r,k,hT⟩
 ·refine⟨j0 _ _,aq,0,0,0,.inr ⟨?_,rfl,rfl⟩,Cv.cnd.mk (λ_=> ?_) (λe=>absurd e (by simp))⟩
  ·rw[zAj,hg];rfl
  ·rw[<- hL]at hn;rw[x4,y5d hn];exact⟨i.b,rF7 (rF3 hR)⟩
 have hg:=hT.get;have hh:=hT.has;rw[<- hL]at hg hh;obtain⟨hsg,hq1,hq2⟩:=zZm c hT;have hqq:(dW i.L i.id).qty=(i.b.a.slotAt k).qty:=by rw[hg];rfl
 refine⟨j0 _ _,ar,s,r.price,k,.inl ⟨?_,rfl⟩,Cv.cnd.mk (λe=>absurd e (by simp)) (λ_=>⟨⟨i.b.a,k,i.qty⟩,rF3 ⟨c.okAt,λ_ _=> ?_⟩⟩)⟩
 ·rw[zAj,hT.e];rfl
 dsimp only;have hu:i.b.a.usedAt k=ar:=by
  cases hu:i.b.a.usedAt k with
  |true=>rfl
  |false=>rw[Arena.getF,y5b (by rw[hu];decide)]at hsg;exact absurd (congrArg Prod.snd hsg) (by simp)
 by_cases hb:i.qty<1\/(i.b.a.slotAt k).qty<i.qty
 ·have ht:i.b.a.takeF k i.qty=(i.b.a,24):=by rw[Arena.takeF,y5b (by rw[hu];decide),y5u,y5d hb]
  rw[ht];refine Cv.cnd.mk (λ_=> ?_) (λe=>absurd e (by simp));rw[x4,y5b (by rw[hh];decide),y5d (by rw[hqq];exact hb)];exact⟨i.b,rF7 (rF3 hR)⟩
 have hfl:x4 i.L i.id i.qty=(uW i.L i.id i.qty,0):=by rw[x4,y5b (by rw[hh];decide),y5b (by rw[hqq];exact hb)]
 by_cases hf:i.qty=(i.b.a.slotAt k).qty
 ·obtain⟨g1,g2,g3,g4,g5,g6⟩:=c.gone (by rw[<- hL];exact ht) hT (q:=i.qty) ⟨oM,hf⟩;rw[<- hL]at g2;have hsm:=c.small;rw[g1];refine Cv.cnd.mk (λe=>absurd e (by simp)) (λ_=>dup ⟨⟨(i.b.a.takeF k i.qty).1,k⟩,rfl,rfl,by dsimp only;rw[g3];decide,λ_ _=> ?_⟩);dsimp only;rw[g5];refine Cv.cnd.mk (λ_=> ?_) (λe=>absurd e (by simp));rcases hT.hs with rfl|rfl
  ·refine⟨⟨⟨{i.b with a:=(i.b.a.takeF k i.qty).1},i.id,r.price,k⟩,aq⟩,rF8 (rF5 ⟨⟨⟨⟨by dsimp only;rw[g3];decide,by dsimp only;rw[g4];exact hsm.1.2⟩,hsm.2⟩,g6⟩,λ_ _=> ?_⟩)⟩;refine⟨({i.b with a:=(i.b.a.takeF k i.qty).1}:Book).dropF 1 i.id r.price,by rw[hfl],rF6 (rF3 (by rw[hfl];exact g2))⟩
  ·refine⟨⟨⟨{i.b with a:=(i.b.a.takeF k i.qty).1},i.id,r.price,k⟩,ar⟩,rF8 (rF5 ⟨⟨⟨⟨by dsimp only;rw[g3];decide,by dsimp only;rw[g4];exact hsm.1.2⟩,hsm.2⟩,g6⟩,λ_ _=> ?_⟩)⟩;refine⟨({i.b with a:=(i.b.a.takeF k i.qty).1}:Book).dropF 2 i.id r.price,by rw[hfl],rF6 (rF3 (by rw[hfl];exact g2))⟩
 ·obtain⟨g1,g2,g3,g4,g5⟩:=c.less (by rw[<- hL];exact ht) hT (q:=i.qty) oM;rw[<- hL]at g2;rw[g1];refine Cv.cnd.mk (λe=>absurd e (by simp)) (λ_=>dup ⟨⟨(i.b.a.takeF k i.qty).1,k⟩,rfl,rfl,by dsimp only;rw[g3];decide,λ_ _=> ?_⟩);dsimp only;rw[g4];refine Cv.cnd.mk (λe=>absurd e (by simp)) (λ_=>Cv.cnd.mk (λe=> ?_) (λ_=> ?_))
  ·have e:¬((i.b.a.takeF k i.qty).1.slotAt k).ent.id=i.id:=by simpa using e
   exact absurd g5 e
  ·exact⟨{i.b with a:=(i.b.a.takeF k i.qty).1},by rw[hfl],rF6 (rF3 (by rw[hfl];exact g2))⟩
def yMn:fillC.ok Tryz.prog 211:=okw mixed (gokc yCu (gokc z9b (gokc yOt gok0))) 0 (λ_=>[]) (λ_=>[]) [0] Tryz.func211 yZr
def zWi (A B:List zI) (s p:Int):atL (A++B) s p=atL A s p++atL B s p:=y9e _ _
def zWg {A:List zI} {s p:Int} (h:∀o∈A,o.side=s->o.price≠p):atL A s p=[]:=by
 rw[atL,ac];intro o ho;by_cases e:o.side=s
 ·simp[h o ho e]
 ·simp[e]
def yLn {A:List zI} {s p:Int} (h:∀o∈A,o.side=s/\o.price=p):atL A s p=A:=by
 rw[atL,xAu];intro o ho;simp[h o ho]
def zNo {s x y:Int} (h:btr s x y=ar):x≠y:=by
 rintro rfl;rw[zAr]at h;cases h
def Book.Core.at_no {b:Book} {Q:List (List Nat)} (c:b.Core Q (-1)) {s p:Int} (hs:s=1\/s=2) (h:kV s (b.rungs s) p=aq):atL (b.flat Q) s p=[]:=by
 have hsp:=zDi (p:=p) (c.srt s hs);rw[y5b (by rw[h];decide)]at hsp;refine zWg λo ho e=> ?_
 obtain⟨_,r,hr,_,hp⟩:=nP ho;rw[e]at hr;rw[hp];rw[<- y7j (zY s (b.rungs s) p) (b.rungs s)]at hr;rcases y6g.1 hr with hr|hr
 ·exact zNo (hsp.1 r hr)
 ·exact(zNo (hsp.2 r hr)).symm
def Book.Core.at_yes {b:Book} {Q:List (List Nat)} (c:b.Core Q (-1)) {s p:Int} (hs:s=1\/s=2) (h:kV s (b.rungs s) p=ar):∃r,(b.rungs s)[zY s (b.rungs s) p]? =av r/\r.price=p/\r∈b.rungs s/\atL (b.flat Q) s p=b.rOrds Q s r:=by
 have hsp:=zDi (p:=p) (c.srt s hs);rw[y5d h]at hsp;obtain⟨h1,r,hr,hp,h2⟩:=hsp;have hlt:=(y5f.1 hr).1;refine⟨r,hr,hp,y5m hr,?_⟩;have hsplit:b.rungs s=(b.rungs s).take (zY s (b.rungs s) p)++r::(b.rungs s).drop (zY s (b.rungs s) p+1):=by
  conv=>lhs;rw[<- y7j (zY s (b.rungs s) p) (b.rungs s)]
  rw[y7k hlt,(y5f.1 hr).2]
 have hside:atL (b.sideL Q s) s p=b.rOrds Q s r:=by
  rw[Book.sideL,hsplit,y7a,y6w,zWi,zWi,zWg,yLn,zWg,y5y,y7r]
  ·intro o ho _;obtain⟨r',hr',ho⟩:=y7v.1 ho;rw[(qG ho).2];exact(zNo (h2 r' hr')).symm
  ·intro o ho;rw[<- hp];exact qG ho
  ·intro o ho _;obtain⟨r',hr',ho⟩:=y7v.1 ho;rw[(qG ho).2];exact zNo (h1 r' hr')
 have hother:∀s',s'≠s->atL (b.sideL Q s') s p=[]:=λs' hne=>zWg λo ho e=>absurd ((aN ho).1.symm.trans e) hne
 rw[Book.flat,zWi];rcases hs with rfl|rfl
 ·rw[hside,hother 2 (by decide),y5y]
 ·rw[hside,hother 1 (by decide),y7r]
def Book.Core.listOk {b:Book} {Q:List (List Nat)} (c:b.Core Q (-1)) {s:Int} (hs:s=1\/s=2) {r:xK} (hr:r∈b.rungs s):b.a.listOk r.queue (xD Q r):=by
 have hg:=c.get hs hr;have hrq:=c.rng _ (uY hs hr);refine⟨by have:=c.wf.toWf0.short hg;omega,?_⟩;rw[y5d ⟨hrq.1,by rw[c.wf.ql];exact hrq.2⟩,zS (c.wf.q _ _ hg)];exact zSd (c.wf.sg _ _ hg)
def y3f (i:AtI) (h:at1C.cnd i):y1s i:=by
 obtain⟨Q,c,ht,hL⟩:i.b.Rep i.L:=h;unfold y1s gR vY qA xW qW dI;refine⟨1,rfl,trivial,λ_ _=>Cv.cnd.mk (λe=>absurd e Z8) λ_=>⟨⟨i.b,i.price⟩,rF8 (rF3 ⟨c.small,λ_ _=>Cv.cnd.mk (λe=> ?_) (λe=> ?_)⟩)⟩⟩
 ·have e:kV 1 (i.b.rungs 1) i.price=aq:=by simpa using e
  have:=c.at_no (.inl rfl) e;rw[<- hL]at this;refine⟨(),rF6 (rF3 ⟨?_,trivial⟩)⟩;show aa vA (atL i.L 1 i.price)=[];rw[this];rfl
 ·have e:kV 1 (i.b.rungs 1) i.price=ar:=by simpa using e
  obtain⟨r,hr,hp,hm,ha⟩:=c.at_yes (.inl rfl) e;rw[<- hL]at ha;have hlt:=(y5f.1 hr).1;refine⟨⟨oM,by rw[y5c];exact Int.ofNat_lt.2 hlt⟩,r.price,r.queue,elA hr (by simp[zB]) rfl,⟨i.b,1,r,xD Q r⟩,rF8 (rF4 ⟨c.listOk (.inl rfl) hm,λ_ _=>⟨(),rfl,?_,trivial⟩⟩)⟩;show aa vA (atL i.L 1 i.price)=_;rw[ha,BoI.ords,Book.rOrds,Arena.ents];simp only[y7q];rfl
def yXs:at1C.ok Tryz.prog 262:=okw mixed (gokc eN (gokc zMd (gokc zSp gok0))) 0 (λ_=>[]) (λ_=>[]) [0] Tryz.func262 y3f
def y4n (i:AtI) (h:at2C.cnd i):y0o i:=by
 obtain⟨Q,c,ht,hL⟩:i.b.Rep i.L:=h;unfold y0o gY vS qA xX qW dI;refine⟨2,rfl,trivial,λ_ _=>Cv.cnd.mk (λe=>absurd e Z8) λ_=>⟨⟨i.b,i.price⟩,rF8 (rF3 ⟨c.small,λ_ _=>Cv.cnd.mk (λe=> ?_) (λe=> ?_)⟩)⟩⟩
 ·have e:kV 2 (i.b.rungs 2) i.price=aq:=by simpa using e
  have:=c.at_no (.inr rfl) e;rw[<- hL]at this;refine⟨(),rF6 (rF3 ⟨?_,trivial⟩)⟩;show aa vA (atL i.L 2 i.price)=[];rw[this];rfl
 ·have e:kV 2 (i.b.rungs 2) i.price=ar:=by simpa using e
  obtain⟨r,hr,hp,hm,ha⟩:=c.at_yes (.inr rfl) e;rw[<- hL]at ha;have hlt:=(y5f.1 hr).1;refine⟨⟨oM,by rw[y5c];exact Int.ofNat_lt.2 hlt⟩,r.price,r.queue,elA hr (by simp[zB]) rfl,⟨i.b,2,r,xD Q r⟩,rF8 (rF4 ⟨c.listOk (.inr rfl) hm,λ_ _=>⟨(),rfl,?_,trivial⟩⟩)⟩;show aa vA (atL i.L 2 i.price)=_;rw[ha,BoI.ords,Book.rOrds,Arena.ents];simp only[y7q];rfl
def yXc:at2C.ok Tryz.prog 262:=okw mixed (gokc eN (gokc zPf (gokc zSp gok0))) 0 (λ_=>[]) (λ_=>[]) [0] Tryz.func262 y4n
def y2b:atC.ok Tryz.prog 262:=λj=>match j with
 |⟨b,L,aq,p⟩=>yXs ⟨b,L,aq,p⟩
 |⟨b,L,ar,p⟩=>yXc ⟨b,L,ar,p⟩
def z0b (p:Int) (l:List zI):Lv:=⟨p,(l.map (·.qty)).sum,l.length⟩
def zPs:∀{l:List zI} {v:Lv} {vs:List Lv},grp l=v::vs->∃o r,l=o::r/\o.price=v.price
 |[],v,vs,h=>by cases h
 |o::r,v,vs,h=>by
  refine⟨o,r,rfl,?_⟩;rw[grp]at h;split at h
  ·cases h;rfl
  ·split at h
   ·rename_i e;cases h;exact e.symm
   ·cases h;rfl
def z6b {p:Int}:∀{l:List zI} {m:List zI},l≠[]->(∀o∈l,o.price=p)->(∀o r,m=o::r->o.price≠p)->grp (l++m)=z0b p l::grp m
 |[],m,h,_,_=>absurd rfl h
 |[o],m,_,h,hm=>by
  have e:=h o y5h;rw[List.singleton_append,grp];split
  ·rename_i g;simp[z0b,e,g]
  ·rename_i v vs g;obtain⟨o',r,e1,e2⟩:=zPs g;have:=hm o' r e1;rw[y5b (by omega)];simp[z0b,e,g]
 |o::o'::l,m,_,h,hm=>by
  have e:=h o y5h;have ih:=z6b (l:=o'::l) (m:=m) (by simp) (λx hx=>h x (y5j _ hx)) hm;rw[y6t,grp,ih];dsimp only;rw[y5d (show(z0b p (o'::l)).price=o.price from e.symm)];simp only[z0b,y5q,y6s,y5g];rfl
def z0r {f:xK->List zI}:∀{R:List xK},(∀r∈R,f r≠[]/\∀o∈f r,o.price=r.price)->R.Pairwise (λr r'=>r.price≠r'.price)->grp (R.flatMap f)=R.map λr=>z0b r.price (f r)
 |[],_,_=>rfl
 |r::R,h,hp=>by
  rw[y8v]at hp;have ih:=z0r (R:=R) (λx hx=>h x (y5j _ hx)) hp.2;rw[y6w,z6b (h r y5h).1 (h r y5h).2,ih,y5q];intro o l e;cases R with
  |nil=>cases e
  |cons r' R'=>
   rw[y6w]at e;obtain⟨h1,h2⟩:=h r' (y5j _ y5h);cases hf:f r' with
   |nil=>exact absurd hf h1
   |cons x y=>
    rw[hf,y6t]at e;cases e;rw[h2 o (by rw[hf];exact y5h)];exact(hp.1 r' y5h).symm
def zSj {b:Book} {Q:List (List Nat)} {s:Int} (hs:s=1\/s=2):(b.flat Q).filter (λo=>decide (o.side=s))=b.sideL Q s:=by
 have h1:∀s',(b.sideL Q s').filter (λo=>decide (o.side=s))=if s'=s then b.sideL Q s' else[]:=by
  intro s';split
  ·rename_i e;rw[xAu];intro o ho;rw[(aN ho).1,e];simp
  ·rename_i e;rw[ac];intro o ho;rw[(aN ho).1];simp[e]
 rw[Book.flat,y9e,h1,h1];rcases hs with rfl|rfl
 ·simp
 ·simp
def Book.Core.neL {b:Book} {Q:List (List Nat)} (c:b.Core Q (-1)) {s:Int} (hs:s=1\/s=2) {r:xK} (hr:r∈b.rungs s):xD Q r≠[]:=c.ne s hs r hr λe=>by have:=c.rng _ (uY hs hr);omega
def Book.Core.toldL {b:Book} {Q:List (List Nat)} (c:b.Core Q (-1)) {s:Int} (hs:s=1\/s=2) {r:xK} (hr:r∈b.rungs s):b.told r=z0b r.price (b.rOrds Q s r):=by
 have hg:=c.get hs hr;have hrq:=c.rng _ (uY hs hr);have hq:=c.wf.q _ _ hg;have hql:=c.wf.ql;rw[Book.told,zVw hrq.1 hq,z0b,Book.rOrds,y7q,y5c];rfl
def Book.Core.lad {b:Book} {Q:List (List Nat)} (c:b.Core Q (-1)) {s:Int} (hs:s=1\/s=2):hP (b.flat Q) s=(b.rungs s).map b.told:=by
 rw[hP,zSj hs,Book.sideL,z0r]
 ·exact y6l λr hr=>(c.toldL hs hr).symm
 ·intro r hr;refine⟨λe=>c.neL hs hr (List.map_eq_nil_iff.1 e),λo ho=>(qG ho).2⟩
 ·exact(c.srt s hs).imp λh=>zNo h
def Book.Core.bestL {b:Book} {Q:List (List Nat)} (c:b.Core Q (-1)) {s:Int} (hs:s=1\/s=2):b.best (b.rungs s)=Sx.bestL (b.flat Q) s:=by
 rw[Sx.bestL,c.lad hs];cases b.rungs s<;>rfl
def Book.Core.cnt {b:Book} {Q:List (List Nat)} (c:b.Core Q (-1)):b.cntOk:=by
 intro q hq;obtain⟨n,hn⟩:=y7t.1 hq;have hlt:=(y5f.1 hn).1;rw[c.wf.ql]at hlt;obtain⟨l,hl⟩:=yE hlt;have:=c.wf.q n l hl;rw[hn]at this;cases this;have:=c.wf.toWf0.short hl;constructor<;>dsimp only<;>omega
def qY (L:List zI):Top:=(top0.buy (bestL L 1)).sell (bestL L 2)
def Book.Rep.top {b:Book} {L:List zI} (h:b.Rep L):b.top=qY L:=by
 obtain⟨Q,c,ht,rfl⟩:=h;rw[Book.top,qY,<- c.bestL (.inl rfl),<- c.bestL (.inr rfl)];rfl
def Book.Rep.cnt {b:Book} {L:List zI} (h:b.Rep L):b.cntOk:=by
 obtain⟨Q,c,ht,rfl⟩:=h;exact c.cnt
structure zPo (o:zI):Prop where
 s:o.side=1\/o.side=2
 q:1<=o.qty/\o.qty<=1000000
def Book.Rep.ords {b:Book} {L:List zI} (h:b.Rep L):(∀o∈L,zPo o)/\(L.map (·.id)).Nodup/\L.length<=250:=by
 obtain⟨Q,c,ht,rfl⟩:=h;refine⟨λo ho=> ?_,c.ids,?_⟩
 ·obtain⟨hs,r,hr,ho,hp⟩:=nP ho;refine⟨hs,?_⟩;obtain⟨k,hk,e⟩:=y6n.1 ho;obtain⟨_,⟨_,_,h2⟩,_⟩:=c.wf.toWf0.mem (c.get hs hr) hk;have eq:o.qty=(b.a.slotAt k).qty:=by rw[<- e];rfl
  rw[eq];exact⟨c.wf.pos _ _ (c.get hs hr) _ hk,h2.q2⟩
 ·have hnd:(((b.rungs 1).flatMap (xD Q)++(b.rungs 2).flatMap (xD Q))).Nodup:=by
   have hm:((b.flat Q).map (·.id))=((b.rungs 1).flatMap (xD Q)++(b.rungs 2).flatMap (xD Q)).map λk=>(b.a.slotAt k).id:=by
    rw[Book.flat,y5l,y5l,Book.sideL,Book.sideL,lM,lM,lM,lM];congr 1
    ·exact xE λr _=>by rw[Book.rOrds,y7q];rfl
    ·exact xE λr _=>by rw[Book.rOrds,y7q];rfl
   have:=c.ids;rw[hm]at this;exact List.Pairwise.of_map _ (λa b hab e=>hab (by rw[e])) this
  have hl:(b.flat Q).length=((b.rungs 1).flatMap (xD Q)++(b.rungs 2).flatMap (xD Q)).length:=by
   rw[Book.flat,y5a,y5a,Book.sideL,Book.sideL,xAc,xAc,xAc,xAc];congr 1
   ·congr 1;exact y6l λr _=>by rw[Book.rOrds,y5c]
   ·congr 1;exact y6l λr _=>by rw[Book.rOrds,y5c]
  rw[hl];refine zMm 250 hnd λk hk=> ?_
  rcases y6g.1 hk with hk|hk
  ·obtain⟨r,hr,hk⟩:=y7v.1 hk;exact(c.wf.toWf0.mem (c.get (.inl rfl) hr) hk).1
  ·obtain⟨r,hr,hk⟩:=y7v.1 hk;exact(c.wf.toWf0.mem (c.get (.inr rfl) hr) hk).1
def Book.Rep.fit {b:Book} {L:List zI} (h:b.Rep L):b.fit:=by
 obtain⟨Q,c,ht,rfl⟩:=h;have hs:=c.small;have h1:=c.ql;have h2:=c.wf.ql;have hqb:=c.qb;rw[Book.qs,y5a,y5a,y5c,y5c]at h1;refine⟨⟨hs.1.1,λhf=> ?_,λq hq=> ?_⟩,oM,oM,oM,oM⟩
 ·obtain⟨k,_,hk,hk1,hku,_⟩:=c.wf.toWf0.unused hf;exact⟨_,y5m hk1,hku⟩
 ·obtain⟨n,hn⟩:=y7t.1 hq;have hlt:=(y5f.1 hn).1;rw[c.wf.ql]at hlt;obtain⟨l,hl⟩:=yE hlt;have:=c.wf.q n l hl;rw[hn]at this;cases this;dsimp only;rcases wM l with e|⟨y,j,e,e2⟩
  ·exact .inl ((nS l).2 e)
  ·rw[e2];have:=(c.wf.toWf0.mem hl (k:=j) (by rw[e];simp)).1;rw[c.wf.len];exact .inr ⟨oM,oM⟩
def whL:Nat->List (List zI)->List (Int×Int)
 |_,[]=>[]
 |k,L::B=>L.map (λo=>(o.id,(k:Int)))++whL (k+1) B
def whL_mem:∀{B:List (List zI)} {n:Nat} {x:Int×Int},x∈whL n B↔∃(k:Nat) (L:List zI),B[k]? =av L/\x.1∈L.map (·.id)/\x.2=((n+k:Nat):Int)
 |[],n,x=>by simp[whL]
 |L::B,n,x=>by
  rw[whL,y6g,whL_mem (B:=B)];constructor
  ·rintro(h|⟨k,L',h1,h2,h3⟩)
   ·obtain⟨o,ho,rfl⟩:=y6n.1 h;exact⟨0,L,rfl,y6f (f:=(·.id)) ho,rfl⟩
   ·exact⟨k+1,L',h1,h2,by rw[h3];omega⟩
  ·rintro⟨k,L',h1,h2,h3⟩;cases k with
   |zero=>
    cases h1;obtain⟨o,ho,e⟩:=y6n.1 h2;exact .inl (y6n.2 ⟨o,ho,Prod.ext e h3.symm⟩)
   |succ k=>exact .inr ⟨k,L',h1,h2,by rw[h3];omega⟩
def zKz:∀{B:List (List zI)} (n k:Nat),k<B.length->∃rest,∀X:List zI,(whL n (B.set k X)).Perm (X.map (λo=>(o.id,((n+k:Nat):Int)))++rest)
 |[],n,k,h=>absurd h (by simp)
 |L::B,n,0,h=>⟨whL (n+1) B,λX=> .refl _⟩
 |L::B,n,k+1,h=>by
  obtain⟨rest,hr⟩:=zKz (B:=B) (n+1) k (by simpa using h);refine⟨L.map (λo=>(o.id,(n:Int)))++rest,λX=> ?_⟩;rw[xBa,whL];refine((hr X).append_left _).trans ?_;rw[<- y5i,<- y5i,show n+1+k=n+(k+1)by omega];exact y7g.append_right _
structure MSt.Rep (s:MSt) (p:Prd) (B:List (List zI)):Prop where
 ep:s.p=p
 bl:s.books.length=B.length
 bk:∀(k:Nat) (b:Book) (L:List zI),s.books[k]? =av b->B[k]? =av L->b.Rep L
 wh:s.wh.Perm (whL 0 B)
 ids:((whL 0 B).map (·.1)).Nodup
def a8 (B:List (List zI)) (id:Int):Option Nat:=B.findIdx? λL=>wN L id
def gJ {B:List (List zI)} {id:Int} {k:Nat} (h:a8 B id=av k):∃L,B[k]? =av L/\wN L id=ar:=by
 rw[a8,y8k]at h;obtain⟨h1,h2,_⟩:=h;exact⟨_,y6d h1,h2⟩
def z1w {B:List (List zI)} {id:Int} (h:a8 B id=aw):∀L∈B,wN L id=aq:=by
 rw[a8,y9s]at h;exact h
def zVl:∀{l:List (Int×Int)},(l.map (·.1)).Nodup->∀{k x:Int},(k,x)∈l->zBx l k=av x
 |[],_,k,x,hx=>by cases hx
 |p::l,h,k,x,hx=>by
  rw[y5q,y7s]at h;rw[zBx,xBe];rcases y5w.1 hx with ex|hx
  ·subst ex;simp
  ·have:p.1≠k:=by rintro e;exact h.1 (e▸y6f (f:=(·.1)) hx)
   rw[y5o this];exact zVl h.2 hx
def yBz {l:List (Int×Int)} {k:Int} (h:k∉l.map (·.1)):zBx l k=aw:=by
 rw[zBx,Option.map_eq_none_iff,List.find?_eq_none];intro x hx e;have e:x.1=k:=by simpa using e
 exact h (e▸y6f (f:=(·.1)) hx)
def MSt.Rep.keys {s:MSt} {p:Prd} {B:List (List zI)} (h:s.Rep p B):(s.wh.map (·.1)).Nodup:=(h.wh.map (·.1)).nodup_iff.2 h.ids
def MSt.Rep.at_ {s:MSt} {p:Prd} {B:List (List zI)} (h:s.Rep p B) (id:Int):zBx s.wh id=(a8 B id).map (λk:Nat=>(k:Int)):=by
 cases hi:a8 B id with
 |none=>
  refine yBz λhm=> ?_
  rw[(h.wh.map (·.1)).mem_iff]at hm;obtain⟨x,hx,rfl⟩:=y6n.1 hm;obtain⟨k,L,h1,h2,_⟩:=whL_mem.1 hx;have:=z1w hi L (y5m h1);rw[hasId_iff.2 h2]at this;cases this
 |some k=>
  obtain⟨L,h1,h2⟩:=gJ hi;refine zVl h.keys (h.wh.mem_iff.2 (whL_mem.2 ⟨k,L,h1,hasId_iff.1 h2,by simp⟩))
def kE (B:List (List zI)) (id q:Int):List (List zI)×Int:=match a8 B id with
 |none=>(B,26)
 |some k=>(B.set k (x4 (B.getD k []) id q).1,(x4 (B.getD k []) id q).2)
def zLw {L:List zI} (h:(L.map (·.id)).Nodup) (id q:Int):((x4 L id q).1.map (·.id)=L.map (·.id)/\wN (x4 L id q).1 id=wN L id)\/((x4 L id q).1=L.filter (λo=> !decide (o.id=id))/\wN (x4 L id q).1 id=aq):=by
 rw[x4];by_cases h1:wN L id=aq
 ·rw[y5d h1];exact .inl ⟨rfl,rfl⟩
 have h1:wN L id=ar:=by simpa using h1
 rw[y5b (by rw[h1];decide)];by_cases h2:q<1\/(dW L id).qty<q
 ·rw[y5d h2];exact .inl ⟨rfl,rfl⟩
 rw[y5b h2];dsimp only;by_cases h3:(dW L id).qty=q
 ·refine .inr ?_;have e:uW L id q=L.filter λo=> !decide (o.id=id):=by rw[<- h3];exact zRr h h1
  refine⟨e,?_⟩;rw[e,wN,xBg];intro o ho;rw[y7b]at ho;simpa using ho.2
 ·refine .inl ?_;have hm:(uW L id q).map (·.id)=L.map (·.id):=by
   have:uW L id q=L.map λo=>if o.id=id then{o with qty:=o.qty-q}else o:=by
    rw[uW,<- List.filterMap_eq_map];refine aZ λo ho=> ?_
    simp only[Function.comp];by_cases e:o.id=id
    ·have hg:=rI h ho;rw[e]at hg;rw[y5d e,y5d e,y5b (λe2=>h3 (by rw[hg];exact e2))]
    ·rw[y5b e,y5b e]
   rw[this,y7q];refine y6l λo _=> ?_
   simp only[Function.comp];split<;>rfl
  refine⟨hm,?_⟩;rw[xBd,hasId_iff,hasId_iff,hm]
def z8h:∀{l:List (Int×Int)} {k:Int},(l.map (·.1)).Nodup->z2p k l=l.filter λx=> !decide (x.1=k)
 |[],k,_=>rfl
 |(a,b)::l,k,h=>by
  rw[y5q,y7s]at h;rw[z2p];by_cases e:k=a
  ·subst e;rw[y5d rfl,xAa (by simp)];symm;rw[xAu];intro x hx;have:x.1≠k:=λe=>h.1 (e▸y6f (f:=(·.1)) hx)
   simp[this]
  ·rw[y5b e,y9z (by simp[Ne.symm e]),z8h h.2]
def zXg:∀{l:List (Int×Int)} {k x:Int},k∉l.map (·.1)->zYx k x l=l++[(k,x)]
 |[],k,x,_=>rfl
 |p::l,k,x,h=>by
  rw[y5q,y5w,not_or]at h;rw[zYx,y5b h.1,zXg h.2];rfl
def uE {α:Type} {l:List α} {k:Nat} {x:α} (h:l[k]? =av x):l.set k x=l:=by
 apply y8y;intro i;rw[y8r];split
 ·rename_i e;subst e;rw[y5d (y5f.1 h).1,h]
 ·rfl
def MSt.Rep.set {s:MSt} {p:Prd} {B:List (List zI)} (h:s.Rep p B) {k:Nat} {L':List zI} {b':Book} (hb:b'.Rep L') (hk:k<B.length) {wh':List (Int×Int)} (hw:wh'.Perm (whL 0 (B.set k L'))) (hi:((whL 0 (B.set k L')).map (·.1)).Nodup):({s with books:=s.books.set k b',wh:=wh'}:MSt).Rep p (B.set k L'):=by
 refine⟨h.ep,by simpa using h.bl,λj b L h1 h2=> ?_,hw,hi⟩;by_cases e:k=j
 ·subst e;have h1:(s.books.set k b')[k]? =av b:=h1;rw[fW (by rw[h.bl];exact hk)]at h1;rw[fW hk]at h2;cases h1;cases h2;exact hb
 ·have h1:(s.books.set k b')[j]? =av b:=h1;rw[vU e]at h1 h2;exact h.bk j b L h1 h2
def MSt.Rep.take {s:MSt} {p:Prd} {B:List (List zI)} (h:s.Rep p B) {id q:Int} {k:Nat} (hi:a8 B id=av k) {L:List zI} (hL:B[k]? =av L) (hn:(L.map (·.id)).Nodup) {b':Book} (hb:b'.Rep (x4 L id q).1):
 ({s with books:=s.books.set k b',wh:=if wN (x4 L id q).1 id=ar then s.wh else z2p id s.wh}:MSt).Rep p (kE B id q).1:=by
 have hk:=(y5f.1 hL).1;have ht:(kE B id q).1=B.set k (x4 L id q).1:=by simp only[kE,hi,zS hL]
 obtain⟨L2,e1,hh⟩:=gJ hi;rw[hL]at e1;cases e1;obtain⟨rest,hr⟩:=zKz (B:=B) 0 k hk;have hL0:=hr L;rw[uE hL]at hL0;rw[ht];rcases zLw hn id q with⟨e1,e2⟩|⟨e1,e2⟩
 ·have hm:∀X Y:List zI,X.map (·.id)=Y.map (·.id)->X.map (λo=>(o.id,((0+k:Nat):Int)))=Y.map (λo=>(o.id,((0+k:Nat):Int))):=by
   intro X Y e;have:=congrArg (aa λi:Int=>(i,((0+k:Nat):Int))) e;rw[y7q,y7q]at this;exact this
  have hp:(whL 0 (B.set k (x4 L id q).1)).Perm (whL 0 B):=by
   refine(hr _).trans ?_;rw[hm _ _ e1];exact hL0.symm
  rw[e2,hh,y5d rfl];exact h.set hb hk (h.wh.trans hp.symm) ((hp.map (·.1)).nodup_iff.2 h.ids)
 ·rw[e2,y5b (by decide)];have hrest:∀x∈rest,x.1≠id:=by
   intro x hx e;have hnd:=(hL0.map (·.1)).nodup_iff.1 h.ids;rw[y5l,y7q]at hnd;have h1:id∈L.map ((·.1)∘λo:zI=>(o.id,((0+k:Nat):Int))):=hasId_iff.1 hh;exact(y7m.1 hnd).2.2 id h1 x.1 (y6f (f:=(·.1)) hx) e.symm
  have hp:(whL 0 (B.set k (x4 L id q).1)).Perm ((whL 0 B).filter λx=> !decide (x.1=id)):=by
   refine(hr _).trans (.trans ?_ (hL0.filter _).symm);rw[e1,y9e,List.filter_map];have:rest.filter (λx=> !decide (x.1=id))=rest:=by
    rw[xAu];intro x hx;simp[hrest x hx]
   rw[this];exact .refl _
  refine h.set hb hk ?_ ((hp.map (·.1)).nodup_iff.2 (h.ids.sublist (List.Sublist.map _ xAv)));rw[z8h h.keys];exact(h.wh.filter _).trans hp.symm
def z3n (p:Prd) (B:List (List zI)) (inst id:Int) (s price q:Int):List (List zI)×Int:=
 if inst<0\/B.length<=inst then(B,20)else if(a8 B id).isSome=ar then(B,25)else if 250<=(whL 0 B).length then(B,13)else if p.price inst price≠0 then(B,p.price inst price)
 else(B.set inst.toNat (zKj (B.getD inst.toNat []) s id price q).1,(zKj (B.getD inst.toNat []) s id price q).2)
def yIy (L:List zI) (s id p q:Int):((zTr L s id p q).map (·.id)).Perm (id::L.map (·.id)):=by
 have:∀X:List zI,((X.takeWhile (before s p)++⟨id,s,p,q,gN L s p⟩::X.dropWhile (before s p)).map (·.id)).Perm (id::X.map (·.id)):=by
  intro X
  conv=>rhs;rw[<- xAw (p:=before s p) (l:=X)]
  rw[y5l,y5q,y5l];exact y5r
 rw[zTr];split
 ·refine(this _).trans ?_;rw[z8s]
 ·exact this _
def MSt.Rep.add {s:MSt} {p:Prd} {B:List (List zI)} (h:s.Rep p B) (inst id:Int) (sd:Bool) (price q:Int):
 (MSt.addF ⟨s,inst,id,sd,price,q⟩).1.Rep p (z3n p B inst id (zC sd) price q).1/\(MSt.addF ⟨s,inst,id,sd,price,q⟩).2=(z3n p B inst id (zC sd) price q).2:=by
 have hsd:zC sd=1\/zC sd=2:=by cases sd;exact .inl rfl;exact .inr rfl
 rw[MSt.addF,z3n];dsimp only;rw[h.bl,h.at_,h.wh.length_eq,show s.p.price inst price=p.price inst price by rw[h.ep],Option.isSome_map];by_cases c1:inst<0\/(B.length:Int)<=inst
 ·rw[y5d c1,y5d c1];exact⟨h,rfl⟩
 rw[y5b c1,y5b c1];by_cases c2:(a8 B id).isSome=ar
 ·rw[y5d c2,y5d c2];exact⟨h,rfl⟩
 rw[y5b c2,y5b c2];by_cases c3:250<=(whL 0 B).length
 ·rw[y5d c3,y5d c3];exact⟨h,rfl⟩
 rw[y5b c3,y5b c3];by_cases c4:p.price inst price≠0
 ·rw[y5d c4,y5d c4];exact⟨h,rfl⟩
 rw[y5b c4,y5b c4];obtain⟨k,hk⟩:∃k:Nat,inst=k:=⟨inst.toNat,oM⟩
 subst hk;rw[y5u];have hkl:k<B.length:=by omega
 obtain⟨b,hb⟩:=yE (l:=s.books) (i:=k) (by rw[h.bl];exact hkl);obtain⟨L,hL⟩:=yE (l:=B) (i:=k) hkl;have hba:s.bookAt k=b:=by rw[MSt.bookAt,y5u];exact zS hb
 rw[hba,zS hL];obtain⟨r1,r2⟩:=(h.bk k b L hb hL).add hsd id price q;refine⟨?_,r2⟩;rw[r2];obtain⟨rest,hr⟩:=zKz (B:=B) 0 k hkl;have hL0:=hr L;rw[uE hL]at hL0;have hcase:(zKj L (zC sd) id price q).2≠0/\(zKj L (zC sd) id price q).1=L\/(zKj L (zC sd) id price q).2=0/\(zKj L (zC sd) id price q).1=zTr L (zC sd) id price q:=by
  rw[zKj]
  repeat' split
  ·exact .inl ⟨by simp,rfl⟩
  ·exact .inl ⟨by simp,rfl⟩
  ·exact .inl ⟨by simp,rfl⟩
  ·exact .inr ⟨rfl,rfl⟩
 rcases hcase with⟨e1,e2⟩|⟨e1,e2⟩
 ·rw[y5b e1];refine h.set r1 hkl ?_ ?_
  ·rw[e2,uE hL];exact h.wh
  ·rw[e2,uE hL];exact h.ids
 ·rw[y5d e1];have hnk:id∉s.wh.map (·.1):=by
   intro hm;obtain⟨x,hx,rfl⟩:=y6n.1 hm;have:=zVl h.keys hx;rw[h.at_]at this;cases hq:a8 B x.1 with
   |none=>rw[hq]at this;cases this
   |some j=>rw[hq]at c2;exact c2 rfl
  have hp:(whL 0 (B.set k (zKj L (zC sd) id price q).1)).Perm ((id,(k:Int))::whL 0 B):=by
   refine(hr _).trans (.trans ?_ (hL0.symm.cons _));rw[e2,<- y6t];refine List.Perm.append_right _ ?_;have:=(yIy L (zC sd) id price q).map λi:Int=>(i,(k:Int))
   rw[y7q,y5q,y7q]at this;rw[y6b];exact this
  refine h.set r1 hkl ?_ ((hp.map (·.1)).nodup_iff.2 (y7s.2 ⟨?_,h.ids⟩))
  ·rw[zXg hnk];exact(y9n _ _).trans ((h.wh.cons _).trans hp.symm)
  ·rw[<- (h.wh.map (·.1)).mem_iff];exact hnk
def zUs:∀(n k:Nat),whL k (ab n [])=[]
 |0,_=>rfl
 |n+1,k=>by rw[y9i,whL,zUs];rfl
def z2e (p:Prd):(mM p).Rep p (ab p.count []):=by
 refine⟨rfl,by simp[mM],λk b L h1 h2=> ?_,?_,?_⟩
 ·have e1:b=book0:=xAt (y5m (show(ab p.count book0)[k]? =av b from h1));have e2:L=[]:=xAt (y5m h2);rw[e1,e2];exact z9r
 ·rw[zUs];exact .refl _
 ·rw[zUs];exact List.nodup_nil
def yRh (s:Bool):Con:=con1 BkL (λi=>[.nm 0 0,zA (zC s)]) (λi=>[z7 i.b]) (λi=>i.b.Rep i.L) (λ_=> .own 1) (λi=>[z7 i.b,.own 41 3 ((hP i.L (zC s)).map lvE)])
def lad1C:Con:=yRh aq
def lad2C:Con:=yRh ar
def y2l (s:Bool) (i:BkL):List SAnn:=[{ι:=Nat,slots:=λj=>[(5,.own 0),(19,zA j)],rows:=λj=>[.own 41 3 (((hP i.L (zC s)).take j).map lvE)]}]
structure BkT where
 b:Book
 L:List zI
 s:Bool
def ladC:Con:=con1 BkT (λi=>[.nm 0 0,zA (zC i.s)]) (λi=>[z7 i.b]) (λi=>i.b.Rep i.L) (λ_=> .own 1) (λi=>[z7 i.b,.own 41 3 ((hP i.L (zC i.s)).map lvE)])
@[reducible] def yJn (s:MSt):List AObj:=[xQ s 0,xQ s 1,xQ s 2,xQ s 3,xQ s 4]
def topsOC:Con:=con1 MSt (λ_=>[.nm 0 0]) (λs=>yJn s) MSt.cntOk (λs=> .own 5) (λs=>yJn s++[.own 252 6 (s.tops.map z5)])
structure StI where
 s:MSt
 p:Prd
 B:List (List zI)
 id:Int
 q:Int
def stakeC:Con where
 ι:=StI
 pat:=λi=>[.nm 0 0,zA i.id,zA i.q]
 pre:=λi=>[zD i.s]
 cnd:=λi=>i.s.Rep i.p i.B/\i.B.length<=1000
 alts:=λi=>[{o:=MSt,res:=λ_=>zA (kE i.B i.id i.q).2,post:=λs=>[zD s],rel:=λs=>s.Rep i.p (kE i.B i.id i.q).1}]
def zZ (B:List (List zI)) (id:Int):Int×zI×Bool:=match a8 B id with
 |none=>(0,yXt,aq)
 |some k=>(k,dW (B.getD k []) id,ar)
def sfindC:Con:=con1 StI (λi=>[.nm 0 0,zA i.id]) (λi=>[zD i.s]) (λi=>i.s.Rep i.p i.B/\i.B.length<=1000) (λi=> .tup [zA (zZ i.B i.id).1,z9n (zZ i.B i.id).2.1,yX (zZ i.B i.id).2.2]) (λi=>[zD i.s])
def zEb (a:Nat->Prop) (b:Nat) (c:Nat->Nat) (d:Nat) (e:BkL) (f:ArN):Prop:=a b/\c b<c d/\rE (am [V.nm 1 0,V.own 2,V.own 3,V.mp 4,V.d (dI e.b.top1),V.d (dI e.b.top2),V.own 5,V.d (D.v (.bool e.b.has1)),V.d (D.v (.bool e.b.has2))] (299:TypeId))/\ag Arena 3 zG f.a=ag Arena 3 zG e.b.a/\rE (ao 304 2 (aa zB e.b.buys))/\rE (ao 304 2 (aa zB e.b.sells))/\rE (ap (atE e.b.at_))/\rE (ao 3 1 (iE e.b.spare))
def bU (a:Nat) (b:BkL):=(ae a (hP b.L (zC aq)))
def yQf (i:BkL):Prop:=
 ∃(a:Int),a=zC aq/\True/\∀(b:Unit),True->cnd (qW a) (∃(c:Unit),rE i.b.top1/\rE i.b.top2/\rE i.b.has1/\rE i.b.has2/\rE (ag Arena 3 zG i.b.a)/\rE (aa zB i.b.buys)/\rE (aa zB i.b.sells)/\rE (atE i.b.at_)/\rE (iE i.b.spare)/\aa lvE (hP i.L (zC aq))=[]/\True) (∃(c:Nat),(↑c:Int)=0/\aa lvE (bU c i)=[]/\∃(d:Nat->Prop),∃(e:Nat->Nat),d c/\∀(f:Nat),d f->cnd (decide ((↑f:Int)<(↑(aa zB i.b.buys).length:Int))) ((0<=(↑f:Int)/\(↑f:Int)<(↑(aa zB i.b.buys).length:Int))/\∃(g:Int),∃(h:Int),zE (aa zB i.b.buys) (↑f:Int).toNat 0 2=av [dI g,dI h]/\∃(j:ArN),j.n=h/\ag Arena 3 zG j.a=ag Arena 3 zG i.b.a/\True/\∀(k:Unit),True->h=h/\True/\g=g/\∃(l:ArN),l.n=h/\ag Arena 3 zG l.a=ag Arena 3 zG j.a/\True/\∀(m:Unit),True->g=g/\((aa lvE (bU f i)).length+1)*(24:Nat)<=(140737488355328:Nat)/\∃(n:Nat),(↑n:Int)=au.wrap ((↑f:Int)+1)/\aa lvE (bU n i)=aa lvE (bU f i)++[[dI g,dI ((j.a.qAt j.n).total),dI ((l.a.qAt l.n).count)]]/\zEb d n e f i l) (∃(g:Unit),rE i.b.top1/\rE i.b.top2/\rE i.b.has1/\rE i.b.has2/\rE (ag Arena 3 zG i.b.a)/\rE (aa zB i.b.buys)/\rE (aa zB i.b.sells)/\rE (atE i.b.at_)/\rE (iE i.b.spare)/\aa lvE (hP i.L (zC aq))=aa lvE (bU f i)/\True))
def bS (a:Nat) (b:BkL):=(ae a (hP b.L (zC ar)))
def yQq (i:BkL):Prop:=
 ∃(a:Int),a=zC ar/\True/\∀(b:Unit),True->cnd (qW a) (∃(c:Unit),rE i.b.top1/\rE i.b.top2/\rE i.b.has1/\rE i.b.has2/\rE (ag Arena 3 zG i.b.a)/\rE (aa zB i.b.buys)/\rE (aa zB i.b.sells)/\rE (atE i.b.at_)/\rE (iE i.b.spare)/\aa lvE (hP i.L (zC ar))=[]/\True) (∃(c:Nat),(↑c:Int)=0/\aa lvE (bS c i)=[]/\∃(d:Nat->Prop),∃(e:Nat->Nat),d c/\∀(f:Nat),d f->cnd (decide ((↑f:Int)<(↑(aa zB i.b.sells).length:Int))) ((0<=(↑f:Int)/\(↑f:Int)<(↑(aa zB i.b.sells).length:Int))/\∃(g:Int),∃(h:Int),zE (aa zB i.b.sells) (↑f:Int).toNat 0 2=av [dI g,dI h]/\∃(j:ArN),j.n=h/\ag Arena 3 zG j.a=ag Arena 3 zG i.b.a/\True/\∀(k:Unit),True->h=h/\True/\g=g/\∃(l:ArN),l.n=h/\ag Arena 3 zG l.a=ag Arena 3 zG j.a/\True/\∀(m:Unit),True->g=g/\((aa lvE (bS f i)).length+1)*(24:Nat)<=(140737488355328:Nat)/\∃(n:Nat),(↑n:Int)=au.wrap ((↑f:Int)+1)/\aa lvE (bS n i)=aa lvE (bS f i)++[[dI g,dI ((j.a.qAt j.n).total),dI ((l.a.qAt l.n).count)]]/\zEb d n e f i l) (∃(g:Unit),rE i.b.top1/\rE i.b.top2/\rE i.b.has1/\rE i.b.has2/\rE (ag Arena 3 zG i.b.a)/\rE (aa zB i.b.buys)/\rE (aa zB i.b.sells)/\rE (atE i.b.at_)/\rE (iE i.b.spare)/\aa lvE (hP i.L (zC ar))=aa lvE (bS f i)/\True))
def sN (a:Nat×Top->Prop) (b:Nat×Top) (c:MSt) (d:Nat) (e:Book):Prop:=a b/\rE (ao 3 1 [[dI 1],[dI 2]])/\rE (xQ c 0)/\ak 241 Book 6 zP (c.books.set (↑d:Int).toNat e) aw=xQ c 1/\rE (xQ c 2)/\rE (xQ c 3)/\rE (xQ c 4)
def zBv (a:MSt) (b:Nat×Top) (c:Nat×Top->Prop) (d:Nat) (e:Book):Prop:=∃(f:Nat×Top),aa z5 (xV a f.fst f.snd)=aa z5 (xV a b.fst b.snd)/\sN c f a d e
def yDw (s:MSt):Prop:=
 (zAn s)/\∃(a:Nat),(↑a:Int)=0/\aa z5 (x6 s a)=ab (↑s.books.length:Int).toNat [D.v (.bool aq),D.v (.bool aq),dI 0,dI 0,dI 0,dI 0]/\∃(b:Nat->Prop),∃(c:Nat->Nat),b a/\∀(d:Nat),b d->cnd (decide ((↑d:Int)<(↑s.books.length:Int))) ((0<=(↑d:Int)/\(↑d:Int)<(↑s.books.length:Int))/\(↑d:Int).toNat<s.books.length/\∃(e:Nat×Top),aa z5 (xV s e.fst e.snd)=aa z5 (x6 s d)/\∃(f:Nat×Top->Prop),(((0:Int)<=(0:Int)/\0<(↑(2:Nat):Int))/\∃(g:Int),zE [[dI 1],[dI 2]] (Int.toNat 0) 0 1=av [dI g]/\∃(h:Book),s.books[(↑d:Int).toNat]?=av h/\∃(j:BkS),zC j.side=g/\z7 j.b=z7 h/\(vC j)/\∀(k:Unit),True->∃(l:Book),z7 j.b=z7 l/\rE ((↑d:Int).toNat)/\(↑d:Int).toNat<s.books.length/\cnd (zW j).snd ((qS d s e)/\(qS d s e)/\(qS d s e)/\(↑d:Int).toNat<(uG s e).length/\(bR d s e)/\(bR d s e)/\rE ((zW j).fst.qty)/\rE ((zW j).fst.price)/\(↑d:Int).toNat<(b6 s e d).length/\(zAe d s e j)/\rE ((zW j).fst.qty)/\(↑d:Int).toNat<(dP s e d j).length/\∃(m:Nat×Top),aa z5 (xV s m.fst m.snd)=zV (dP s e d j) (↑d:Int).toNat 4 [dI (uH j)]/\sN f m s d l) (zBv s e f d l))/\∀(g:Nat×Top),f g->∃(h:Nat×Top),aa z5 (xV s h.fst h.snd)=aa z5 (xV s g.fst g.snd)/\∃(j:Nat×Top->Prop),((fB)/\∃(k:Int),zE [[dI 1],[dI 2]] (au.wrap ((0:Int)+(1:Int))).toNat 0 1=av [dI k]/\∃(l:Book),s.books[(↑d:Int).toNat]?=av l/\∃(m:BkS),zC m.side=k/\z7 m.b=z7 l/\(vC m)/\∀(n:Unit),True->∃(p:Book),z7 m.b=z7 p/\rE ((↑d:Int).toNat)/\(↑d:Int).toNat<s.books.length/\cnd (zW m).snd ((qS d s h)/\(qS d s h)/\(qS d s h)/\(↑d:Int).toNat<(uG s h).length/\(bV d s h)/\(bV d s h)/\rE ((zW m).fst.qty)/\rE ((zW m).fst.price)/\(↑d:Int).toNat<(aA s h d).length/\(l8 d s h m)/\rE ((zW m).fst.qty)/\(↑d:Int).toNat<(dY s h d m).length/\∃(q:Nat×Top),aa z5 (xV s q.fst q.snd)=zV (dY s h d m) (↑d:Int).toNat 5 [dI (uH m)]/\sN j q s d p) (zBv s h j d p))/\∀(k:Nat×Top),j k->∃(l:Nat),(↑l:Int)=au.wrap ((↑d:Int)+1)/\aa z5 (x6 s l)=aa z5 (xV s k.fst k.snd)/\b l/\c l<c d/\rE (xQ s 0)/\rE (xQ s 1)/\rE (xQ s 2)/\rE (xQ s 3)/\rE (xQ s 4)) (∃(e:Unit),rE (sb s.p.code)/\rE s.p.tick/\rE s.p.low/\rE s.p.high/\rE s.p.wide/\rE s.p.rule/\rE s.p.top/\rE s.p.least/\rE s.p.part/\ak 241 Book 6 zP s.books aw=xQ s 1/\rE (yO s.wh)/\aj 1 (iE s.p.months)=xQ s 3/\aj 1 (iE s.p.settle)=xQ s 4/\aa z5 s.tops=aa z5 (x6 s d)/\True)
def zDa (a:MSt) (b:StI):Prop:=aj 1 (iE a.p.months)=aj 1 (iE b.s.p.months)/\aj 1 (iE a.p.settle)=aj 1 (iE b.s.p.settle)/\a.Rep b.p (kE b.B b.id b.q).fst
def zCy (a:MSt) (b:StI):Prop:=yO a.wh=yO b.s.wh/\zDa a b
def rO (a:StI) (b:Int) (c:Bool):Prop:=kH (ax au a.id) (yO a.s.wh)=av [dI b]/\c=ar\/kH (ax au a.id) (yO a.s.wh)=aw/\[dI b]=[dI 0]/\c=aq
def aR (a:StI):Prop:=∀(b:Value×List D),b∈yO a.s.wh->like (ax au a.id) b.fst=ar
def yKc (i:StI):Prop:=
 (aR i)/\∃(a:Bool),∃(b:Int),(rO i b a)/\cnd (!a) (∃(c:MSt),(kE i.B i.id i.q).snd=26/\sb c.p.code=sb i.s.p.code/\c.p.tick=i.s.p.tick/\c.p.low=i.s.p.low/\c.p.high=i.s.p.high/\c.p.wide=i.s.p.wide/\c.p.rule=i.s.p.rule/\c.p.top=i.s.p.top/\c.p.least=i.s.p.least/\c.p.part=i.s.p.part/\ak 241 Book 6 zP c.books aw=ak 241 Book 6 zP i.s.books aw/\zCy c i) ((0<=b/\b<(↑i.s.books.length:Int))/\b.toNat<i.s.books.length/\∃(c:Book),i.s.books[b.toNat]?=av c/\∃(d:FlI),d.id=i.id/\d.qty=i.q/\z7 d.b=z7 c/\d.b.Rep d.L/\∀(e:Book),e.Rep (x4 d.L d.id d.qty).fst->∃(f:Book),z7 e=z7 f/\rE b.toNat/\b.toNat<i.s.books.length/\(0<=b/\b<(↑(i.s.books.set b.toNat f).length:Int))/\b.toNat<(i.s.books.set b.toNat f).length/\∃(g:Book),(i.s.books.set b.toNat f)[b.toNat]?=av g/\∃(h:FlI),h.id=i.id/\z7 h.b=z7 g/\h.b.Rep h.L/\∀(j:Unit),True->∃(k:Book),z7 h.b=z7 k/\rE b.toNat/\b.toNat<(i.s.books.set b.toNat f).length/\cnd (!wN h.L h.id) ((aR i)/\∃(l:MSt),(kE i.B i.id i.q).snd=(x4 d.L d.id d.qty).snd/\sb l.p.code=sb i.s.p.code/\l.p.tick=i.s.p.tick/\l.p.low=i.s.p.low/\l.p.high=i.s.p.high/\l.p.wide=i.s.p.wide/\l.p.rule=i.s.p.rule/\l.p.top=i.s.p.top/\l.p.least=i.s.p.least/\l.p.part=i.s.p.part/\ak 241 Book 6 zP l.books aw=ak 241 Book 6 zP ((i.s.books.set b.toNat f).set b.toNat k) aw/\yO l.wh=zBn (ax au i.id) (yO i.s.wh)/\zDa l i) (∃(l:MSt),(kE i.B i.id i.q).snd=(x4 d.L d.id d.qty).snd/\sb l.p.code=sb i.s.p.code/\l.p.tick=i.s.p.tick/\l.p.low=i.s.p.low/\l.p.high=i.s.p.high/\l.p.wide=i.s.p.wide/\l.p.rule=i.s.p.rule/\l.p.top=i.s.p.top/\l.p.least=i.s.p.least/\l.p.part=i.s.p.part/\ak 241 Book 6 zP l.books aw=ak 241 Book 6 zP ((i.s.books.set b.toNat f).set b.toNat k) aw/\zCy l i))
def yZs (i:BkL) (h:lad1C.cnd i):yQf i:=by
 obtain⟨Q,c,ht,hL⟩:i.b.Rep i.L:=h;have hsm:=c.small;obtain⟨⟨ha1,ha2⟩,hb1,hb2,hsp⟩:=id hsm;have hlad:=c.lad (.inl rfl);rw[<- hL]at hlad;have hlad:hP i.L (zC aq)=i.b.buys.map i.b.told:=hlad;unfold yQf zEb bU qW dI;simp only[hlad,y5c];refine⟨1,rfl,trivial,λ_ _=>Cv.cnd.mk (λe=>absurd e Z8) λ_=>⟨0,by(first|exact rfl|exact trivial),by(first|exact rfl|exact trivial),λj=>j<=i.b.buys.length,λj=>i.b.buys.length-j,y6i _,λj hj=>zH (λe=> ?_) (λe=> ?_)⟩⟩
 ·obtain⟨r,hr⟩:=yE (l:=i.b.buys) (i:=j) oM;have hi:=c.cnt;refine⟨⟨oM,oM⟩,r.price,r.queue,elA hr (by simp[zB]) rfl,⟨i.b.a,r.queue⟩,by(first|exact rfl|exact trivial),by(first|exact rfl|exact trivial),trivial,λ_ _=>⟨by(first|exact rfl|exact trivial),by(first|exact rfl|exact trivial),by(first|exact rfl|exact trivial),⟨i.b.a,r.queue⟩,by(first|exact rfl|exact trivial),by(first|exact rfl|exact trivial),by(first|exact rfl|exact trivial),λ_ _=>⟨by(first|exact rfl|exact trivial),by simp only[y5t,y5c];omega,j+1,wjn oM,?_,oM,Z9,k0q⟩⟩⟩;have hrt:(i.b.buys.map i.b.told)[j]? =av (i.b.told r):=by rw[y6q,hr];rfl
  rw[y6k,hrt];simp[lvE,Book.told]
 ·rw[y5n (by rw[y5c];omega)];exact⟨(),k0q⟩
def yOe:lad1C.ok Tryz.prog 158:=okw mixed (gokc eN (gokc zJd (gokc nY gok0))) 1 (λ_=>[]) (λi=>y2l aq i) [0] Tryz.func158 yZs
def yYo (i:BkL) (h:lad2C.cnd i):yQq i:=by
 obtain⟨Q,c,ht,hL⟩:i.b.Rep i.L:=h;have hsm:=c.small;obtain⟨⟨ha1,ha2⟩,hb1,hb2,hsp⟩:=id hsm;have hlad:=c.lad (.inr rfl);rw[<- hL]at hlad;have hlad:hP i.L (zC ar)=i.b.sells.map i.b.told:=hlad;unfold yQq bS zEb qW dI;simp only[hlad,y5c];refine⟨2,rfl,trivial,λ_ _=>Cv.cnd.mk (λe=>absurd e Z8) λ_=>⟨0,by(first|exact rfl|exact trivial),by(first|exact rfl|exact trivial),λj=>j<=i.b.sells.length,λj=>i.b.sells.length-j,y6i _,λj hj=>zH (λe=> ?_) (λe=> ?_)⟩⟩
 ·obtain⟨r,hr⟩:=yE (l:=i.b.sells) (i:=j) oM;have hi:=c.cnt;refine⟨⟨oM,oM⟩,r.price,r.queue,elA hr (by simp[zB]) rfl,⟨i.b.a,r.queue⟩,by(first|exact rfl|exact trivial),by(first|exact rfl|exact trivial),trivial,λ_ _=>⟨by(first|exact rfl|exact trivial),by(first|exact rfl|exact trivial),by(first|exact rfl|exact trivial),⟨i.b.a,r.queue⟩,by(first|exact rfl|exact trivial),by(first|exact rfl|exact trivial),by(first|exact rfl|exact trivial),λ_ _=>⟨by(first|exact rfl|exact trivial),by simp only[y5t,y5c];omega,j+1,wjn oM,?_,oM,Z9,k0q⟩⟩⟩;have hrt:(i.b.sells.map i.b.told)[j]? =av (i.b.told r):=by rw[y6q,hr];rfl
  rw[y6k,hrt];simp[lvE,Book.told]
 ·rw[y5n (by rw[y5c];omega)];exact⟨(),k0q⟩
def yLd:lad2C.ok Tryz.prog 158:=okw mixed (gokc eN (gokc zJd (gokc nY gok0))) 1 (λ_=>[]) (λi=>y2l ar i) [0] Tryz.func158 yYo
def yWq:ladC.ok Tryz.prog 158:=λj=>match j with
 |⟨b,L,aq⟩=>yOe ⟨b,L⟩
 |⟨b,L,ar⟩=>yLd ⟨b,L⟩
def yVy (s:MSt) (h:topsOC.cnd s):yDw s:=by
 obtain⟨h1,h2⟩:s.cntOk:=h;unfold yDw uH qS vC fB bR bV zAn zAe dP b6 l8 dY dC zW aA uG zBv sN dI;have p48:(2:Int) ^ (48:Nat)=281474976710656:=by decide
 refine⟨⟨oM,oM,oM,by rw[p48];omega⟩,0,rfl,?_,λj=>j<=s.books.length,λj=>s.books.length-j,oM,λj hj=>zH (λhlt=> ?_) (λhlt=> ?_)⟩
 ·rw[x6,y5l,List.map_replicate];rfl
 ·have hj':j<s.books.length:=by omega
  obtain⟨b,hb⟩:=yE hj';have hc:=h2 b (y5m hb);simp only[y5u];have ha:∀x,(aa z5 (xV s j x)).length=s.books.length:=λx=>by rw[y5c,zPt hj']
  have w1:au.wrap (0+1)=1:=by decide
  have w2:(0+1) % ((2:Int) ^ au.bits).natAbs=1:=by decide
  refine⟨⟨oM,oM⟩,oM,(j,top0),by rw[zJo hj'],λx=>x=(j,top0.buy (b.best b.buys)),⟨⟨Z8,Z8⟩,1,rfl,b,hb,⟨aq,b⟩,rfl,rfl,hc,λ_ _=>⟨b,rfl,kp,oM,?_⟩⟩,?_⟩
  ·refine Cv.cnd.mk (λc=> ?_) (λc=> ?_)
   ·have c:(b.best b.buys).2=ar:=c;have e1:=qU (s:=s) hj' (x:=top0) (y:={top0 with has1:=ar}) (f:=0+0+0*1) (ds:=[D.v (.bool ar)]) rfl;have e2:=qU (s:=s) hj' (x:={top0 with has1:=ar}) (y:={top0 with has1:=ar,p1:=(b.best b.buys).1.price}) (f:=0+2+0*1) (ds:=[D.v (.int .i64 (b.best b.buys).1.price)]) rfl;have e3:=qU (s:=s) hj' (x:={top0 with has1:=ar,p1:=(b.best b.buys).1.price}) (y:={top0 with has1:=ar,p1:=(b.best b.buys).1.price,q1:=(b.best b.buys).1.qty}) (f:=0+4+0*1) (ds:=[D.v (.int .i64 (b.best b.buys).1.qty)]) rfl;dsimp only;simp only[show b.side aq=b.buys from rfl,e1,e2,e3,ha]
    (repeat'(first|exact rfl|exact trivial|assumption|apply az|refineλ(_:Unit) (_:True)=>?_|refine ay () ?_|omega|(dsimp only;omega)))
    refine⟨(j,{top0 with has1:=ar,p1:=(b.best b.buys).1.price,q1:=(b.best b.buys).1.qty}),rfl,?_,?_⟩
    ·rw[Top.buy,y5d c]
    ·(repeat'(first|exact rfl|exact trivial|assumption|apply az|refineλ(_:Unit) (_:True)=>?_|refine ay () ?_|omega|(dsimp only;omega)))
     rw[fJ hb];rfl
   ·have c:(b.best b.buys).2=aq:=c;refine⟨(j,top0),rfl,?_,?_⟩
    ·rw[Top.buy,y5b (by rw[c];simp)]
    ·(repeat'(first|exact rfl|exact trivial|assumption|apply az|refineλ(_:Unit) (_:True)=>?_|refine ay () ?_|omega|(dsimp only;omega)))
     rw[fJ hb];rfl
  ·rintro _ rfl;rw[w1];generalize hx:top0.buy (b.best b.buys)=x;have hx2:b.top=x.sell (b.best b.sells):=by rw[Book.top,hx]
   refine⟨(j,x),rfl,λy=>y=(j,b.top),⟨⟨Z8,Z8⟩,2,rfl,b,hb,⟨ar,b⟩,rfl,rfl,hc,λ_ _=>⟨b,rfl,kp,oM,?_⟩⟩,?_⟩
   ·refine Cv.cnd.mk (λc=> ?_) (λc=> ?_)
    ·have c:(b.best b.sells).2=ar:=c;have e1:=qU (s:=s) hj' (x:=x) (y:={x with has2:=ar}) (f:=0+0+1*1) (ds:=[D.v (.bool ar)]) rfl;have e2:=qU (s:=s) hj' (x:={x with has2:=ar}) (y:={x with has2:=ar,p2:=(b.best b.sells).1.price}) (f:=0+2+1*1) (ds:=[D.v (.int .i64 (b.best b.sells).1.price)]) rfl;have e3:=qU (s:=s) hj' (x:={x with has2:=ar,p2:=(b.best b.sells).1.price}) (y:={x with has2:=ar,p2:=(b.best b.sells).1.price,q2:=(b.best b.sells).1.qty}) (f:=0+4+1*1) (ds:=[D.v (.int .i64 (b.best b.sells).1.qty)]) rfl;dsimp only;simp only[w2,show b.side ar=b.sells from rfl,e1,e2,e3,ha]
     (repeat'(first|exact rfl|exact trivial|assumption|apply az|refineλ(_:Unit) (_:True)=>?_|refine ay () ?_|omega|(dsimp only;omega)))
     refine⟨(j,{x with has2:=ar,p2:=(b.best b.sells).1.price,q2:=(b.best b.sells).1.qty}),rfl,?_,?_⟩
     ·rw[hx2,Top.sell,y5d c]
     ·(repeat'(first|exact rfl|exact trivial|assumption|apply az|refineλ(_:Unit) (_:True)=>?_|refine ay () ?_|omega|(dsimp only;omega)))
      rw[fJ hb];rfl
    ·have c:(b.best b.sells).2=aq:=c;refine⟨(j,x),rfl,?_,?_⟩
     ·rw[hx2,Top.sell,y5b (by rw[c];simp)]
     ·(repeat'(first|exact rfl|exact trivial|assumption|apply az|refineλ(_:Unit) (_:True)=>?_|refine ay () ?_|omega|(dsimp only;omega)))
      rw[fJ hb];rfl
   ·rintro _ rfl;refine⟨j+1,by rw[w64 (by omega)];rfl,?_⟩;refine⟨by dsimp only;rw[zKh hb],?_⟩;exact kp
 ·have hj:j<=s.books.length:=hj;obtain rfl:j=s.books.length:=by omega
  have e:x6 s s.books.length=s.tops:=by
   rw[x6,xAp,List.replicate_zero,y5y,y5n (by rw[MSt.tops,y5c];omega)]
  rw[e];exact kp
def zXn:topsOC.ok Tryz.prog 105:=okw mixed (gokc zLg gok0) 0 (λs=>yQs s) (λs=>yRx s) [] Tryz.func105 yVy
def yTw (i:StI) (h:stakeC.cnd i):yKc i:=by
 obtain⟨hR,hB⟩:i.s.Rep i.p i.B/\i.B.length<=1000:=h;have hat:=hR.at_ i.id;unfold yKc aR rO zCy zDa dI;cases hi:a8 i.B i.id with
 |none=>
  rw[hi]at hat;refine⟨dX _ _,aq,0,.inr ⟨by rw[pD,hat];rfl,rfl,rfl⟩,Cv.cnd.mk (λ_=>⟨i.s,?_⟩) (λe=>absurd e Z8)⟩;have ht:kE i.B i.id i.q=(i.B,26):=by rw[kE,hi]
  rw[ht];exact(rF8 (rF6 hR))
 |some k=>
  rw[hi]at hat;obtain⟨L,hL,hh⟩:=gJ hi;have hk:=(y5f.1 hL).1;obtain⟨b,hb⟩:=yE (l:=i.s.books) (i:=k) (by rw[hR.bl];exact hk);have hbR:=hR.bk k b L hb hL;have hbl:=hR.bl;have hnd:=hbR.ords.2.1;refine⟨dX _ _,ar,k,.inl ⟨by rw[pD,hat];rfl,rfl⟩,Cv.cnd.mk (λe=>absurd e Z8) (λ_=> ?_)⟩;rw[y5u];refine⟨⟨oM,oM⟩,oM,b,hb,⟨b,L,i.id,i.q⟩,rF3 ⟨hbR,λb' hb'=> ?_⟩⟩;have hT:=hR.take (q:=i.q) hi hL hnd hb';have hk2:(kE i.B i.id i.q).2=(x4 L i.id i.q).2:=by simp only[kE,hi,zS hL]
  refine⟨b',rfl,rfl,oM,by rw[y6j];omega,by rw[y6j];omega,b',fW oM,⟨b',(x4 L i.id i.q).1,i.id,0⟩,rfl,rfl,hb',λ_ _=>⟨b',rfl,rfl,by rw[y6j];omega,Cv.cnd.mk (λe=>⟨dX _ _,?_⟩) (λe=> ?_)⟩⟩
  ·have e:wN (x4 L i.id i.q).1 i.id=aq:=by simpa using e
   rw[e,y5b (by decide)]at hT;refine⟨{i.s with books:=i.s.books.set k b',wh:=z2p i.id i.s.wh},hk2,rF6 (rF3 ⟨?_,(z0z _ _).symm,rfl,rfl,hT⟩)⟩;rw[y9d]
  ·have e:wN (x4 L i.id i.q).1 i.id=ar:=by simpa using e
   rw[e,y5d rfl]at hT;refine⟨{i.s with books:=i.s.books.set k b',wh:=i.s.wh},hk2,rF6 (rF3 ⟨?_,rF3 hT⟩)⟩;rw[y9d]
def zEq:stakeC.ok Tryz.prog 171:=okw mixed (gokc yMn (gokc zZb gok0)) 0 (λ_=>[]) (λ_=>[]) [0] Tryz.func171 yTw
structure BOk (p:Prd) (B:List (List zI)):Prop where
 pc:p.check=0
 ps:p.small
 bl:B.length=p.count
 pr:∀(k:Nat) (L:List zI),B[k]? =av L->∀o∈L,p.price k o.price=0
def motherC:Con:=con1 Bool (λb=>[zA (zC b)]) (λ_=>[]) (λ_=>True) (λb=>zA (zC (!b))) (λ_=>[])
def cZ (s:Bool) (p x:Int):Bool:=if s then decide (p<=x)else decide (x<=p)
structure GoI where
 s:Bool
 p:Int
 x:Int
def mgoodC:Con:=con1 GoI (λi=>[zA (zC i.s),zA i.p,zA i.x]) (λ_=>[]) (λ_=>True) (λi=>yX (cZ i.s i.p i.x)) (λ_=>[])
def yS (p:Prd) (B:List (List zI)) (inst:Int) (s:Int):Quote×Bool×Bool:=
 let bq:=zU (xZ ⟨p,B.map qY,inst⟩ s) s
 let l:=bestL (B.getD inst.toNat []) s
 if(l.2 && !(bq.2 && btr s bq.1.price l.1.price))=ar then(⟨l.1.price,l.1.qty,⟨0,0⟩,⟨0,0⟩⟩,aq,ar)else(bq.1,bq.2,bq.2)
structure NxI where
 s:MSt
 p:Prd
 B:List (List zI)
 inst:Int
 sd:Bool
def nextC:Con:=con1 NxI (λi=>[.nm 0 0,zA i.inst,zA (zC i.sd)]) (λi=>[zD i.s]) (λi=>i.s.Rep i.p i.B/\BOk i.p i.B/\0<=i.inst/\i.inst<i.B.length)
 (λi=> .tup [zUl (yS i.p i.B i.inst (zC i.sd)).1,yX (yS i.p i.B i.inst (zC i.sd)).2.1,yX (yS i.p i.B i.inst (zC i.sd)).2.2]) (λi=>[zD i.s])
structure cK where
 id:Int
 inst:Int
 side:Int
 price:Int
 qty:Int
 left:Int
 deriving DecidableEq
def yW (f:cK):List D:=[.v (.int .i64 f.id),.v (.int .i64 f.inst),.v (.int .i64 f.side),.v (.int .i64 f.price),.v (.int .i64 f.qty),.v (.int .i64 f.left)]
def xY (inst s:Int):List zI->List Int->List cK
 |o::os,k::ks=>if 0<k then⟨o.id,inst,s,o.price,k,o.qty-k⟩::xY inst s os ks else xY inst s os ks
 |_,_=>[]
def kM (B:List (List zI)) (fs:List cK):List (List zI):=fs.foldl (λB f=>(kE B f.id f.qty).1) B
def zUw (B:List (List zI)) (inst s:Int):List zI:=atL (B.getD inst.toNat []) s (bestL (B.getD inst.toNat []) s).1.price
def qT (p:Prd) (B:List (List zI)) (inst s q:Int):List cK:=xY inst s (zUw B inst s) (kD ⟨p,zUw B inst s,q⟩)
structure TrI where
 s:MSt
 p:Prd
 B:List (List zI)
 inst:Int
 sd:Bool
 q:Int
def TrI.os (i:TrI):List zI:=zUw i.B i.inst (zC i.sd)
def TrI.sh (i:TrI):List Int:=kD ⟨i.p,i.os,i.q⟩
def TrI.fs (i:TrI) (j:Nat):List cK:=xY i.inst (zC i.sd) (i.os.take j) (i.sh.take j)
def tradeC:Con where
 ι:=TrI
 pat:=λi=>[.nm 0 0,.agg [zA i.inst,zA (zC i.sd)],zA i.q]
 pre:=λi=>[zD i.s]
 cnd:=λi=>i.s.Rep i.p i.B/\BOk i.p i.B/\0<=i.inst/\i.inst<i.B.length/\yV i.q
 alts:=λi=>[{o:=MSt,res:=λ_=> .own 1,post:=λs=>[zD s,.own 374 6 ((qT i.p i.B i.inst (zC i.sd) i.q).map yW)],rel:=λs=>s.Rep i.p (kM i.B (qT i.p i.B i.inst (zC i.sd) i.q))}]
def yTg (i:TrI):List SAnn:=[{ι:=Nat×MSt,slots:=λj=>[(0,.nm 0 0),(11,.own 1),(44,zA j.1)],rows:=λj=>[zD j.2,.own 374 6 ((i.fs j.1).map yW)]}]
def z6c (b:Bool):Prop:=
 ∃(a:Unit),(zC !b)=au.wrap (3-zC b)/\True
def yGl (i:GoI):Prop:=
 cnd (zC i.s==1) (cnd (decide (i.x<=i.p)) (∃(a:Unit),cZ i.s i.p i.x=ar/\True) (cnd (zC i.s==2) (∃(a:Unit),cZ i.s i.p i.x=decide (i.x>=i.p)/\True) (∃(a:Unit),cZ i.s i.p i.x=aq/\True))) (cnd (zC i.s==2) (∃(a:Unit),cZ i.s i.p i.x=decide (i.x>=i.p)/\True) (∃(a:Unit),cZ i.s i.p i.x=aq/\True))
def zHh (a:MSt) (b:NxI):Prop:=sb a.p.code=sb b.s.p.code/\True/\a.p.tick=b.s.p.tick/\a.p.low=b.s.p.low/\a.p.high=b.s.p.high/\a.p.wide=b.s.p.wide/\a.p.rule=b.s.p.rule/\a.p.top=b.s.p.top/\a.p.least=b.s.p.least/\a.p.part=b.s.p.part/\True/\True
def dM (a:BsI):Prop:=(a.s=1\/a.s=2)/\a.l.length<=1000000
def zIx (a:NxI) (b:MSt) (c:Book):Prop:=sb a.s.p.code=sb b.p.code/\a.s.p.tick=b.p.tick/\a.s.p.low=b.p.low/\a.s.p.high=b.p.high/\a.s.p.wide=b.p.wide/\a.s.p.rule=b.p.rule/\a.s.p.top=b.p.top/\a.s.p.least=b.p.least/\a.s.p.part=b.p.part/\ak 241 Book 6 zP a.s.books aw=ak 241 Book 6 zP (b.books.set a.inst.toNat c) aw/\yO a.s.wh=yO b.wh/\aj 1 (iE a.s.p.months)=aj 1 (iE b.p.months)/\aj 1 (iE a.s.p.settle)=aj 1 (iE b.p.settle)/\True
def z8 (a:NxI):=(yS a.p a.B a.inst (zC a.sd))
def zPm (a:NxI) (b:BsI) (c:MSt) (d:Book):Prop:=∃(e:Unit),(z8 a).fst.price=(zU b.l b.s).fst.price/\(z8 a).fst.qty=(zU b.l b.s).fst.qty/\(z8 a).fst.a.inst=(zU b.l b.s).fst.a.inst/\(z8 a).fst.a.side=(zU b.l b.s).fst.a.side/\(z8 a).fst.b.inst=(zU b.l b.s).fst.b.inst/\(z8 a).fst.b.side=(zU b.l b.s).fst.b.side/\(z8 a).snd.fst=(zU b.l b.s).snd/\(z8 a).snd.snd=(zU b.l b.s).snd/\zIx a c d
def zOm (a:NxI) (b:BkS) (c:MSt) (d:Book):Prop:=∃(e:Unit),(z8 a).fst.price=(zW b).fst.price/\(z8 a).fst.qty=(zW b).fst.qty/\(z8 a).fst.a.inst=0/\(z8 a).fst.a.side=0/\(z8 a).fst.b.inst=0/\(z8 a).fst.b.side=0/\(z8 a).snd.fst=aq/\(z8 a).snd.snd=ar/\zIx a c d
def zLd (a:lH) (b:NxI) (c:MSt):Prop:=∃(d:BsI),aa zJ d.l=aa zJ (xZ a.i (zC a.s))/\d.s=zC b.sd/\(dM d)/\∀(e:Unit),True->(0<=b.inst/\b.inst<(↑c.books.length:Int))/\b.inst.toNat<c.books.length/\∃(f:Book),c.books[b.inst.toNat]?=av f/\∃(g:BkS),zC g.side=zC b.sd/\z7 g.b=z7 f/\(vC g)/\∀(h:Unit),True->∃(j:Book),z7 g.b=z7 j/\rE b.inst.toNat/\b.inst.toNat<c.books.length/\cnd (zW g).snd (cnd (zU d.l d.s).snd (∃(k:I3'),k.side=zC b.sd/\k.x=(zU d.l d.s).fst.price/\k.y=(zW g).fst.price/\True/\∀(l:Unit),True->cnd (!btr k.side k.x k.y) (zOm b g c j) (zPm b d c j)) (zOm b g c j)) (zPm b d c j)
def zVk (a:MSt) (b:NxI):Prop:=(zHh a b)/\∃(c:lH),sb c.i.p.code=sb b.s.p.code/\iE c.i.p.months=iE a.p.months/\c.i.p.tick=b.s.p.tick/\c.i.p.low=b.s.p.low/\c.i.p.high=b.s.p.high/\c.i.p.wide=b.s.p.wide/\c.i.p.rule=b.s.p.rule/\c.i.p.top=b.s.p.top/\c.i.p.least=b.s.p.least/\c.i.p.part=b.s.p.part/\iE c.i.p.settle=iE a.p.settle/\aa z5 c.i.tops=aa z5 a.tops/\c.i.inst=b.inst/\zC c.s=zC b.sd/\(kF c)/\∀(d:Unit),True->zLd c b a
def dQ (a:MSt):Prop:=a.books.length<=1000000/\∀(b:Book),b∈a.books->∀(c:cJ),c∈b.a.queues->(-9223372036854775808)<=c.count/\c.count<=9223372036854775807
def yRv (i:NxI):Prop:=
 (∃(a:MSt),sb a.p.code=sb i.s.p.code/\a.p.tick=i.s.p.tick/\a.p.low=i.s.p.low/\a.p.high=i.s.p.high/\a.p.wide=i.s.p.wide/\a.p.rule=i.s.p.rule/\a.p.top=i.s.p.top/\a.p.least=i.s.p.least/\a.p.part=i.s.p.part/\ak 241 Book 6 zP a.books aw=ak 241 Book 6 zP i.s.books aw/\yO a.wh=yO i.s.wh/\aj 1 (iE a.p.months)=aj 1 (iE i.s.p.months)/\aj 1 (iE a.p.settle)=aj 1 (iE i.s.p.settle)/\(dQ a)/\∀(b:Unit),True->(zHh a i)/\(∃(c:lH),sb c.i.p.code=sb i.s.p.code/\iE c.i.p.months=iE a.p.months/\c.i.p.tick=i.s.p.tick/\c.i.p.low=i.s.p.low/\c.i.p.high=i.s.p.high/\c.i.p.wide=i.s.p.wide/\c.i.p.rule=i.s.p.rule/\c.i.p.top=i.s.p.top/\c.i.p.least=i.s.p.least/\c.i.p.part=i.s.p.part/\iE c.i.p.settle=iE a.p.settle/\aa z5 c.i.tops=aa z5 a.tops/\c.i.inst=i.inst/\zC c.s=zC i.sd/\(kF c)/\∀(d:Unit),True->(zLd c i a)/\zLd c i a)/\zVk a i)/\(rE (sb i.s.p.code)/\True/\rE i.s.p.tick/\rE i.s.p.low/\rE i.s.p.high/\rE i.s.p.wide/\rE i.s.p.rule/\rE i.s.p.top/\rE i.s.p.least/\rE i.s.p.part/\True/\True)/\∃(a:MSt),sb a.p.code=sb i.s.p.code/\a.p.tick=i.s.p.tick/\a.p.low=i.s.p.low/\a.p.high=i.s.p.high/\a.p.wide=i.s.p.wide/\a.p.rule=i.s.p.rule/\a.p.top=i.s.p.top/\a.p.least=i.s.p.least/\a.p.part=i.s.p.part/\ak 241 Book 6 zP a.books aw=ak 241 Book 6 zP i.s.books aw/\yO a.wh=yO i.s.wh/\aj 1 (iE a.p.months)=aj 1 (iE i.s.p.months)/\aj 1 (iE a.p.settle)=aj 1 (iE i.s.p.settle)/\(dQ a)/\∀(b:Unit),True->zVk a i
def mL (a:AtI):=(aa vA (atL a.L (zC a.s) a.price))
def zHx (a:Nat×MSt->Prop) (b:Nat×MSt) (c:Nat×MSt->Nat) (d:Nat×MSt) (e:AlI) (f:AtI) (g:BkS) (h:TrI):Prop:=a b/\c b<c d/\rE (ao 2 1 (iE (kD e)))/\rE (aj 5 (mL f))/\rE (am [V.d (dI (dC g)),V.d (dI (uH g)),V.d (dI ((zW g).fst.count))] 41)/\rE (am [V.d (dI h.inst),V.d (dI (zC h.sd))] 256)/\rE (aj 1 (iE h.s.p.months))/\rE (aj 1 (iE h.s.p.settle))
def gK (a:TrI):=(qT a.p a.B a.inst (zC a.sd) a.q)
def dL (a:TrI):=(kM a.B (gK a))
def yEh (i:TrI):Prop:=
 (0<=i.inst/\i.inst<(↑i.s.books.length:Int))/\i.inst.toNat<i.s.books.length/\∃(a:Book),i.s.books[i.inst.toNat]?=av a/\∃(b:BkS),zC b.side=zC i.sd/\z7 b.b=z7 a/\(vC b)/\∀(c:Unit),True->∃(d:Book),z7 b.b=z7 d/\rE i.inst.toNat/\i.inst.toNat<i.s.books.length/\∃(e:Book),(i.s.books.set i.inst.toNat d)[i.inst.toNat]?=av e/\∃(f:AtI),zC f.s=zC i.sd/\f.price=(zW b).fst.price/\z7 f.b=z7 e/\f.b.Rep f.L/\∀(g:Unit),True->∃(h:Book),z7 f.b=z7 h/\rE i.inst.toNat/\i.inst.toNat<(i.s.books.set i.inst.toNat d).length/\∃(j:AlI),sb j.p.code=sb i.s.p.code/\iE j.p.months=iE i.s.p.months/\j.p.tick=i.s.p.tick/\j.p.low=i.s.p.low/\j.p.high=i.s.p.high/\j.p.wide=i.s.p.wide/\j.p.rule=i.s.p.rule/\j.p.top=i.s.p.top/\j.p.least=i.s.p.least/\j.p.part=i.s.p.part/\iE j.p.settle=iE i.s.p.settle/\aa vA j.l=aa vA (atL f.L (zC f.s) f.price)/\j.q=i.q/\(j.l.length<=1000/\((-9223372036854775808)<=j.q/\j.q<=9223372036854775807)/\((-9223372036854775808)<=j.p.least/\j.p.least<=9223372036854775807)/\((-9223372036854775808)<=j.p.top/\j.p.top<=9223372036854775807)/\(-9223372036854775808)<=j.p.part/\j.p.part<=9223372036854775807)/\∀(k:Unit),True->∃(l:Nat×MSt),(↑l.fst:Int)=0/\sb l.snd.p.code=sb i.s.p.code/\l.snd.p.tick=i.s.p.tick/\l.snd.p.low=i.s.p.low/\l.snd.p.high=i.s.p.high/\l.snd.p.wide=i.s.p.wide/\l.snd.p.rule=i.s.p.rule/\l.snd.p.top=i.s.p.top/\l.snd.p.least=i.s.p.least/\l.snd.p.part=i.s.p.part/\ak 241 Book 6 zP l.snd.books aw=ak 241 Book 6 zP ((i.s.books.set i.inst.toNat d).set i.inst.toNat h) aw/\yO l.snd.wh=yO i.s.wh/\aj 1 (iE l.snd.p.months)=aj 1 (iE i.s.p.months)/\aj 1 (iE l.snd.p.settle)=aj 1 (iE i.s.p.settle)/\aa yW (i.fs l.fst)=[]/\∃(m:Nat×MSt->Prop),∃(n:Nat×MSt->Nat),m l/\∀(p:Nat×MSt),m p->cnd (decide ((↑p.fst:Int)<(↑(iE (kD j)).length:Int))) ((0<=(↑p.fst:Int)/\(↑p.fst:Int)<(↑(iE (kD j)).length:Int))/\∃(q:Int),zE (iE (kD j)) (↑p.fst:Int).toNat 0 1=av [dI q]/\cnd (decide (q>0)) ((0<=(↑p.fst:Int)/\(↑p.fst:Int)<(↑(mL f).length:Int))/\∃(r:Int),∃(s:Int),∃(t:Int),∃(u:Int),∃(v:Bool),zE (mL f) (↑p.fst:Int).toNat 0 5=av [dI r,dI s,dI t,dI u,D.v (.bool v)]/\∃(w:StI),w.id=r/\w.q=q/\zD w.s=zD p.snd/\(w.s.Rep w.p w.B/\w.B.length<=1000)/\∀(x:MSt),x.Rep w.p (kE w.B w.id w.q).fst->((aa yW (i.fs p.fst)).length+1)*(48:Nat)<=(140737488355328:Nat)/\∃(y:Nat×MSt),(↑y.fst:Int)=au.wrap ((↑p.fst:Int)+1)/\zD y.snd=zD x/\aa yW (i.fs y.fst)=aa yW (i.fs p.fst)++[[dI r,dI i.inst,dI (zC i.sd),dI t,dI q,dI (au.wrap (u-q))]]/\zHx m y n p j f b i) (∃(r:Nat×MSt),(↑r.fst:Int)=au.wrap ((↑p.fst:Int)+1)/\zD r.snd=zD p.snd/\aa yW (i.fs r.fst)=aa yW (i.fs p.fst)/\zHx m r n p j f b i)) (∃(q:MSt),zD q=zD p.snd/\aa yW (gK i)=aa yW (i.fs p.fst)/\q.Rep i.p (dL i))
def eX {p:Prd} (hc:p.check=0) {k v:Int} (h:p.price k v=0): -2000000<=v/\v<=2000000:=by
 have ok:=kA hc;have:=ok.b1;have:=ok.b2;have:=ok.b3;have:=ok.b4;have:=ok.b5;rw[Prd.price]at h;by_cases c1:p.count=0
 ·rw[y5d c1]at h;cases h
 by_cases c2:k<0\/(p.count:Int)<=k
 ·rw[y5b c1,y5d c2]at h;cases h
 cases c3:qN p.tick v with
 |true=>rw[y5b c1,y5b c2,y5d c3]at h;cases h
 |false=>
  rw[y5b c1,y5b c2,y5b (by rw[c3];decide)]at h;by_cases c4:(p.months.length:Int)<=k
  ·simp only[y5d c4]at h;by_cases c5:v< -p.wide\/p.wide<v
   ·rw[y5d c5]at h;cases h
   ·omega
  ·simp only[y5b c4]at h;by_cases c5:v<p.low\/p.high<v
   ·rw[y5d c5]at h;cases h
   ·omega
def zAv {t:Int} (k:Int):qN t (t*k)=aq:=by
 simp[qN,Int.mul_tmod_right]
def zJj (x:Prd):(kprod x).small:=by
 have:=yGc x;refine⟨by simp[kprod],?_,?_⟩
 ·show(qJ _).length<=_;rw[eQ];omega
 ·show(kC _ _).length<=_;rw[nA];omega
def m8 (x:Prd):(kprod x).check=0:=by
 have ht:=zFr x;have hn:=yGc x;have hw:=yQ (n:=x.wide) (lo:=0) (hi:=60) oM;have hr:=yQ (n:=x.rule) (lo:=0) (hi:=2) oM;have ho:=yQ (n:=x.top) (lo:=0) (hi:=9) oM;have hl:=yQ (n:=x.least) (lo:=0) (hi:=4) oM;have hp:=yQ (n:=x.part) (lo:=0) (hi:=100) oM;have h1:j8 (kprod x).code=ar:=by show j8 [206,169]=ar;decide+kernel
 obtain⟨k,hk,hk1⟩:∃k:Nat,(kN x).toNat=k/\(2<=k/\k<=5):=⟨_,rfl,oM⟩
 have h2:xG (kprod x).months=ar:=by
  show xG (qJ (kN x).toNat)=ar;rw[hk];have:k=2\/k=3\/k=4\/k=5:=by omega
  rcases this with rfl|rfl|rfl|rfl<;>decide
 have h3:qK (kprod x)=ar:=by
  have a:qN (zR x) (-20*zR x)=aq:=by rw[y9l];exact zAv _
  have b:qN (zR x) (100*zR x)=aq:=by rw[y9l];exact zAv _
  have c:(kC (zR x) (kN x).toNat).any (qN (zR x))=aq:=by
   rw[xBg];intro y hy;obtain⟨j,_,rfl⟩:=y6n.1 hy;rw[zAv];decide
  simp only[qK,kprod,a,b,c,zAv,xAd,Bool.and_true,y5p];exact⟨y5s oM,y5s oM⟩
 have mw:=eA (a:=zR x) (b:=5+zF x.wide 0 60) (m:=zR x) (n:=65) oM oM;have h4:qI (kprod x)=aq:=by
  simp only[qI,kprod,y9g];exact⟨⟨⟨⟨y5o oM,y5o oM⟩,y5o oM⟩,y5o oM⟩,y5o oM⟩
 have h5:xI (kprod x)=aq:=by
  have e:(kC (zR x) (kN x).toNat).length=(qJ (kN x).toNat).length:=by rw[nA,eQ]
  have ne:kC (zR x) (kN x).toNat≠[]:=by
   intro hc;have:=nA (zR x) (kN x).toNat;rw[hc]at this;simp at this;omega
  have bd:∀y∈kC (zR x) (kN x).toNat,0<=y/\y<=zR x*15:=by
   intro y hy;obtain⟨j,hj,rfl⟩:=y6n.1 hy;have:=y8f.1 hj;exact eA oM oM
  have m1:=bd _ (z0t ne);have m2:=bd _ (z1e ne);simp only[xI,kprod,e,ne_eq,not_true_eq_false,decide_false,xAx,y9g];exact⟨y5o oM,y5o oM⟩
 have h6:kB (kprod x)=aq:=by
  simp only[kB,kprod,y9g];exact⟨y5o oM,y5o oM⟩
 have h7:x3 (kprod x)=aq:=by
  simp only[x3,kprod,y9g];exact⟨⟨⟨⟨⟨y5o oM,y5o oM⟩,y5o oM⟩,y5o oM⟩,y5o oM⟩,y5o oM⟩
 rw[Prd.check,h1,h2,h3,h4,h5,h6,h7];rfl
structure zVi (qs sh:List Int) (q:Int):Prop where
 len:sh.length=qs.length
 bd:∀n,0<=sh.getD n 0/\sh.getD n 0<=qs.getD n 0
 sum:sh.sum=q
def yGm:∀{l:List Int},(∀x∈l,0<=x)->0<=l.sum
 |[],_=>y8p 0
 |a::l,h=>by
  have:=yGm (l:=l) λx hx=>h x (y5j _ hx)
  have:=h a y5h;rw[y6s];omega
def z8r:∀{z:List (Int×Int)},(∀y∈z,0<=y.2/\y.2<=y.1)->(z.map (·.2)).sum<=(z.map (·.1)).sum
 |[],_=>y8p 0
 |a::l,h=>by
  have:=z8r (z:=l) λx hx=>h x (y5j _ hx)
  have:=h a y5h;rw[y5q,y5q,y6s,y6s];omega
def eW:∀(l:List Int) (q:Int),(∀x∈l,0<=x)->0<=q->q<=l.sum->zVi l (uV l q) q
 |[],q,_,h0,h1=>⟨rfl,λn=>by simp[uV],by simp at h1;simp[uV];omega⟩
 |n::l,q,h,h0,h1=>by
  have hn:=h n y5h;rw[y6s]at h1;have:=yGm λx hx=>h x (y5j _ hx)
  have ih:=eW l (q-min n q) (λx hx=>h x (y5j _ hx)) oM oM;refine⟨by rw[uV,y5g,y5g,ih.len],λk=> ?_,by rw[uV,y6s,ih.sum];omega⟩;cases k with
  |zero=>exact⟨by show 0<=min n q;omega,by show min n q<=n;omega⟩
  |succ k=>exact ih.bd k
def zBq:∀(z:List (Int×Int)) (q:Int),(∀y∈z,0<=y.2/\y.2<=y.1)->0<=q->q<=(z.map (·.1)).sum-(z.map (·.2)).sum->(j7 z q).length=z.length/\(∀n,0<=(j7 z q).getD n 0/\(j7 z q).getD n 0<=(z.map (·.1)).getD n 0)/\(j7 z q).sum=(z.map (·.2)).sum+q
 |[],q,_,h0,h1=>⟨rfl,λn=>by simp[j7],by simp at h1;simp[j7];omega⟩
 |(n,x)::r,q,h,h0,h1=>by
  have hn:=h (n,x) y5h;simp only[y5q,y6s]at h1;have:=z8r λy hy=>h y (y5j _ hy)
  have ih:=zBq r (q-min (n-x) q) (λy hy=>h y (y5j _ hy)) oM oM;refine⟨by rw[j7,y5g,y5g,ih.1],λk=> ?_,by rw[j7,y6s,ih.2.2,y5q,y6s];omega⟩;cases k with
  |zero=>exact⟨by show 0<=x+min (n-x) q;have:=hn.1;have:=hn.2;dsimp only at*;omega,by show x+min (n-x) q<=n;have:=hn.2;dsimp only at*;omega⟩
  |succ k=>exact ih.2.1 k
def yHl {l:List Int} {q:Int} (h1:l.length<=250) (h2:0<=q) (h3:∀x∈l,1<=x/\x<=1000000) (h4:q<=l.sum):yT l q=ar:=by
 rw[yT,y5s h1,y5s h2,y5s h4];simp only[y7y,Bool.and_true,y8h,y5p,y6p];exact h3
def zVt {i:PlI} (h:yT i.l i.q=ar) (hl:1<=i.least):zVi i.l (jC i) i.q:=by
 obtain⟨r1,r2,r3,r4⟩:=jF h;rw[jC,y5d ⟨h,hl⟩];by_cases hne:i.l.length=0
 ·have e:i.l=[]:=y6c hne;have hq:i.q=0:=by rw[e]at r4;simp at r4;omega
  have e0:i.p1=[]:=by rw[PlI.p1,e];rfl
  rw[e0,e,hq];exact⟨rfl,λn=>by simp,rfl⟩
 ·obtain⟨_,_,f1,f2⟩:=zFj h oM;have hpl:=z3y i;have m1:(i.l.zip i.p0).map (·.1)=i.l:=List.map_fst_zip oM;have m2:(i.l.zip i.p0).map (·.2)=i.p0:=List.map_snd_zip oM;have hp:=zBq (i.l.zip i.p0) (i.q-i.p0.sum) (λy hy=>by
   obtain⟨j,hj⟩:=y7t.1 hy;rw[y9t]at hj;exact f1 j _ _ hj.1 hj.2) oM (by rw[m1,m2];omega)
  rw[m1,m2]at hp;refine⟨?_,hp.2.1,?_⟩
  ·rw[PlI.p1,hp.1,List.length_zip,hpl,Nat.min_self]
  ·rw[PlI.p1,hp.2.2];omega
def zWe:∀{l:List Int} {k:Nat} {x:Int},k<l.length->(l.set k x).sum=l.sum+(x-l.getD k 0)
 |[],k,x,h=>absurd h (by simp)
 |a::l,0,x,_=>by
  show x+l.sum=a+l.sum+(x-a);omega
 |a::l,k+1,x,h=>by
  have:=zWe (l:=l) (k:=k) (x:=x) (by simpa using h);show a+(l.set k x).sum=a+l.sum+(x-l.getD k 0);omega
def zMt {l:List Int} {k n:Nat} {x:Int} (h:k<l.length):(l.set k x).getD n 0=if n=k then x else l.getD n 0:=by
 rw[y5k,y8r];by_cases e:k=n
 ·subst e;rw[y5d rfl,y5d h,y5d rfl];rfl
 ·rw[y5b e,y5b (λe2=>e e2.symm),y5k]
def zXp {l:List Int}:∀(z:List (Nat×Int)) (o:List Int),(z.map (·.1)).Nodup->(∀y∈z,y.1<o.length/\0<=y.2/\o.getD y.1 0+y.2<=l.getD y.1 0)->(∀n,0<=o.getD n 0/\o.getD n 0<=l.getD n 0/\l.getD n 0<=1000000)->
 (z.foldl (λo y=>o.set y.1 (au.wrap (o.getD y.1 0+y.2))) o).length=o.length/\(z.foldl (λo y=>o.set y.1 (au.wrap (o.getD y.1 0+y.2))) o).sum=o.sum+(z.map (·.2)).sum/\∀n,0<=(z.foldl (λo y=>o.set y.1 (au.wrap (o.getD y.1 0+y.2))) o).getD n 0/\(z.foldl (λo y=>o.set y.1 (au.wrap (o.getD y.1 0+y.2))) o).getD n 0<=l.getD n 0
 |[],o,_,_,h=>⟨rfl,by simp,λn=>⟨(h n).1,(h n).2.1⟩⟩
 |y::z,o,hn,hz,h=>by
  obtain⟨h1,h2,h3⟩:=hz y y5h;rw[y5q,y7s]at hn;have hw:au.wrap (o.getD y.1 0+y.2)=o.getD y.1 0+y.2:=by
   have:=h y.1;exact w64 oM
  rw[y8u,hw];have ih:=zXp (l:=l) z (o.set y.1 (o.getD y.1 0+y.2)) hn.2 (λx hx=>by
   obtain⟨g1,g2,g3⟩:=hz x (y5j _ hx);have hne:x.1≠y.1:=λe=>hn.1 (e▸y6f (f:=(·.1)) hx)
   rw[y6j,zMt h1,y5b hne];exact⟨g1,g2,g3⟩) (λn=>by
   rw[zMt h1];split
   ·rename_i e;rw[e];exact⟨by have:=h y.1;omega,h3,(h y.1).2.2⟩
   ·exact h n)
  refine⟨by rw[ih.1,y6j],?_,ih.2.2⟩;rw[ih.2.1,zWe h1,y5q,y6s];omega
def zOt (l:List Int):(List.range l.length).map (λn=>l.getD n 0)=l:=by
 apply y8y;intro n;rw[y6q];by_cases h:n<l.length
 ·rw[y9j h,y6d h,y7e,y5k,y6d h];rfl
 ·rw[y6h (by simpa using h),y6h (by omega)];rfl
def z6t {f g:Nat->Int}:∀l:List Nat,(l.map λn=>f n-g n).sum=(l.map f).sum-(l.map g).sum
 |[]=>rfl
 |a::l=>by rw[y5q,y5q,y5q,y6s,y6s,y6s,z6t l];omega
def zOb {f:Nat->Int} {p:Nat->Bool}:∀{l:List Nat},(∀n∈l,p n=aq->f n=0)->((l.filter p).map f).sum=(l.map f).sum
 |[],_=>rfl
 |a::l,h=>by
  have ih:=zOb (l:=l) λn hn=>h n (y5j _ hn)
  rw[y5q,y6s];by_cases e:p a=ar
  ·rw[y9z e,y5q,y6s,ih]
  ·rw[xAa e,ih,h a y5h (by simpa using e)];omega
def eZ {i:RsI} (hl:i.l.length<=250) (ho:i.out.length=i.l.length) (hn:∀n,0<=i.out.getD n 0/\i.out.getD n 0<=i.l.getD n 0/\i.l.getD n 0<=1000000) (hq:0<=i.q/\i.q<=i.l.sum-i.out.sum) (hle:1<=i.least):
 zVi i.l (pH i) (i.out.sum+i.q):=by
 have hidx:(i.idx i.l.length).length<=250:=y7x (y8n _ _) (by simpa using hl);have hmem:∀n∈i.idx i.l.length,n<i.l.length/\i.out.getD n 0<i.l.getD n 0:=by
  intro n hn;obtain⟨a,b⟩:=y7b.1 hn;exact⟨y8f.1 a,y6a b⟩
 have hls:(i.left i.l.length).sum=i.l.sum-i.out.sum:=by
  rw[RsI.left,RsI.idx,zOb,z6t,zOt]
  ·rw[<- ho,zOt]
  ·intro n _ e;have:=y9q e;have:=hn n;omega
 have hr:yT (i.left i.l.length) i.q=ar:=by
  refine yHl (by rw[RsI.left,y5c];exact hidx) hq.1 (λx hx=> ?_) oM;obtain⟨n,hm,rfl⟩:=y6n.1 hx;have:=hmem n hm;have:=hn n;omega
 have hp:=zVt (i:=⟨i.left i.l.length,i.least,i.q⟩) hr hle;have hpl:i.pl.length=(i.idx i.l.length).length:=by
  have:=hp.len;rw[RsI.pl,this,RsI.left,y5c]
 have hnd:(i.idx i.l.length).Nodup:=List.nodup_range.sublist xAv;have z1:((i.idx i.l.length).zip i.pl).map (·.1)=i.idx i.l.length:=List.map_fst_zip oM;have z2:((i.idx i.l.length).zip i.pl).map (·.2)=i.pl:=List.map_snd_zip oM;have hf:=zXp (l:=i.l) ((i.idx i.l.length).zip i.pl) i.out (by rw[z1];exact hnd) (λy hy=>by
  obtain⟨j,hj⟩:=y7t.1 hy;rw[y9t]at hj;have hm:=hmem y.1 (y5m hj.1);have hb:=hp.bd j;have e1:(jC ⟨i.left i.l.length,i.least,i.q⟩).getD j 0=y.2:=by
   rw[y5k];have:(jC ⟨i.left i.l.length,i.least,i.q⟩)[j]? =av y.2:=hj.2;rw[this];rfl
  have e2:(i.left i.l.length).getD j 0=i.l.getD y.1 0-i.out.getD y.1 0:=by
   rw[y5k,RsI.left,y6q,hj.1];rfl
  dsimp only at hb;rw[e1,e2]at hb;exact⟨oM,hb.1,oM⟩) hn
 have hall:pH i=((i.idx i.l.length).zip i.pl).foldl (λo y=>o.set y.1 (au.wrap (o.getD y.1 0+y.2))) i.out:=by
  rw[pH,RsI.add,y5n (by rw[List.length_zip];omega)]
 rw[hall];refine⟨by rw[hf.1,ho],hf.2.2,?_⟩;rw[hf.2.1,z2];have:=hp.sum;rw[RsI.pl,this]
def z6s {l:List Int} (h:∀x∈l,1<=x/\x<=1000000) (n:Nat):0<=l.getD n 0/\l.getD n 0<=1000000:=by
 by_cases hn:n<l.length
 ·obtain⟨x,hx⟩:=yE hn;have:=h x (y5m hx);rw[zS hx];omega
 ·rw[y5k,y6h (by omega)];decide
def yVb (n k:Nat):(ab n (0:Int)).getD k 0=0:=by
 rw[y5k,List.getElem?_replicate];split<;>rfl
def zOu (n:Nat):(ab n (0:Int)).sum=0:=by
 induction n with
 |zero=>rfl
 |succ n ih=>rw[y9i,y6s,ih];rfl
def yTr {q part:Int} (hq:0<=q) (h0:0<=part) (h1:part<=100):0<=q*part / 100/\q*part / 100<=q:=by
 have h2:0<=q*part:=xBi hq h0;have h3:q*part<=q*100:=y9y h1 hq;constructor<;>omega
def zTn {p:Prd} (hc:p.check=0) {l:List zI} {q:Int} (hr:yT (l.map (·.qty)) q=ar):zVi (l.map (·.qty)) (kD ⟨p,l,q⟩) q:=by
 have ok:=kA hc;obtain⟨r1,r2,r3,r4⟩:=jF hr;have q1:=ok.q1;have q3:=ok.q3;have q5:=ok.q5;have q6:=ok.q6;have r5:=ok.r1;have r6:=ok.r2;have gb:=z6s r3;have eqs:(AlI.qs ⟨p,l,q⟩)=l.map (·.qty):=rfl;rw[kD];simp only[eqs];generalize l.map (·.qty)=qs at*;by_cases c1:p.rule=1
 ·rw[y5d c1,hY,y5d hr];exact eW _ _ (λx hx=>by have:=r3 x hx;omega) r2 r4
 by_cases c2:p.rule=2
 ·rw[y5b c1,y5d c2,zFk,y5d ⟨hr,q3,q1⟩];rw[PsI.rs];dsimp only;split
  ·rename_i ht;have hk:(topI l).toNat<(ab qs.length (0:Int)).length:=by simp;omega
   have hf:0<=PsI.first ⟨qs,topI l,p.top,p.least,q⟩/\PsI.first ⟨qs,topI l,p.top,p.least,q⟩<=qs.getD (topI l).toNat 0/\PsI.first ⟨qs,topI l,p.top,p.least,q⟩<=q:=by
    have:=gb (topI l).toNat;simp only[PsI.first];omega
   have hs:((ab qs.length (0:Int)).set (topI l).toNat (PsI.first ⟨qs,topI l,p.top,p.least,q⟩)).sum=PsI.first ⟨qs,topI l,p.top,p.least,q⟩:=by
    rw[zWe hk,zOu,yVb];omega
   have:=eZ (i:=⟨qs,(ab qs.length 0).set (topI l).toNat (PsI.first ⟨qs,topI l,p.top,p.least,q⟩),p.least,q-PsI.first ⟨qs,topI l,p.top,p.least,q⟩⟩) r1 (by simp) (λn=>by
    dsimp only;rw[zMt hk,yVb];have:=gb n;split
    ·rename_i e;rw[e];exact⟨hf.1,hf.2.1,(gb _).2⟩
    ·omega) (by dsimp only;rw[hs];omega) q3
   dsimp only at this;rw[hs]at this;have e:PsI.first ⟨qs,topI l,p.top,p.least,q⟩+(q-PsI.first ⟨qs,topI l,p.top,p.least,q⟩)=q:=by omega
   rw[e]at this;exact this
  ·have:=eZ (i:=⟨qs,ab qs.length 0,p.least,q⟩) r1 (by simp) (λn=>by
    dsimp only;rw[yVb];have:=gb n;omega) (by dsimp only;rw[zOu];omega) q3
   dsimp only at this;rw[zOu,Int.zero_add]at this;exact this
 ·have c3:p.rule=3:=by omega
  rw[y5b c1,y5b c2,y5d c3,zDf,y5d ⟨hr,q5,q6,q3⟩];rw[SpI.rs];dsimp only;obtain⟨d1,d2⟩:=yTr r2 q5 q6;have hr2:yT qs (q*p.part / 100)=ar:=yHl r1 d1 r3 oM;have hfs:=eW qs (q*p.part / 100) (λx hx=>by have:=r3 x hx;omega) d1 oM;have e0:hY qs (q*p.part / 100)=uV qs (q*p.part / 100):=by rw[hY,y5d hr2]
  have:=eZ (i:=⟨qs,hY qs (q*p.part / 100),p.least,q-q*p.part / 100⟩) r1 (by dsimp only;rw[e0];exact hfs.len) (λn=>by
   dsimp only;rw[e0];exact⟨(hfs.bd n).1,(hfs.bd n).2,(gb n).2⟩) (by dsimp only;rw[e0,hfs.sum];omega) q3
  dsimp only at this;rw[e0,hfs.sum]at this;rw[e0];have e:q*p.part / 100+(q-q*p.part / 100)=q:=by omega
  rw[e]at this;exact this
def z1l {p:Prd} {l:List zI} {q:Int} (hr:yT (l.map (·.qty)) q=aq):kD ⟨p,l,q⟩=[]:=by
 have eqs:(AlI.qs ⟨p,l,q⟩)=l.map (·.qty):=rfl;rw[kD];simp only[eqs,hY,zFk,zDf,hr];simp
def zRe:motherC.ok Tryz.prog 206:=okw (V:=z6c) mixed gok0 0 (λ_=>[]) (λ_=>[]) [] Tryz.func206 λ(b:Bool) _=>by
 unfold z6c;cases b<;>exact⟨(),Z8,trivial⟩
def z0o:mgoodC.ok Tryz.prog 207:=okw (V:=yGl) mixed gok0 0 (λ_=>[]) (λ_=>[]) [] Tryz.func207 λ(i:GoI) _=>by
 obtain⟨s,p,x⟩:=i;unfold yGl;cases s
 ·refine Cv.cnd.mk (λ_=>zH (λc=>⟨(),?_,trivial⟩) (λc=>Cv.cnd.mk (λe=>by simp[zC]at e) (λ_=>⟨(),?_,trivial⟩))) (λe=>by simp[zC]at e)
  ·exact y5s c
  ·exact y5o c
 ·exact Cv.cnd.mk (λe=>by simp[zC]at e) (λ_=>Cv.cnd.mk (λ_=>⟨(),rfl,trivial⟩) (λe=>by simp[zC]at e))
def z0s {L:List zI} {s:Int}:((bestL L s).2=ar/\∃o∈L,o.side=s/\o.price=(bestL L s).1.price)\/(bestL L s=(⟨0,0,0⟩,aq)/\∀o∈L,o.side≠s):=by
 rw[bestL];cases hl:hP L s with
 |nil=>
  refine .inr ⟨rfl,λo ho e=> ?_⟩;rw[hP]at hl;cases hf:L.filter λo=>decide (o.side=s)with
  |nil=>
   rw[ac]at hf;have:=hf o ho;simp[e]at this
  |cons x y=>
   rw[hf,grp]at hl;split at hl
   ·cases hl
   ·split at hl<;>cases hl
 |cons v vs=>
  refine .inl ⟨rfl,?_⟩;rw[hP]at hl;obtain⟨o,r,e1,e2⟩:=zPs hl;have:o∈L.filter λo=>decide (o.side=s):=by rw[e1];exact y5h
  rw[y7b]at this;exact⟨o,this.1,by simpa using this.2,e2⟩
def zUz {L:List zI} {s:Int} (h:∀o∈L,-2000000<=o.price/\o.price<=2000000): -2000000<=(bestL L s).1.price/\(bestL L s).1.price<=2000000:=by
 rcases z0s (L:=L) (s:=s)with⟨_,o,ho,_,e⟩|⟨e,_⟩
 ·rw[<- e];exact h o ho
 ·rw[e];constructor<;>decide
def zKv (L:List zI):(qY L).p1=(bestL L 1).1.price/\(qY L).q1=(bestL L 1).1.qty/\(qY L).has1=(bestL L 1).2/\(qY L).p2=(bestL L 2).1.price/\(qY L).q2=(bestL L 2).1.qty/\(qY L).has2=(bestL L 2).2:=by
 have h:∀s,(bestL L s).2=ar\/bestL L s=(⟨0,0,0⟩,aq):=λs=>by
  rcases z0s (L:=L) (s:=s)with⟨h,_⟩|⟨h,_⟩
  ·exact .inl h
  ·exact .inr h
 rw[qY,Top.sell,Top.buy];rcases h 1 with h1|h1<;>rcases h 2 with h2|h2<;>simp[h1,h2,top0]
def BOk.prices {p:Prd} {B:List (List zI)} (h:BOk p B) {k:Nat} {L:List zI} (hL:B[k]? =av L):∀o∈L,-2000000<=o.price/\o.price<=2000000:=λo ho=>eX h.pc (h.pr k L hL o ho)
def BOk.tops {p:Prd} {B:List (List zI)} (h:BOk p B):vI (B.map qY):=by
 have:=xS p;refine⟨by rw[y5c,h.bl];omega,λt ht=> ?_⟩;obtain⟨L,hL,rfl⟩:=y6n.1 ht;obtain⟨k,hk⟩:=y7t.1 hL;have b1:=zUz (s:=1) (h.prices hk);have b2:=zUz (s:=2) (h.prices hk);rw[(zKv L).1,(zKv L).2.2.2.1];exact⟨by constructor<;>omega,by constructor<;>omega⟩
def MSt.Rep.tops {s:MSt} {p:Prd} {B:List (List zI)} (h:s.Rep p B):s.tops=B.map qY:=by
 rw[MSt.tops];apply y8y;intro k;rw[y6q,y6q];by_cases hk:k<B.length
 ·obtain⟨L,hL⟩:=yE hk;obtain⟨b,hb⟩:=yE (l:=s.books) (i:=k) (by rw[h.bl];exact hk);rw[hL,hb,y7e,y7e,(h.bk k b L hb hL).top]
 ·rw[y6h (by rw[h.bl];omega),y6h (by omega)];rfl
def MSt.Rep.cnt {s:MSt} {p:Prd} {B:List (List zI)} (h:s.Rep p B) (hB:B.length<=1000000):s.cntOk:=by
 refine⟨by rw[h.bl];exact hB,λb hb=> ?_⟩;obtain⟨k,hk⟩:=y7t.1 hb;have hlt:=(y5f.1 hk).1;rw[h.bl]at hlt;obtain⟨L,hL⟩:=yE hlt;exact(h.bk k b L hk hL).cnt
def zYi {b:Book} {L:List zI} (h:b.Rep L) (sd:Bool):b.best (b.side sd)=bestL L (zC sd):=by
 obtain⟨Q,c,ht,rfl⟩:=h;cases sd
 ·exact c.bestL (.inl rfl)
 ·exact c.bestL (.inr rfl)
def zFq (sd:Bool):zC sd=1\/zC sd=2:=by cases sd;exact .inl rfl;exact .inr rfl
def yZv (i:NxI) (h:nextC.cnd i):yRv i:=by
 obtain⟨hR,hB,h0,h1⟩:i.s.Rep i.p i.B/\BOk i.p i.B/\0<=i.inst/\i.inst<i.B.length:=h;have hcl:=xS i.p;have hbl:=hB.bl;have hsl:=hR.bl;obtain⟨k,hk⟩:∃k:Nat,i.inst=k:=⟨i.inst.toNat,oM⟩
 obtain⟨L,hL⟩:=yE (l:=i.B) (i:=k) oM;obtain⟨b,hb⟩:=yE (l:=i.s.books) (i:=k) oM;have hbR:=hR.bk k b L hb hL;have hps:i.s.p.small:=by rw[hR.ep];exact hB.ps
 have hto:vI i.s.tops:=by rw[hR.tops];exact hB.tops
 have hnx:yS i.p i.B i.inst (zC i.sd)=if((bestL L (zC i.sd)).2 && !((zU (xZ ⟨i.s.p,i.s.tops,i.inst⟩ (zC i.sd)) (zC i.sd)).2 && btr (zC i.sd) (zU (xZ ⟨i.s.p,i.s.tops,i.inst⟩ (zC i.sd)) (zC i.sd)).1.price (bestL L (zC i.sd)).1.price))=ar then(⟨(bestL L (zC i.sd)).1.price,(bestL L (zC i.sd)).1.qty,⟨0,0⟩,⟨0,0⟩⟩,aq,ar)else((zU (xZ ⟨i.s.p,i.s.tops,i.inst⟩ (zC i.sd)) (zC i.sd)).1,(zU (xZ ⟨i.s.p,i.s.tops,i.inst⟩ (zC i.sd)) (zC i.sd)).2,(zU (xZ ⟨i.s.p,i.s.tops,i.inst⟩ (zC i.sd)) (zC i.sd)).2):=by
  rw[yS,hR.tops,hR.ep,hk,y5u,zS hL]
 have hbest:=zYi hbR i.sd;unfold yRv zVk kF fD zLd vC zOm zW zPm z8 zIx dM dQ zHh;have hcnt:i.s.cntOk:=hR.cnt oM;have hql:(xZ ⟨i.s.p,i.s.tops,i.inst⟩ (zC i.sd)).length<=1000000:=by
  have:=y7x (y8n (λq=>decide (i.s.p.price i.inst q.price=0)) _) (zEe ⟨i.s.p,i.s.tops,i.inst⟩ (zC i.sd));exact y7x this Z8
 refine(λhT=>⟨⟨i.s,rF8 (rF5 ⟨hcnt,λ_ _=>⟨⟨rfl,trivial,rF8 ⟨trivial,trivial⟩⟩,⟨⟨⟨i.s.p,i.s.tops,i.inst⟩,i.sd⟩,rF8 (rF6 ⟨⟨hps,hto⟩,λ_ _=>⟨hT,hT⟩⟩)⟩,⟨rfl,trivial,rF8 ⟨trivial,trivial⟩⟩,⟨⟨⟨i.s.p,i.s.tops,i.inst⟩,i.sd⟩,rF8 (rF6 ⟨⟨hps,hto⟩,λ_ _=>hT⟩)⟩⟩⟩)⟩,
  ⟨rfl,trivial,rF8 ⟨trivial,trivial⟩⟩,⟨i.s,rF8 (rF5 ⟨hcnt,λ_ _=>⟨⟨rfl,trivial,rF8 ⟨trivial,trivial⟩⟩,⟨⟨⟨i.s.p,i.s.tops,i.inst⟩,i.sd⟩,rF8 (rF6 ⟨⟨hps,hto⟩,λ_ _=>hT⟩)⟩⟩⟩)⟩⟩) ?_
 refine⟨⟨xZ ⟨i.s.p,i.s.tops,i.inst⟩ (zC i.sd),zC i.sd⟩,rfl,rfl,⟨zFq _,hql⟩,λ_ _=>⟨⟨h0,oM⟩,oM,b,by rw[hk];exact hb,⟨i.sd,b⟩,rfl,rfl,hbR.cnt,λ_ _=>⟨b,rfl,rfl,oM,?_⟩⟩⟩;dsimp only;rw[hbest];generalize bestL L (zC i.sd)=l at*;generalize zU (xZ ⟨i.s.p,i.s.tops,i.inst⟩ (zC i.sd)) (zC i.sd)=bq at*;have hset:i.s.books.set i.inst.toNat b=i.s.books:=uE (by rw[hk];exact hb);rw[hset];refine Cv.cnd.mk (λc1=>Cv.cnd.mk (λc2=>⟨⟨zC i.sd,bq.1.price,l.1.price⟩,rF3 ⟨trivial,λ_ _=>Cv.cnd.mk (λc3=> ?_) (λc3=> ?_)⟩⟩) (λc2=> ?_)) (λc1=> ?_)
 ·dsimp only at c3;rw[y5d (by rw[c1,c2];simpa using c3)]at hnx;rw[hnx];exact⟨(),k0q⟩
 ·dsimp only at c3;rw[y5b (by rw[c1,c2];simpa using c3)]at hnx;rw[hnx];exact⟨(),k0q⟩
 ·rw[y5d (by rw[c1,c2];rfl)]at hnx;rw[hnx];exact⟨(),k0q⟩
 ·rw[y5b (by rw[c1];simp)]at hnx;rw[hnx];exact⟨(),k0q⟩
def yOc:nextC.ok Tryz.prog 234:=okw mixed (gokc zXn (gokc zSh (gokc zXz (gokc zLg (gokc aP gok0))))) 0 (λ_=>[]) (λ_=>[]) [0] Tryz.func234 yZv
def z6j (i:RsI) (k:Nat):(i.add k).length=i.out.length:=by
 have:∀(l:List (Nat×Int)) (o:List Int),(l.foldl (λo y=>o.set y.1 (au.wrap (o.getD y.1 0+y.2))) o).length=o.length:=by
  intro l
  induction l with
  |nil=>intro o;rfl
  |cons x l ih=>intro o;rw[y8u,ih,y6j]
 exact this _ _
def zZz (l:List Int) (q:Int):(hY l q).length<=l.length:=by
 rw[hY];split
 ·rw[tX];exact y5x _
 ·exact y6i _
def yBo (i:AlI):(kD i).length<=i.l.length:=by
 have hq:i.qs.length=i.l.length:=by simp[AlI.qs]
 rw[kD,<- hq]
 repeat' split
 ·exact zZz _ _
 ·rw[zFk];split
  ·rw[pH,z6j,PsI.rs];split
   ·simp
   ·simp
  ·exact y6i _
 ·rw[zDf];split
  ·rw[pH,z6j];exact zZz _ _
  ·exact y6i _
 ·exact y6i _
def zOa {inst s:Int}:∀{os:List zI} {sh:List Int} {j:Nat} {o:zI} {k:Int},os[j]? =av o->sh[j]? =av k->xY inst s (os.take (j+1)) (sh.take (j+1))=xY inst s (os.take j) (sh.take j)++(if 0<k then[⟨o.id,inst,s,o.price,k,o.qty-k⟩]else[])
 |[],_,_,_,_,h,_=>by simp at h
 |_::_,[],_,_,_,_,h=>by simp at h
 |o::os,k::sh,0,_,_,h,h2=>by
  cases h;cases h2;rw[y6m,y6m,y9p,y9p,y9p,y9p,xY];split<;>rfl
 |o::os,k::sh,j+1,o',k',h,h2=>by
  rw[y6m,y6m,xY,y6m,y6m,xY,zOa (os:=os) (sh:=sh) (j:=j) h h2];split<;>rfl
def zSq {inst s:Int}:∀(os:List zI) (sh:List Int),xY inst s (os.take sh.length) (sh.take sh.length)=xY inst s os sh
 |[],sh=>by simp
 |_::_,[]=>by simp[xY]
 |o::os,k::sh=>by
  rw[y5g,y6m,y6m,xY,xY,zSq os sh]
def yCd (B:List (List zI)) (a b:List cK):kM B (a++b)=kM (kM B a) b:=y9x
def pL (B:List (List zI)) (id q:Int):(kE B id q).1.length=B.length:=by
 rw[kE];split
 ·rfl
 ·simp
def uU:∀(fs:List cK) (B:List (List zI)),(kM B fs).length=B.length
 |[],B=>rfl
 |f::fs,B=>by
  show(kM (kE B f.id f.qty).1 fs).length=_;rw[uU fs,pL]
def ySe {p:Prd} (h:p.check=0):yV p.least/\yV p.top/\yV p.part:=by
 have ok:=kA h;have:=ok.q1;have:=ok.q2;have:=ok.q3;have:=ok.q4;have:=ok.q5;have:=ok.q6;exact⟨⟨oM,oM⟩,⟨oM,oM⟩,⟨oM,oM⟩⟩
def yWh (i:TrI) (h:tradeC.cnd i):yEh i:=by
 obtain⟨hR,hB,h0,h1,hq⟩:i.s.Rep i.p i.B/\BOk i.p i.B/\0<=i.inst/\i.inst<i.B.length/\yV i.q:=h;have hcl:=xS i.p;have hbl:=hB.bl;have hsl:=hR.bl;have ep:=hR.ep;obtain⟨k,hk⟩:∃k:Nat,i.inst=k:=⟨i.inst.toNat,oM⟩
 obtain⟨L,hL⟩:=yE (l:=i.B) (i:=k) oM;obtain⟨b,hb⟩:=yE (l:=i.s.books) (i:=k) oM;have hbR:=hR.bk k b L hb hL;have hbest:=zYi hbR i.sd;have hos:atL L (zC i.sd) (bestL L (zC i.sd)).1.price=i.os:=by rw[TrI.os,zUw,hk,y5u,zS hL]
 have hset:i.s.books.set i.inst.toNat b=i.s.books:=uE (by rw[hk];exact hb);have hosl:i.os.length<=250:=by
  rw[<- hos];exact y7x (y8n _ _) hbR.ords.2.2
 have hsh:i.sh.length<=i.os.length:=yBo _;obtain⟨k1,k2,k3⟩:=ySe hB.pc;have hsb:∀(j:Nat) (n:Int),i.sh[j]? =av n->n<=1000000:=by
  intro j n hn;cases hr:yT (i.os.map (·.qty)) i.q with
  |false=>
   have:i.sh=[]:=z1l hr;rw[this]at hn;cases hn
  |true=>
   have:=(zTn hB.pc hr).bd j;have e:(kD ⟨i.p,i.os,i.q⟩).getD j 0=n:=zS hn;rw[e]at this;have:=(z6s (jF hr).2.2.1 j).2;omega
 unfold yEh zHx uH dC mL dL gK zW vC dI;refine⟨⟨h0,oM⟩,oM,b,by rw[hk];exact hb,⟨i.sd,b⟩,rfl,rfl,hbR.cnt,λ_ _=> ?_⟩;refine⟨b,rfl,rfl,oM,b,by rw[hset,hk];exact hb,⟨b,L,i.sd,(bestL L (zC i.sd)).1.price⟩,rfl,by dsimp only;rw[hbest],rfl,hbR,λ_ _=> ?_⟩;dsimp only
 try rw[hbest]
 rw[hset,hos];refine⟨b,rfl,rfl,oM,⟨i.p,i.os,i.q⟩,by rw[ep],by rw[ep],by rw[ep],by rw[ep],by rw[ep],by rw[ep],by rw[ep],by rw[ep],by rw[ep],by rw[ep],by rw[ep],rfl,rfl,⟨Z9,hq,k1,k2,k3⟩,λ_ _=> ?_⟩;have esh:kD ⟨i.p,i.os,i.q⟩=i.sh:=rfl;rw[esh,hset,y3,y5c];refine⟨(0,i.s),rF8 (rF7 ⟨λj=>j.2.Rep i.p (kM i.B (i.fs j.1))/\j.1<=i.sh.length,λj=>i.sh.length-j.1,⟨hR,y6i _⟩,λj hj=> ?_⟩)⟩;obtain⟨hjR,hjl⟩:=hj;obtain⟨j,sj⟩:=j;dsimp only at hjR hjl ⊢;refine zH (λc=> ?_) (λc=> ?_)
 ·obtain⟨n,hn⟩:=yE (l:=i.sh) (i:=j) oM;obtain⟨o,ho⟩:=yE (l:=i.os) (i:=j) oM;have hst:=zOa (inst:=i.inst) (s:=zC i.sd) ho hn;have hoL:o∈L:=by
   have:=y5m ho;rw[<- hos]at this;exact(y7b.1 this).1
  have hoq:=(hbR.ords.1 o hoL).q;have hnb:=hsb j n hn;refine⟨⟨oM,oM⟩,n,elI hn,zH (λc2=> ?_) (λc2=> ?_)⟩
  ·rw[y5d (show 0<n from c2)]at hst;have hfl:(i.fs j).length<=j:=by
    have:∀(os:List zI) (sh:List Int),(xY i.inst (zC i.sd) os sh).length<=os.length:=by
     intro os
     induction os with
     |nil=>intro sh;exact y5x 0
     |cons o os ih=>
      intro sh;cases sh with
      |nil=>exact y6i _
      |cons k sh=>
       have:=ih sh;rw[xY];split
       ·simp only[y5g];omega
       ·simp only[y5g];omega
    exact y7x (this _ _) (by rw[y5t];omega)
   refine⟨⟨oM,oM⟩,o.id,o.side,o.price,o.qty,o.top,yWt ho,⟨sj,i.p,kM i.B (i.fs j),o.id,n⟩,rF3 ⟨⟨hjR,by dsimp only;rw[uU];omega⟩,λs' hs'=>⟨by rw[y5c];omega,(j+1,s'),wjn oM,rfl,?_,⟨?_,Z9⟩,Z9,k0q⟩⟩⟩
   ·show aa yW (xY i.inst (zC i.sd) (i.os.take (j+1)) (i.sh.take (j+1)))=_;rw[hst,y5l,w64 (by omega)];rfl
   ·show s'.Rep i.p (kM i.B (xY i.inst (zC i.sd) (i.os.take (j+1)) (i.sh.take (j+1))));rw[hst,yCd];exact hs'
  ·rw[y5b (show ¬0<n from c2),y5y]at hst;refine⟨(j+1,sj),wjn oM,rfl,?_,⟨?_,Z9⟩,Z9,k0q⟩
   ·show aa yW (xY i.inst (zC i.sd) (i.os.take (j+1)) (i.sh.take (j+1)))=_;rw[hst];rfl
   ·show sj.Rep i.p (kM i.B (xY i.inst (zC i.sd) (i.os.take (j+1)) (i.sh.take (j+1))));rw[hst];exact hjR
 ·have hje:j=i.sh.length:=by omega
  subst hje;have hfa:i.fs i.sh.length=qT i.p i.B i.inst (zC i.sd) i.q:=zSq _ _;rw[hfa]at hjR ⊢;exact⟨sj,rfl,rfl,hjR⟩
def yFh:tradeC.ok Tryz.prog 235:=okw mixed (gokc zLg (gokc y2b (gokc yFo (gokc zEq gok0)))) 0 (λ_=>[]) (λi=>yTg i) [0] Tryz.func235 yWh
structure jZ where
 price:Int
 qty:Int
 implied:Bool
 fills:List cK
 deriving DecidableEq
def wD (t:jZ):List D:=[.v (.int .i64 t.price),.v (.int .i64 t.qty),.v (.bool t.implied),.ro 6 (t.fills.map yW)]
def aK (p:Prd) (B:List (List zI)) (inst:Int) (sd:Bool) (price qty:Int):Option (jZ×List (List zI)):=
 let n:=yS p B inst (zC (!sd))
 if(n.2.2 && (cZ sd price n.1.price && decide (1<=n.1.qty)))=ar then
  if n.2.1=ar then
   let f1:=qT p B n.1.a.inst n.1.a.side (min qty n.1.qty)
   let f2:=qT p (kM B f1) n.1.b.inst n.1.b.side (min qty n.1.qty)
   av (⟨n.1.price,min qty n.1.qty,ar,f1++f2⟩,kM (kM B f1) f2)
  else
   let f:=qT p B inst (zC (!sd)) (min qty n.1.qty)
   av (⟨n.1.price,min qty n.1.qty,aq,f⟩,kM B f)
 else aw
structure yTk where
 steps:List jZ
 left:Int
 B:List (List zI)
def zKo (p:Prd) (inst:Int) (sd:Bool) (price:Int):Nat->List (List zI)->Int->yTk
 |0,B,q=>⟨[],q,B⟩
 |n+1,B,q=>if q<=0 then⟨[],q,B⟩else match aK p B inst sd price q with
  |none=>⟨[],q,B⟩
  |some (t,B')=>let r:=zKo p inst sd price n B' (q-t.qty);⟨t::r.steps,r.left,r.B⟩
def wK (p:Prd) (B:List (List zI)) (inst:Int) (sd:Bool) (price q:Int):yTk:=zKo p inst sd price q.toNat B q
structure RunI where
 s:MSt
 p:Prd
 B:List (List zI)
 inst:Int
 sd:Bool
 price:Int
 q:Int
def RunI.r (i:RunI):yTk:=wK i.p i.B i.inst i.sd i.price i.q
def runC:Con where
 ι:=RunI
 pat:=λi=>[.nm 0 0,zA i.inst,zA (zC i.sd),zA i.price,zA i.q]
 pre:=λi=>[zD i.s]
 cnd:=λi=>i.s.Rep i.p i.B/\BOk i.p i.B/\(0<=i.inst/\i.inst<i.B.length)/\1<=i.q/\i.q<=1000000
 alts:=λi=>[{o:=MSt,res:=λ_=> .tup [.own 1,zA i.r.left],post:=λs=>[zD s,.own 321 4 (i.r.steps.map wD)],rel:=λs=>s.Rep i.p i.r.B}]
structure zNs where
 s:MSt
 B:List (List zI)
 steps:List jZ
 q:Int
def y3x:List SAnn:=[
 {ι:=zNs,slots:=λj=>[(0,.nm 0 0),(12,.own 1),(4,zA j.q)],rows:=λj=>[zD j.s,.own 321 4 (j.steps.map wD)]},
 {ι:=Unit,slots:=λ_=>[],rows:=λ_=>[],un:=3}]
def zNg (a:zNs->Nat) (b:zNs) (c:zNs) (d:RunI):Prop:=a b<a c/\rE (aj 1 (iE d.s.p.months))/\rE (aj 1 (iE d.s.p.settle))
def zGc (a:TrI):Prop:=a.s.Rep a.p a.B/\BOk a.p a.B/\0<=a.inst/\a.inst<(↑a.B.length:Int)/\(-9223372036854775808)<=a.q/\a.q<=9223372036854775807
def zLt (a:RunI) (b:zNs) (c:NxI):Prop:=∃(d:MSt),a.r.left=b.q/\zD d=zD c.s/\aa wD a.r.steps=aa wD b.steps/\d.Rep a.p a.r.B
def tW (a:TrI):=(aa yW (gK a))
def z2r (a:RunI):Prop:=∃(b:zNs),b.q=a.q/\sb b.s.p.code=sb a.s.p.code/\b.s.p.tick=a.s.p.tick/\b.s.p.low=a.s.p.low/\b.s.p.high=a.s.p.high/\b.s.p.wide=a.s.p.wide/\b.s.p.rule=a.s.p.rule/\b.s.p.top=a.s.p.top/\b.s.p.least=a.s.p.least/\b.s.p.part=a.s.p.part/\ak 241 Book 6 zP b.s.books aw=ak 241 Book 6 zP a.s.books aw/\yO b.s.wh=yO a.s.wh/\aj 1 (iE b.s.p.months)=aj 1 (iE a.s.p.months)/\aj 1 (iE b.s.p.settle)=aj 1 (iE a.s.p.settle)/\aa wD b.steps=[]/\∃(c:zNs->Prop),∃(d:zNs->Nat),c b/\∀(e:zNs),c e->cnd (decide (e.q>0)) (∃(f:Bool),zC f=zC a.sd/\True/\∀(g:Unit),True->∃(h:NxI),h.inst=a.inst/\zC h.sd=zC !f/\zD h.s=zD e.s/\(h.s.Rep h.p h.B/\BOk h.p h.B/\0<=h.inst/\h.inst<(↑h.B.length:Int))/\∀(j:Unit),True->cnd (!(z8 h).snd.snd) (zLt a e h) (∃(k:GoI),zC k.s=zC a.sd/\k.p=a.price/\k.x=(z8 h).fst.price/\True/\∀(l:Unit),True->cnd (!cZ k.s k.p k.x) (zLt a e h) (cnd (z8 h).snd.fst (∃(m:TrI),m.inst=(z8 h).fst.a.inst/\zC m.sd=(z8 h).fst.a.side/\m.q=min e.q (z8 h).fst.qty/\zD m.s=zD h.s/\(zGc m)/\∀(n:MSt),n.Rep m.p (dL m)->True/\(tW m).length*(48:Nat)<=(140737488355328:Nat)/\∃(p:TrI),p.inst=(z8 h).fst.b.inst/\zC p.sd=(z8 h).fst.b.side/\p.q=min e.q (z8 h).fst.qty/\zD p.s=zD n/\(zGc p)/\∀(q:MSt),q.Rep p.p (dL p)->True/\((tW m).length+(tW p).length)*(48:Nat)<=(140737488355328:Nat)/\((aa wD e.steps).length+1)*(48:Nat)<=(140737488355328:Nat)/\∃(r:zNs),r.q=au.wrap (e.q-min e.q (z8 h).fst.qty)/\zD r.s=zD q/\aa wD r.steps=aa wD e.steps++[[dI ((z8 h).fst.price),dI (min e.q (z8 h).fst.qty),D.v (.bool (z8 h).snd.fst),D.ro 6 (aa yW (gK m)++aa yW (gK p))]]/\c r/\zNg d r e a) (∃(m:Bool),zC m=zC a.sd/\True/\∀(n:Unit),True->rE (min e.q (z8 h).fst.qty)/\∃(p:TrI),p.inst=a.inst/\zC p.sd=zC !m/\p.q=min e.q (z8 h).fst.qty/\zD p.s=zD h.s/\(zGc p)/\∀(q:MSt),q.Rep p.p (dL p)->((aa wD e.steps).length+1)*(48:Nat)<=(140737488355328:Nat)/\∃(r:zNs),r.q=au.wrap (e.q-min e.q (z8 h).fst.qty)/\zD r.s=zD q/\aa wD r.steps=aa wD e.steps++[[dI ((z8 h).fst.price),dI (min e.q (z8 h).fst.qty),D.v (.bool (z8 h).snd.fst),D.ro 6 (tW p)]]/\c r/\zNg d r e a)))) (∃(f:MSt),a.r.left=e.q/\zD f=zD e.s/\aa wD a.r.steps=aa wD e.steps/\f.Rep a.p a.r.B)
def cR (a:RunI):Prop:=∃(b:MSt),a.r.left=a.q/\sb b.p.code=sb a.s.p.code/\b.p.tick=a.s.p.tick/\b.p.low=a.s.p.low/\b.p.high=a.s.p.high/\b.p.wide=a.s.p.wide/\b.p.rule=a.s.p.rule/\b.p.top=a.s.p.top/\b.p.least=a.s.p.least/\b.p.part=a.s.p.part/\ak 241 Book 6 zP b.books aw=ak 241 Book 6 zP a.s.books aw/\yO b.wh=yO a.s.wh/\aj 1 (iE b.p.months)=aj 1 (iE a.s.p.months)/\aj 1 (iE b.p.settle)=aj 1 (iE a.s.p.settle)/\aa wD a.r.steps=[]/\b.Rep a.p a.r.B
def yYr (i:RunI):Prop:=
 cnd (decide (i.inst>=0)) (cnd (decide (i.inst<(↑i.s.books.length:Int))) (cnd (zC i.sd==1) (cnd (decide (i.q>=1)) (cnd (!decide (i.q<=1000000)) (cR i) (z2r i)) (cR i)) (cnd (zC i.sd==2) (cnd (decide (i.q>=1)) (cnd (!decide (i.q<=1000000)) (cR i) (z2r i)) (cR i)) (cR i))) (cR i)) (cR i)
structure QOk (T:List Top) (q:Quote):Prop where
 a:0<=q.a.inst/\q.a.inst<T.length
 b:0<=q.b.inst/\q.b.inst<T.length
 sa:q.a.side=1\/q.a.side=2
 sb:q.b.side=1\/q.b.side=2
 ne:q.a.inst≠q.b.inst
 ha:(T.getD q.a.inst.toNat top0).has q.a.side=ar
 hb:(T.getD q.b.inst.toNat top0).has q.b.side=ar
 qty:q.qty=min ((T.getD q.a.inst.toNat top0).qty q.a.side) ((T.getD q.b.inst.toNat top0).qty q.b.side)
def z2y {T:List Top} {a b:Leg} {less:Bool} {q:Quote} (h:q∈mkq T a b less) (h1:0<=a.inst/\a.inst<T.length) (h2:0<=b.inst/\b.inst<T.length) (h3:a.side=1\/a.side=2) (h4:b.side=1\/b.side=2) (hne:a.inst≠b.inst):QOk T q/\q.a=a/\q.b=b:=by
 cases less
 all_goals
  simp only[mkq,y5v,↓reduceIte]at h;split at h
  ·rename_i hc;simp only[y5p]at hc;rw[y6r]at h;subst h;exact⟨⟨h1,h2,h3,h4,hne,hc.1.1,hc.1.2,rfl⟩,rfl,rfl⟩
  ·cases h
def yWj:∀n≤6,∀k<n+n*(n-1) / 2,n<=k->(kK n k n 0).1≠(kK n k n 0).2.1:=by decide
def z8g {p:Prd} (hc:p.check=0) {k:Nat} (hk:k<p.count) (hs:(p.legs k).2.2=ar):(p.legs k).1≠(p.legs k).2.1:=by
 have m6:=(kA hc).m6;have hk':=hk;rw[Prd.count,y5d hc]at hk';by_cases h:k<p.months.length
 ·rw[Prd.legs,y5b (by omega),y5d (by omega)]at hs;cases hs
 ·rw[Prd.legs,y5b (by omega),y5b (by omega)];exact yWj p.months.length m6 k hk' oM
def yAr:∀n≤6,∀a<n,∀b<n,a<b->(yJ n a:Int)+b-a-1>=n:=by decide
def zTb {p:Prd} (hc:p.check=0) {a b:Nat} (hab:a<b) (hb:b<p.months.length):(p.months.length:Int)<=(p.spread a b).1:=by
 have m6:=(kA hc).m6;have:=yAr p.months.length m6 a oM b hb hab;rw[Prd.spread,y5b (by omega)];simpa using this
def z5g {p:Prd} (hc:p.check=0) {T:List Top} (hT:T.length=p.count) {inst:Int} {s:Int} (hs:s=1\/s=2) {q:Quote} (h:q∈kI ⟨p,T,inst⟩ s):QOk T q/\0<=inst/\inst<p.count/\
 (((p.legs inst).2.2=ar/\q.a=⟨(p.legs inst).1,s⟩/\q.b=⟨(p.legs inst).2.1,3-s⟩)\/(inst<p.months.length/\q.a.inst≠inst/\(p.months.length:Int)<=q.a.inst)):=by
 rw[kI]at h;dsimp only at h;split at h
 ·cases h
 ·rename_i hn;have h0:0<=inst/\inst<p.count:=by omega
  obtain⟨k,rfl⟩:∃k:Nat,inst=k:=⟨inst.toNat,oM⟩
  have hk:k<p.count:=by omega
  have hge:=zFg hc;split at h
  ·rename_i hl;obtain⟨q',hq',rfl⟩:=y6n.1 h;have hle:=gU hc hk;rcases hle with⟨_,l1,l2,l3,l4⟩|⟨e,_⟩
   ·obtain⟨ok,e1,e2⟩:=z2y hq' Z9 Z9 Z9 hs (λe=>z8g hc hk hl e.symm);refine⟨⟨by dsimp only[cY];omega,by dsimp only[cY];omega,hs,by dsimp only[cY];omega,z8g hc hk hl,?_,?_,?_⟩,h0.1,h0.2,.inl ⟨hl,rfl,rfl⟩⟩
    ·have:=ok.hb;rw[e2]at this;exact this
    ·have:=ok.ha;rw[e1]at this;exact this
    ·have:=ok.qty;rw[e1,e2]at this;dsimp only[cY];rw[this];exact Int.min_comm _ _
   ·rw[e]at hl;cases hl
  ·rename_i hl;have hm:k<p.months.length:=by
    rcases gU hc hk with⟨e,_⟩|⟨_,e⟩
    ·exact absurd e hl
    ·exact e
   rcases y6g.1 h with h|h
   ·obtain⟨j,hj,h⟩:=y7v.1 h;have hj:=y8f.1 hj;rw[y5u]at hj;have s1:=b7 hc (a:=k) (b:=k+1+j) oM oM;have s2:=zTb hc (a:=k) (b:=k+1+j) oM oM;have ec:((k:Int)+1+j)=((k+1+j:Nat):Int):=by omega
    rw[ec]at h;obtain⟨ok,e1,e2⟩:=z2y h Z9 Z9 hs hs Z9;exact⟨ok,h0.1,h0.2,.inr ⟨oM,by rw[e1];dsimp only;omega,by rw[e1];exact s2⟩⟩
   ·obtain⟨j,hj,h⟩:=y7v.1 h;have hj:=y8f.1 hj;rw[y5u]at hj;have s1:=b7 hc (a:=j) (b:=k) oM oM;have s2:=zTb hc (a:=j) (b:=k) oM oM;obtain⟨ok,e1,e2⟩:=z2y h Z9 Z9 Z9 hs Z9;exact⟨ok,h0.1,h0.2,.inr ⟨oM,by rw[e1];dsimp only;omega,by rw[e1];exact s2⟩⟩
def zSc {s:Int}:∀(r:List Quote) (q:Quote),r.foldl (λb q=>if btr s q.price b.price then q else b) q∈q::r
 |[],q=>y5h
 |x::r,q=>by
  rw[y8u];have:=zSc (s:=s) r (if btr s x.price q.price then x else q);rcases y5w.1 this with e|h
  ·rw[e];split
   ·exact y5j _ y5h
   ·exact y5h
  ·exact y5j _ (y5j _ h)
def zIn {l:List Quote} {s:Int} (h:(zU l s).2=ar):(zU l s).1∈l:=by
 cases l with
 |nil=>cases h
 |cons q r=>exact zSc r q
def yPf (B:List (List zI)):Prop:=∀(k:Nat) (L:List zI),B[k]?=av L->(∀o∈L,zPo o)/\(L.map (·.id)).Nodup/\L.length<=250
def MSt.Rep.ords {s:MSt} {p:Prd} {B:List (List zI)} (h:s.Rep p B):yPf B:=by
 intro k L hL;obtain⟨b,hb⟩:=yE (l:=s.books) (i:=k) (by rw[h.bl];exact(y5f.1 hL).1);exact(h.bk k b L hb hL).ords
def z5b:∀{l:List zI} {v:Lv},(∀o∈l,zPo o)->v∈grp l->1<=v.qty/\v.qty<=1000000*l.length
 |[],v,_,h=>by cases h
 |o::l,v,ho,h=>by
  have h0:=(ho o y5h).q;have ih:∀v∈grp l,1<=v.qty/\v.qty<=1000000*l.length:=λv hv=>z5b (λx hx=>ho x (y5j _ hx)) hv
  rw[grp]at h;rw[y5g];split at h
  ·rw[y6r]at h;subst h;dsimp only;omega
  ·rename_i w ws e;rw[e]at ih;have hw:=ih w y5h;split at h
   ·rcases y5w.1 h with rfl|h
    ·dsimp only;omega
    ·have:=ih v (y5j _ h);omega
   ·rcases y5w.1 h with rfl|h
    ·dsimp only;omega
    ·have:=ih v h;omega
def z3d {L:List zI} {s:Int} (h:∀o∈L,zPo o) (hl:L.length<=250) (hb:(bestL L s).2=ar):1<=(bestL L s).1.qty/\(bestL L s).1.qty<=250000000:=by
 rw[bestL]at hb ⊢;cases hl2:hP L s with
 |nil=>rw[hl2]at hb;cases hb
 |cons v vs=>
  dsimp only;have hm:v∈grp (L.filter λo=>decide (o.side=s)):=by rw[<- hP,hl2];exact y5h
  have:=z5b (λo ho=>h o (y7b.1 ho).1) hm;have:=y8n (λo:zI=>decide (o.side=s)) L;omega
def yGr {B:List (List zI)} {k:Nat} {L:List zI} (hL:B[k]? =av L):(B.map qY).getD k top0=qY L:=zS (by rw[y6q,hL];rfl)
def zLp (L:List zI) {s:Int} (hs:s=1\/s=2):(qY L).has s=(bestL L s).2/\(qY L).qty s=(bestL L s).1.qty/\(qY L).price s=(bestL L s).1.price:=by
 obtain⟨e1,e2,e3,e4,e5,e6⟩:=zKv L;rcases hs with rfl|rfl
 ·exact⟨e3,e2,e1⟩
 ·exact⟨e6,e5,e4⟩
def z6l {p:Prd} {B:List (List zI)} (h:BOk p B) (ho:yPf B) {inst:Int} (hi:0<=inst/\inst<B.length) {s:Int} (hs:s=1\/s=2) (hn:(yS p B inst s).2.2=ar):
 (1<=(yS p B inst s).1.qty/\(yS p B inst s).1.qty<=250000000)/\((yS p B inst s).2.1=ar->(yS p B inst s).1∈kI ⟨p,B.map qY,inst⟩ s/\QOk (B.map qY) (yS p B inst s).1)/\
 ((yS p B inst s).2.1=aq->(bestL (B.getD inst.toNat []) s).2=ar/\(yS p B inst s).1.price=(bestL (B.getD inst.toNat []) s).1.price/\(yS p B inst s).1.qty=(bestL (B.getD inst.toNat []) s).1.qty):=by
 obtain⟨k,rfl⟩:∃k:Nat,inst=k:=⟨inst.toNat,oM⟩
 obtain⟨L,hL⟩:=yE (l:=B) (i:=k) oM;have hLo:=ho k L hL;rw[yS]at hn ⊢;rw[y5u,zS hL]at hn ⊢;split
 ·rename_i c;simp only[y5p]at c;exact⟨z3d hLo.1 hLo.2.2 c.1,⟨λe=>(by cases e),λ_=>⟨c.1,rfl,rfl⟩⟩⟩
 ·rename_i c;rw[y5b c]at hn;dsimp only at hn ⊢;have hm:=zIn hn;have ha:(zU (xZ ⟨p,B.map qY,k⟩ s) s).1∈kI ⟨p,B.map qY,k⟩ s:=(y7b.1 hm).1;obtain⟨ok,_⟩:=z5g h.pc (by rw[y5c];exact h.bl) hs ha;refine⟨?_,λ_=>⟨ha,ok⟩,λe=>by rw[hn]at e;cases e⟩;generalize (zU (xZ ⟨p,B.map qY,k⟩ s) s).1=q at ok;have a:=ok.a;have b:=ok.b;rw[y5c]at a b;obtain⟨La,hLa⟩:=yE (l:=B) (i:=q.a.inst.toNat) oM;obtain⟨Lb,hLb⟩:=yE (l:=B) (i:=q.b.inst.toNat) oM;have e1:=ok.ha;have e2:=ok.hb;have e3:=ok.qty;rw[yGr hLa]at e1 e3;rw[yGr hLb]at e2 e3;rw[(zLp La ok.sa).1]at e1;rw[(zLp Lb ok.sb).1]at e2;rw[(zLp La ok.sa).2.1,(zLp Lb ok.sb).2.1]at e3;have:=z3d (ho _ _ hLa).1 (ho _ _ hLa).2.2 e1;have:=z3d (ho _ _ hLb).1 (ho _ _ hLb).2.2 e2;omega
def yCt {L:List zI} {id q:Int} {o:zI} (h:o∈(x4 L id q).1):∃o'∈L,o.price=o'.price/\o.side=o'.side/\o.id=o'.id:=by
 rw[x4]at h;split at h
 ·exact⟨o,h,rfl,rfl,rfl⟩
 split at h
 ·exact⟨o,h,rfl,rfl,rfl⟩
 obtain⟨o',ho',e⟩:=xAi.1 h;refine⟨o',ho',?_⟩;split at e
 ·split at e
  ·cases e
  ·cases e;exact⟨rfl,rfl,rfl⟩
 ·cases e;exact⟨rfl,rfl,rfl⟩
def BOk.take {p:Prd} {B:List (List zI)} (h:BOk p B) (id q:Int):BOk p (kE B id q).1:=by
 refine⟨h.pc,h.ps,by rw[pL];exact h.bl,λk L hL o ho=> ?_⟩;rw[kE]at hL;split at hL
 ·exact h.pr k L hL o ho
 ·rename_i j hj;dsimp only at hL;rcases bI hL with⟨rfl,rfl⟩|⟨_,hL⟩
  ·obtain⟨o',ho',e,_⟩:=yCt ho;obtain⟨L',hL',_⟩:=gJ hj;rw[zS hL']at ho';rw[e];exact h.pr k L' hL' o' ho'
  ·exact h.pr k L hL o ho
def BOk.takes {p:Prd}:∀{fs:List cK} {B:List (List zI)},BOk p B->BOk p (kM B fs)
 |[],B,h=>h
 |f::fs,B,h=>BOk.takes (fs:=fs) (h.take f.id f.qty)
def zZa (inst s:Int):∀(os:List zI) (sh:List Int),(xY inst s os sh).length<=os.length
 |[],sh=>y5x 0
 |o::os,[]=>y6i _
 |o::os,k::sh=>by
  have:=zZa inst s os sh;rw[xY];split
  ·simp only[y5g];omega
  ·simp only[y5g];omega
def nX {p:Prd} {B:List (List zI)} (ho:yPf B) (inst s q:Int):(qT p B inst s q).length<=250:=by
 refine y7x (zZa _ _ _ _) (y7x (y8n _ _) ?_);by_cases h:inst.toNat<B.length
 ·obtain⟨L,hL⟩:=yE h;rw[zS hL];exact(ho _ _ hL).2.2
 ·rw[y5k,y6h (by omega)];exact y6i _
def zNp {p:Prd} {B:List (List zI)} {inst:Int} {sd:Bool} {price q:Int} {t:jZ} {B':List (List zI)} (hq:1<=q) (h:aK p B inst sd price q=av (t,B')):1<=t.qty/\t.qty<=q:=by
 rw[aK]at h;dsimp only at h;split at h
 ·rename_i c;simp only[y5p,y6p]at c;split at h
  ·cases h;dsimp only;omega
  ·cases h;dsimp only;omega
 ·cases h
def zYk {p:Prd} {inst:Int} {sd:Bool} {price:Int}:∀(m n:Nat) (B:List (List zI)) (q:Int),q.toNat<=m->q.toNat<=n->zKo p inst sd price m B q=zKo p inst sd price n B q
 |0,0,B,q,_,_=>rfl
 |0,n+1,B,q,h,_=>by rw[zKo,zKo,y5d (by omega)]
 |m+1,0,B,q,_,h=>by rw[zKo,zKo,y5d (by omega)]
 |m+1,n+1,B,q,h1,h2=>by
  rw[zKo,zKo];split
  ·rfl
  ·rename_i hq;cases hs:aK p B inst sd price q with
   |none=>rfl
   |some x=>
    obtain⟨t,B'⟩:=x;have:=zNp oM hs;dsimp only;rw[zYk m n B' (q-t.qty) (by omega) (by omega)]
def eE {p:Prd} {B:List (List zI)} {inst:Int} {sd:Bool} {price q:Int} (h:q<=0\/aK p B inst sd price q=aw):wK p B inst sd price q=⟨[],q,B⟩:=by
 rw[wK];cases hn:q.toNat with
 |zero=>rfl
 |succ n=>
  rw[zKo];rcases h with h|h
  ·rw[y5d h]
  ·rw[y5b (by omega),h]
def zPb {p:Prd} {B:List (List zI)} {inst:Int} {sd:Bool} {price q:Int} {t:jZ} {B':List (List zI)} (hq:1<=q) (h:aK p B inst sd price q=av (t,B')):
 wK p B inst sd price q=⟨t::(wK p B' inst sd price (q-t.qty)).steps,(wK p B' inst sd price (q-t.qty)).left,(wK p B' inst sd price (q-t.qty)).B⟩:=by
 have ht:=zNp hq h;rw[wK];cases hn:q.toNat with
 |zero=>omega
 |succ n=>
  rw[zKo,y5b (by omega),h];dsimp only;rw[zYk n (q-t.qty).toNat B' (q-t.qty) (by omega) (y5x _)];rfl
end Sx
