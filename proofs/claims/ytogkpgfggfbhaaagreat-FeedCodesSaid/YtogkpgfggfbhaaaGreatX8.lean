/- Texts of ours, one behind the other: a walk that the kernel reckons, and contracts of functions. No condition. -/
import Derived.Test.YtogkpgfggfbhaaaGreatX7
namespace Sx
set_option linter.unusedVariables false
set_option maxRecDepth 100000
open Go Cv Go.Proofs
def lZ (a:Nat→Prop) (b:Nat) (c:Nat→Nat) (d:Nat) (e:BkL) (f:ArN):Prop:=a b∧c b<c d∧Sx.AObj.cells (wT (qQ 0 1 6) [V.nm 1 0,V.own 2,V.own 3,V.mp 4,zA e.b.top1,zA e.b.top2,V.own 5,yB e.b.has1,yB e.b.has2]) (244:TypeId)=Sx.AObj.cells (wT (qQ 0 1 6) [V.nm 1 0,V.own 2,V.own 3,V.mp 4,zA e.b.top1,zA e.b.top2,V.own 5,yB e.b.has1,yB e.b.has2]) (244:TypeId)∧AObj.adt Arena 3 zE f.a=AObj.adt Arena 3 zE e.b.a∧AObj.own 301 2 (List.map zB e.b.buys)=AObj.own 301 2 (List.map zB e.b.buys)∧AObj.own 301 2 (List.map zB e.b.sells)=AObj.own 301 2 (List.map zB e.b.sells)∧Sx.AObj.map (atE e.b.at_)=Sx.AObj.map (atE e.b.at_)∧AObj.own 3 1 (iE e.b.spare)=AObj.own 3 1 (iE e.b.spare)
def fJ (a:Nat) (b:BkL):=(List.take a (g7 b.L (zC false)))
def yDr (i:BkL):Prop:=
 ∃(a:Int),a=zC false∧True∧∀(b:Unit),True→cnd (xX a) (∃(c:Unit),i.b.top1=i.b.top1∧i.b.top2=i.b.top2∧i.b.has1=i.b.has1∧i.b.has2=i.b.has2∧AObj.adt Arena 3 zE i.b.a=AObj.adt Arena 3 zE i.b.a∧List.map zB i.b.buys=List.map zB i.b.buys∧List.map zB i.b.sells=List.map zB i.b.sells∧atE i.b.at_=atE i.b.at_∧iE i.b.spare=iE i.b.spare∧List.map lvE (g7 i.L (zC false))=[]∧True) (∃(c:Nat),(↑c:Int)=0∧List.map lvE (fJ c i)=[]∧∃(d:Nat→Prop),∃(e:Nat→Nat),d c∧∀(f:Nat),d f→cnd (decide ((↑f:Int)<(↑(List.map zB i.b.buys).length:Int))) ((0≤(↑f:Int)∧(↑f:Int)<(↑(List.map zB i.b.buys).length:Int))∧∃(g:Int),∃(h:Int),zF (List.map zB i.b.buys) (↑f:Int).toNat 0 2=some [dI g,dI h]∧∃(j:ArN),j.n=h∧AObj.adt Arena 3 zE j.a=AObj.adt Arena 3 zE i.b.a∧True∧∀(k:Unit),True→h=h∧True∧g=g∧∃(l:ArN),l.n=h∧AObj.adt Arena 3 zE l.a=AObj.adt Arena 3 zE j.a∧True∧∀(m:Unit),True→g=g∧((List.map lvE (fJ f i)).length+1)*(24:Nat)≤(140737488355328:Nat)∧∃(n:Nat),(↑n:Int)=IntKind.i64.wrap ((↑f:Int)+1)∧List.map lvE (fJ n i)=List.map lvE (fJ f i)++[[dI g,dI ((j.a.qAt j.n).total),dI ((l.a.qAt l.n).count)]]∧lZ d n e f i l) (∃(g:Unit),i.b.top1=i.b.top1∧i.b.top2=i.b.top2∧i.b.has1=i.b.has1∧i.b.has2=i.b.has2∧AObj.adt Arena 3 zE i.b.a=AObj.adt Arena 3 zE i.b.a∧List.map zB i.b.buys=List.map zB i.b.buys∧List.map zB i.b.sells=List.map zB i.b.sells∧atE i.b.at_=atE i.b.at_∧iE i.b.spare=iE i.b.spare∧List.map lvE (g7 i.L (zC false))=List.map lvE (fJ f i)∧True))
def fP (a:Nat) (b:BkL):=(List.take a (g7 b.L (zC true)))
def yDt (i:BkL):Prop:=
 ∃(a:Int),a=zC true∧True∧∀(b:Unit),True→cnd (xX a) (∃(c:Unit),i.b.top1=i.b.top1∧i.b.top2=i.b.top2∧i.b.has1=i.b.has1∧i.b.has2=i.b.has2∧AObj.adt Arena 3 zE i.b.a=AObj.adt Arena 3 zE i.b.a∧List.map zB i.b.buys=List.map zB i.b.buys∧List.map zB i.b.sells=List.map zB i.b.sells∧atE i.b.at_=atE i.b.at_∧iE i.b.spare=iE i.b.spare∧List.map lvE (g7 i.L (zC true))=[]∧True) (∃(c:Nat),(↑c:Int)=0∧List.map lvE (fP c i)=[]∧∃(d:Nat→Prop),∃(e:Nat→Nat),d c∧∀(f:Nat),d f→cnd (decide ((↑f:Int)<(↑(List.map zB i.b.sells).length:Int))) ((0≤(↑f:Int)∧(↑f:Int)<(↑(List.map zB i.b.sells).length:Int))∧∃(g:Int),∃(h:Int),zF (List.map zB i.b.sells) (↑f:Int).toNat 0 2=some [dI g,dI h]∧∃(j:ArN),j.n=h∧AObj.adt Arena 3 zE j.a=AObj.adt Arena 3 zE i.b.a∧True∧∀(k:Unit),True→h=h∧True∧g=g∧∃(l:ArN),l.n=h∧AObj.adt Arena 3 zE l.a=AObj.adt Arena 3 zE j.a∧True∧∀(m:Unit),True→g=g∧((List.map lvE (fP f i)).length+1)*(24:Nat)≤(140737488355328:Nat)∧∃(n:Nat),(↑n:Int)=IntKind.i64.wrap ((↑f:Int)+1)∧List.map lvE (fP n i)=List.map lvE (fP f i)++[[dI g,dI ((j.a.qAt j.n).total),dI ((l.a.qAt l.n).count)]]∧lZ d n e f i l) (∃(g:Unit),i.b.top1=i.b.top1∧i.b.top2=i.b.top2∧i.b.has1=i.b.has1∧i.b.has2=i.b.has2∧AObj.adt Arena 3 zE i.b.a=AObj.adt Arena 3 zE i.b.a∧List.map zB i.b.buys=List.map zB i.b.buys∧List.map zB i.b.sells=List.map zB i.b.sells∧atE i.b.at_=atE i.b.at_∧iE i.b.spare=iE i.b.spare∧List.map lvE (g7 i.L (zC true))=List.map lvE (fP f i)∧True))
def pM (a:Nat×Top→Prop) (b:Nat×Top) (c:MSt) (d:Nat) (e:Book):Prop:=a b∧AObj.own 3 1 [[dI 1],[dI 2]]=AObj.own 3 1 [[dI 1],[dI 2]]∧y7 c 0=y7 c 0∧AObj.objs 184 Book 6 zO (c.books.set (↑d:Int).toNat e) none=y7 c 1∧y7 c 2=y7 c 2∧y7 c 3=y7 c 3∧y7 c 4=y7 c 4
def zBl (a:MSt) (b:Nat×Top) (c:Nat×Top→Prop) (d:Nat) (e:Book):Prop:=∃(f:Nat×Top),List.map zU (y9 a f.fst f.snd)=List.map zU (y9 a b.fst b.snd)∧pM c f a d e
def z3p (s:MSt):Prop:=
 (p7 s)∧∃(a:Nat),(↑a:Int)=0∧List.map zU (xE s a)=List.replicate (↑s.books.length:Int).toNat [D.v (.bool false),D.v (.bool false),dI 0,dI 0,dI 0,dI 0]∧∃(b:Nat→Prop),∃(c:Nat→Nat),b a∧∀(d:Nat),b d→cnd (decide ((↑d:Int)<(↑s.books.length:Int))) ((0≤(↑d:Int)∧(↑d:Int)<(↑s.books.length:Int))∧(↑d:Int).toNat<s.books.length∧∃(e:Nat×Top),List.map zU (y9 s e.fst e.snd)=List.map zU (xE s d)∧∃(f:Nat×Top→Prop),(((0:Int)≤(0:Int)∧0<(↑(2:Nat):Int))∧∃(g:Int),zF [[dI 1],[dI 2]] (Int.toNat 0) 0 1=some [dI g]∧∃(h:Book),s.books[(↑d:Int).toNat]?=some h∧∃(j:BkS),zC j.side=g∧zW j.b=zW h∧(jM j)∧∀(k:Unit),True→∃(l:Book),zW j.b=zW l∧(↑d:Int).toNat=(↑d:Int).toNat∧(↑d:Int).toNat<s.books.length∧cnd (zR j).snd ((xS d s e)∧(xS d s e)∧(xS d s e)∧(↑d:Int).toNat<(wA s e).length∧(fL d s e)∧(fL d s e)∧(zR j).fst.qty=(zR j).fst.qty∧(zR j).fst.price=(zR j).fst.price∧(↑d:Int).toNat<(fK s e d).length∧(eH d s e j)∧(zR j).fst.qty=(zR j).fst.qty∧(↑d:Int).toNat<(uW s e d j).length∧∃(m:Nat×Top),List.map zU (y9 s m.fst m.snd)=yA (uW s e d j) (↑d:Int).toNat ((0:Nat)+(4:Nat)+nat_lit 0*1) [dI (wD j)]∧pM f m s d l) (zBl s e f d l))∧∀(g:Nat×Top),f g→∃(h:Nat×Top),List.map zU (y9 s h.fst h.snd)=List.map zU (y9 s g.fst g.snd)∧∃(j:Nat×Top→Prop),((vV)∧∃(k:Int),zF [[dI 1],[dI 2]] (IntKind.i64.wrap ((0:Int)+(1:Int))).toNat 0 1=some [dI k]∧∃(l:Book),s.books[(↑d:Int).toNat]?=some l∧∃(m:BkS),zC m.side=k∧zW m.b=zW l∧(jM m)∧∀(n:Unit),True→∃(p:Book),zW m.b=zW p∧(↑d:Int).toNat=(↑d:Int).toNat∧(↑d:Int).toNat<s.books.length∧cnd (zR m).snd ((xS d s h)∧(xS d s h)∧(xS d s h)∧(↑d:Int).toNat<(wA s h).length∧(fS d s h)∧(fS d s h)∧(zR m).fst.qty=(zR m).fst.qty∧(zR m).fst.price=(zR m).fst.price∧(↑d:Int).toNat<(fQ s h d).length∧(lE d s h m)∧(zR m).fst.qty=(zR m).fst.qty∧(↑d:Int).toNat<(dM s h d m).length∧∃(q:Nat×Top),List.map zU (y9 s q.fst q.snd)=yA (dM s h d m) (↑d:Int).toNat ((0:Nat)+(4:Nat)+(nat_lit 0+nat_lit 1) % ((2:Int) ^ IntKind.i64.bits).natAbs*1) [dI (wD m)]∧pM j q s d p) (zBl s h j d p))∧∀(k:Nat×Top),j k→∃(l:Nat),(↑l:Int)=IntKind.i64.wrap ((↑d:Int)+1)∧List.map zU (xE s l)=List.map zU (y9 s k.fst k.snd)∧b l∧c l<c d∧y7 s 0=y7 s 0∧y7 s 1=y7 s 1∧y7 s 2=y7 s 2∧y7 s 3=y7 s 3∧y7 s 4=y7 s 4) (∃(e:Unit),sb s.p.code=sb s.p.code∧s.p.tick=s.p.tick∧s.p.low=s.p.low∧s.p.high=s.p.high∧s.p.wide=s.p.wide∧s.p.rule=s.p.rule∧s.p.top=s.p.top∧s.p.least=s.p.least∧s.p.part=s.p.part∧AObj.objs 184 Book 6 zO s.books none=y7 s 1∧yM s.wh=yM s.wh∧AObj.fro 1 (iE s.p.months)=y7 s 3∧AObj.fro 1 (iE s.p.settle)=y7 s 4∧List.map zU s.tops=List.map zU (xE s d)∧True)
def sQ (a:MSt) (b:StI):Prop:=AObj.fro 1 (iE a.p.months)=AObj.fro 1 (iE b.s.p.months)∧AObj.fro 1 (iE a.p.settle)=AObj.fro 1 (iE b.s.p.settle)∧a.Rep b.p (qC b.B b.id b.q).fst
def sG (a:MSt) (b:StI):Prop:=yM a.wh=yM b.s.wh∧sQ a b
def mJ (a:StI) (b:Int) (c:Bool):Prop:=wF (Value.int IntKind.i64 a.id) (yM a.s.wh)=some [dI b]∧c=true∨wF (Value.int IntKind.i64 a.id) (yM a.s.wh)=none∧[dI b]=[dI 0]∧c=false
def dN (a:StI):Prop:=∀(b:Value×List D),b∈yM a.s.wh→like (Value.int IntKind.i64 a.id) b.fst=true
def z8j (i:StI):Prop:=
 (dN i)∧∃(a:Bool),∃(b:Int),(mJ i b a)∧cnd (!a) (∃(c:MSt),(qC i.B i.id i.q).snd=26∧sb c.p.code=sb i.s.p.code∧c.p.tick=i.s.p.tick∧c.p.low=i.s.p.low∧c.p.high=i.s.p.high∧c.p.wide=i.s.p.wide∧c.p.rule=i.s.p.rule∧c.p.top=i.s.p.top∧c.p.least=i.s.p.least∧c.p.part=i.s.p.part∧AObj.objs 184 Book 6 zO c.books none=AObj.objs 184 Book 6 zO i.s.books none∧sG c i) ((0≤b∧b<(↑i.s.books.length:Int))∧b.toNat<i.s.books.length∧∃(c:Book),i.s.books[b.toNat]?=some c∧∃(d:FlI),d.id=i.id∧d.qty=i.q∧zW d.b=zW c∧d.b.Rep d.L∧∀(e:Book),e.Rep (xF d.L d.id d.qty).fst→∃(f:Book),zW e=zW f∧b.toNat=b.toNat∧b.toNat<i.s.books.length∧(0≤b∧b<(↑(i.s.books.set b.toNat f).length:Int))∧b.toNat<(i.s.books.set b.toNat f).length∧∃(g:Book),(i.s.books.set b.toNat f)[b.toNat]?=some g∧∃(h:FlI),h.id=i.id∧zW h.b=zW g∧h.b.Rep h.L∧∀(j:Unit),True→∃(k:Book),zW h.b=zW k∧b.toNat=b.toNat∧b.toNat<(i.s.books.set b.toNat f).length∧cnd (!kR h.L h.id) ((dN i)∧∃(l:MSt),(qC i.B i.id i.q).snd=(xF d.L d.id d.qty).snd∧sb l.p.code=sb i.s.p.code∧l.p.tick=i.s.p.tick∧l.p.low=i.s.p.low∧l.p.high=i.s.p.high∧l.p.wide=i.s.p.wide∧l.p.rule=i.s.p.rule∧l.p.top=i.s.p.top∧l.p.least=i.s.p.least∧l.p.part=i.s.p.part∧AObj.objs 184 Book 6 zO l.books none=AObj.objs 184 Book 6 zO ((i.s.books.set b.toNat f).set b.toNat k) none∧yM l.wh=rY (Value.int IntKind.i64 i.id) (yM i.s.wh)∧sQ l i) (∃(l:MSt),(qC i.B i.id i.q).snd=(xF d.L d.id d.qty).snd∧sb l.p.code=sb i.s.p.code∧l.p.tick=i.s.p.tick∧l.p.low=i.s.p.low∧l.p.high=i.s.p.high∧l.p.wide=i.s.p.wide∧l.p.rule=i.s.p.rule∧l.p.top=i.s.p.top∧l.p.least=i.s.p.least∧l.p.part=i.s.p.part∧AObj.objs 184 Book 6 zO l.books none=AObj.objs 184 Book 6 zO ((i.s.books.set b.toNat f).set b.toNat k) none∧sG l i))
set_option linter.unusedSimpArgs false
open Go Cv Go.Proofs
theorem yLu (i:BkL) (h:lad1C.cnd i):yDr i:=by
 obtain⟨Q,c,ht,hL⟩:i.b.Rep i.L:=h
 have hsm:=c.small
 obtain⟨⟨ha1,ha2⟩,hb1,hb2,hsp⟩:=id hsm
 have hlad:=c.lad (.inl rfl)
 rw[← hL]at hlad
 have hlad:g7 i.L (zC false)=i.b.buys.map i.b.told:=hlad
 unfold yDr lZ fJ xX dI
 simp only[hlad,yOs]
 refine⟨1,rfl,trivial,fun _ _=>Cv.cnd.mk (fun e=>absurd e (by decide)) fun _=>⟨0,by(first|exact rfl|exact trivial),by(first|exact rfl|exact trivial),fun j=>j≤i.b.buys.length,fun j=>i.b.buys.length-j,yQn _,fun j hj=>zI (fun e=> ?_) (fun e=> ?_)⟩⟩
 ·obtain⟨r,hr⟩:=z8 (l:=i.b.buys) (i:=j) (by omega)
  have hi:=c.cnt
  refine⟨⟨by omega,by omega⟩,r.price,r.queue,elA hr (by simp[zB]) rfl,⟨i.b.a,r.queue⟩,by(first|exact rfl|exact trivial),by(first|exact rfl|exact trivial),trivial,fun _ _=>⟨by(first|exact rfl|exact trivial),by(first|exact rfl|exact trivial),by(first|exact rfl|exact trivial),⟨i.b.a,r.queue⟩,by(first|exact rfl|exact trivial),by(first|exact rfl|exact trivial),by(first|exact rfl|exact trivial),fun _ _=>⟨by(first|exact rfl|exact trivial),by simp only[yPl,yOs];omega,j+1,wjn (by omega),?_,by omega,by dsimp only;omega,by(repeat'(first|exact trivial|exact rfl|apply And.intro))⟩⟩⟩
  have hrt:(i.b.buys.map i.b.told)[j]? =some (i.b.told r):=by rw[yQg,hr];rfl
  rw[yQb,hrt];simp[lvE,Book.told]
 ·rw[yPf (by rw[yOs];omega)]
  exact⟨(),by(repeat'(first|exact trivial|exact rfl|apply And.intro))⟩
theorem z9k:lad1C.ok Tryz.prog 165:=okw mixed (gokc nX (gokc zBg (gokc cW gok0))) 1 (fun _=>[]) (fun i=>yKd false i) [0] Tryz.func165 yLu
theorem yLl (i:BkL) (h:lad2C.cnd i):yDt i:=by
 obtain⟨Q,c,ht,hL⟩:i.b.Rep i.L:=h
 have hsm:=c.small
 obtain⟨⟨ha1,ha2⟩,hb1,hb2,hsp⟩:=id hsm
 have hlad:=c.lad (.inr rfl)
 rw[← hL]at hlad
 have hlad:g7 i.L (zC true)=i.b.sells.map i.b.told:=hlad
 unfold yDt fP lZ xX dI
 simp only[hlad,yOs]
 refine⟨2,rfl,trivial,fun _ _=>Cv.cnd.mk (fun e=>absurd e (by decide)) fun _=>⟨0,by(first|exact rfl|exact trivial),by(first|exact rfl|exact trivial),fun j=>j≤i.b.sells.length,fun j=>i.b.sells.length-j,yQn _,fun j hj=>zI (fun e=> ?_) (fun e=> ?_)⟩⟩
 ·obtain⟨r,hr⟩:=z8 (l:=i.b.sells) (i:=j) (by omega)
  have hi:=c.cnt
  refine⟨⟨by omega,by omega⟩,r.price,r.queue,elA hr (by simp[zB]) rfl,⟨i.b.a,r.queue⟩,by(first|exact rfl|exact trivial),by(first|exact rfl|exact trivial),trivial,fun _ _=>⟨by(first|exact rfl|exact trivial),by(first|exact rfl|exact trivial),by(first|exact rfl|exact trivial),⟨i.b.a,r.queue⟩,by(first|exact rfl|exact trivial),by(first|exact rfl|exact trivial),by(first|exact rfl|exact trivial),fun _ _=>⟨by(first|exact rfl|exact trivial),by simp only[yPl,yOs];omega,j+1,wjn (by omega),?_,by omega,by dsimp only;omega,by(repeat'(first|exact trivial|exact rfl|apply And.intro))⟩⟩⟩
  have hrt:(i.b.sells.map i.b.told)[j]? =some (i.b.told r):=by rw[yQg,hr];rfl
  rw[yQb,hrt];simp[lvE,Book.told]
 ·rw[yPf (by rw[yOs];omega)]
  exact⟨(),by(repeat'(first|exact trivial|exact rfl|apply And.intro))⟩
theorem yBw:lad2C.ok Tryz.prog 165:=okw mixed (gokc nX (gokc zBg (gokc cW gok0))) 1 (fun _=>[]) (fun i=>yKd true i) [0] Tryz.func165 yLl
theorem yFc:ladC.ok Tryz.prog 165:=fun j=>match j with
 |⟨b,L,false⟩=>z9k ⟨b,L⟩
 |⟨b,L,true⟩=>yBw ⟨b,L⟩
theorem yHi (s:MSt) (h:topsOC.cnd s):z3p s:=by
 obtain⟨h1,h2⟩:s.cntOk:=h
 unfold z3p eH lE dM wD xS jM vV p7 fL uW gE zR fK fS fQ wA zBl pM dI
 have p48:(2:Int) ^ (48:Nat)=281474976710656:=by decide
 refine⟨⟨by omega,by omega,by omega,by rw[p48];omega⟩,0,rfl,?_,fun j=>j≤s.books.length,fun j=>s.books.length-j,by omega,fun j hj=>zI (fun hlt=> ?_) (fun hlt=> ?_)⟩
 ·rw[xE,yPc,List.map_replicate];rfl
 ·have hj':j<s.books.length:=by omega
  obtain⟨b,hb⟩:=z8 hj'
  have hc:=h2 b (yPe hb)
  simp only[yPj]
  have ha:∀x,(List.map zU (y9 s j x)).length=s.books.length:=fun x=>by rw[yOs,zIj hj']
  have w1:IntKind.i64.wrap (0+1)=1:=by decide
  have w2:(0+1) % ((2:Int) ^ IntKind.i64.bits).natAbs=1:=by decide
  refine⟨⟨by omega,by omega⟩,by omega,(j,top0),by rw[zDc hj'],fun x=>x=(j,top0.buy (b.best b.buys)),⟨⟨by decide,by decide⟩,1,rfl,b,hb,⟨false,b⟩,rfl,rfl,hc,fun _ _=>⟨b,rfl,kp,by omega,?_⟩⟩,?_⟩
  ·refine Cv.cnd.mk (fun c=> ?_) (fun c=> ?_)
   ·have c:(b.best b.buys).2=true:=c
    have e1:=xY (s:=s) hj' (x:=top0) (y:={top0 with has1:=true}) (f:=0+0+0*1) (ds:=[D.v (.bool true)]) rfl
    have e2:=xY (s:=s) hj' (x:={top0 with has1:=true}) (y:={top0 with has1:=true,p1:=(b.best b.buys).1.price}) (f:=0+2+0*1) (ds:=[D.v (.int .i64 (b.best b.buys).1.price)]) rfl
    have e3:=xY (s:=s) hj' (x:={top0 with has1:=true,p1:=(b.best b.buys).1.price}) (y:={top0 with has1:=true,p1:=(b.best b.buys).1.price,q1:=(b.best b.buys).1.qty}) (f:=0+4+0*1) (ds:=[D.v (.int .i64 (b.best b.buys).1.qty)]) rfl
    dsimp only
    simp only[show b.side false=b.buys from rfl,e1,e2,e3,ha]
    (repeat'(first|exact rfl|exact trivial|assumption|apply And.intro|refine fun(_:Unit) (_:True)=>?_|refine Exists.intro () ?_|omega|(dsimp only;omega)))
    refine⟨(j,{top0 with has1:=true,p1:=(b.best b.buys).1.price,q1:=(b.best b.buys).1.qty}),rfl,?_,?_⟩
    ·rw[Top.buy,yOu c]
    ·(repeat'(first|exact rfl|exact trivial|assumption|apply And.intro|refine fun(_:Unit) (_:True)=>?_|refine Exists.intro () ?_|omega|(dsimp only;omega)))
     rw[uH hb];rfl
   ·have c:(b.best b.buys).2=false:=c
    refine⟨(j,top0),rfl,?_,?_⟩
    ·rw[Top.buy,yOr (by rw[c];simp)]
    ·(repeat'(first|exact rfl|exact trivial|assumption|apply And.intro|refine fun(_:Unit) (_:True)=>?_|refine Exists.intro () ?_|omega|(dsimp only;omega)))
     rw[uH hb];rfl
  ·rintro _ rfl
   rw[w1]
   generalize hx:top0.buy (b.best b.buys)=x
   have hx2:b.top=x.sell (b.best b.sells):=by rw[Book.top,hx]
   refine⟨(j,x),rfl,fun y=>y=(j,b.top),⟨⟨by decide,by decide⟩,2,rfl,b,hb,⟨true,b⟩,rfl,rfl,hc,fun _ _=>⟨b,rfl,kp,by omega,?_⟩⟩,?_⟩
   ·refine Cv.cnd.mk (fun c=> ?_) (fun c=> ?_)
    ·have c:(b.best b.sells).2=true:=c
     have e1:=xY (s:=s) hj' (x:=x) (y:={x with has2:=true}) (f:=0+0+1*1) (ds:=[D.v (.bool true)]) rfl
     have e2:=xY (s:=s) hj' (x:={x with has2:=true}) (y:={x with has2:=true,p2:=(b.best b.sells).1.price}) (f:=0+2+1*1) (ds:=[D.v (.int .i64 (b.best b.sells).1.price)]) rfl
     have e3:=xY (s:=s) hj' (x:={x with has2:=true,p2:=(b.best b.sells).1.price}) (y:={x with has2:=true,p2:=(b.best b.sells).1.price,q2:=(b.best b.sells).1.qty}) (f:=0+4+1*1) (ds:=[D.v (.int .i64 (b.best b.sells).1.qty)]) rfl
     dsimp only
     simp only[w2,show b.side true=b.sells from rfl,e1,e2,e3,ha]
     (repeat'(first|exact rfl|exact trivial|assumption|apply And.intro|refine fun(_:Unit) (_:True)=>?_|refine Exists.intro () ?_|omega|(dsimp only;omega)))
     refine⟨(j,{x with has2:=true,p2:=(b.best b.sells).1.price,q2:=(b.best b.sells).1.qty}),rfl,?_,?_⟩
     ·rw[hx2,Top.sell,yOu c]
     ·(repeat'(first|exact rfl|exact trivial|assumption|apply And.intro|refine fun(_:Unit) (_:True)=>?_|refine Exists.intro () ?_|omega|(dsimp only;omega)))
      rw[uH hb];rfl
    ·have c:(b.best b.sells).2=false:=c
     refine⟨(j,x),rfl,?_,?_⟩
     ·rw[hx2,Top.sell,yOr (by rw[c];simp)]
     ·(repeat'(first|exact rfl|exact trivial|assumption|apply And.intro|refine fun(_:Unit) (_:True)=>?_|refine Exists.intro () ?_|omega|(dsimp only;omega)))
      rw[uH hb];rfl
   ·rintro _ rfl
    refine⟨j+1,by rw[w64 (by omega)];rfl,?_⟩
    refine⟨by dsimp only;rw[zCx hb],?_⟩
    exact kp
 ·have hj:j≤s.books.length:=hj
  obtain rfl:j=s.books.length:=by omega
  have e:xE s s.books.length=s.tops:=by
   rw[xE,yTz,List.replicate_zero,yPp,yPf (by rw[MSt.tops,yOs];omega)]
  rw[e]
  exact kp
theorem zSe:topsOC.ok Tryz.prog 115:=okw mixed (gokc zDy gok0) 0 (fun s=>yEl s) (fun s=>yDw s) [] Tryz.func115 yHi
theorem yIm (i:StI) (h:stakeC.cnd i):z8j i:=by
 obtain⟨hR,hB⟩:i.s.Rep i.p i.B∧i.B.length≤1000:=h
 have hat:=hR.at_ i.id
 unfold z8j dN mJ sG sQ dI
 cases hi:dE i.B i.id with
 |none=>
  rw[hi]at hat
  refine⟨gB _ _,false,0,.inr ⟨by rw[bG,hat];rfl,rfl,rfl⟩,Cv.cnd.mk (fun _=>⟨i.s,?_⟩) (fun e=>absurd e (by decide))⟩
  have ht:qC i.B i.id i.q=(i.B,26):=by rw[qC,hi]
  rw[ht]
  exact⟨rfl,rfl,rfl,rfl,rfl,rfl,rfl,rfl,rfl,rfl,rfl,rfl,rfl,rfl,hR⟩
 |some k=>
  rw[hi]at hat
  obtain⟨L,hL,hh⟩:=vL hi
  have hk:=(yOt.1 hL).1
  obtain⟨b,hb⟩:=z8 (l:=i.s.books) (i:=k) (by rw[hR.bl];exact hk)
  have hbR:=hR.bk k b L hb hL
  have hbl:=hR.bl
  have hnd:=hbR.ords.2.1
  refine⟨gB _ _,true,k,.inl ⟨by rw[bG,hat];rfl,rfl⟩,Cv.cnd.mk (fun e=>absurd e (by decide)) (fun _=> ?_)⟩
  rw[yPj]
  refine⟨⟨by omega,by omega⟩,by omega,b,hb,⟨b,L,i.id,i.q⟩,rfl,rfl,rfl,hbR,fun b' hb'=> ?_⟩
  have hT:=hR.take (q:=i.q) hi hL hnd hb'
  have hk2:(qC i.B i.id i.q).2=(xF L i.id i.q).2:=by simp only[qC,hi,zQ hL]
  refine⟨b',rfl,rfl,by omega,by rw[yPw];omega,by rw[yPw];omega,b',uJ (by omega),⟨b',(xF L i.id i.q).1,i.id,0⟩,rfl,rfl,hb',fun _ _=>⟨b',rfl,rfl,by rw[yPw];omega,Cv.cnd.mk (fun e=>⟨gB _ _,?_⟩) (fun e=> ?_)⟩⟩
  ·have e:kR (xF L i.id i.q).1 i.id=false:=by simpa using e
   rw[e,yOr (by decide)]at hT
   refine⟨{i.s with books:=i.s.books.set k b',wh:=zUf i.id i.s.wh},hk2,rfl,rfl,rfl,rfl,rfl,rfl,rfl,rfl,rfl,?_,(zQf _ _).symm,rfl,rfl,hT⟩
   rw[ySq]
  ·have e:kR (xF L i.id i.q).1 i.id=true:=by simpa using e
   rw[e,yOu rfl]at hT
   refine⟨{i.s with books:=i.s.books.set k b',wh:=i.s.wh},hk2,rfl,rfl,rfl,rfl,rfl,rfl,rfl,rfl,rfl,?_,rfl,rfl,rfl,hT⟩
   rw[ySq]
theorem eL:stakeC.ok Tryz.prog 113:=okw mixed (gokc yBq (gokc zPn gok0)) 0 (fun _=>[]) (fun _=>[]) [0] Tryz.func113 yIm
open Go Cv Go.Proofs
structure BOk (p:Prd) (B:List (List zG)):Prop where
 pc:p.check=0
 ps:p.small
 bl:B.length=p.count
 pr:∀(k:Nat) (L:List zG),B[k]? =some L→∀o∈L,p.price k o.price=0
def motherC:Con:=con1 Bool (fun b=>[zA (zC b)]) (fun _=>[]) (fun _=>True) (fun b=>zA (zC (!b))) (fun _=>[])
def gY (s:Bool) (p x:Int):Bool:=if s then decide (p≤x)else decide (x≤p)
structure GoI where
 s:Bool
 p:Int
 x:Int
def mgoodC:Con:=con1 GoI (fun i=>[zA (zC i.s),zA i.p,zA i.x]) (fun _=>[]) (fun _=>True) (fun i=>yB (gY i.s i.p i.x)) (fun _=>[])
def yJ (p:Prd) (B:List (List zG)) (inst:Int) (s:Int):Quote×Bool×Bool:=
 let bq:=zT (xK ⟨p,B.map kB,inst⟩ s) s
 let l:=bestL (B.getD inst.toNat []) s
 if(l.2 && !(bq.2 && btr s bq.1.price l.1.price))=true then(⟨l.1.price,l.1.qty,⟨0,0⟩,⟨0,0⟩⟩,false,true)else(bq.1,bq.2,bq.2)
structure NxI where
 s:MSt
 p:Prd
 B:List (List zG)
 inst:Int
 sd:Bool
def nextC:Con:=con1 NxI (fun i=>[.nm 0 0,zA i.inst,zA (zC i.sd)]) (fun i=>[zD i.s]) (fun i=>i.s.Rep i.p i.B∧BOk i.p i.B∧0≤i.inst∧i.inst<i.B.length)
 (fun i=> .tup [zOl (yJ i.p i.B i.inst (zC i.sd)).1,yB (yJ i.p i.B i.inst (zC i.sd)).2.1,yB (yJ i.p i.B i.inst (zC i.sd)).2.2]) (fun i=>[zD i.s])
structure gV where
 id:Int
 inst:Int
 side:Int
 price:Int
 qty:Int
 left:Int
 deriving DecidableEq
def yL (f:gV):List D:=[.v (.int .i64 f.id),.v (.int .i64 f.inst),.v (.int .i64 f.side),.v (.int .i64 f.price),.v (.int .i64 f.qty),.v (.int .i64 f.left)]
def xC (inst s:Int):List zG→List Int→List gV
 |o::os,k::ks=>if 0<k then⟨o.id,inst,s,o.price,k,o.qty-k⟩::xC inst s os ks else xC inst s os ks
 |_,_=>[]
def qD (B:List (List zG)) (fs:List gV):List (List zG):=fs.foldl (fun B f=>(qC B f.id f.qty).1) B
def zMk (B:List (List zG)) (inst s:Int):List zG:=atL (B.getD inst.toNat []) s (bestL (B.getD inst.toNat []) s).1.price
def xU (p:Prd) (B:List (List zG)) (inst s q:Int):List gV:=xC inst s (zMk B inst s) (x4 ⟨p,zMk B inst s,q⟩)
structure TrI where
 s:MSt
 p:Prd
 B:List (List zG)
 inst:Int
 sd:Bool
 q:Int
def TrI.os (i:TrI):List zG:=zMk i.B i.inst (zC i.sd)
def TrI.sh (i:TrI):List Int:=x4 ⟨i.p,i.os,i.q⟩
def TrI.fs (i:TrI) (j:Nat):List gV:=xC i.inst (zC i.sd) (i.os.take j) (i.sh.take j)
def tradeC:Con where
 ι:=TrI
 pat:=fun i=>[.nm 0 0,.agg [zA i.inst,zA (zC i.sd)],zA i.q]
 pre:=fun i=>[zD i.s]
 cnd:=fun i=>i.s.Rep i.p i.B∧BOk i.p i.B∧0≤i.inst∧i.inst<i.B.length∧i64r i.q
 alts:=fun i=>[{o:=MSt,res:=fun _=> .own 1,post:=fun s=>[zD s,.own 319 6 ((xU i.p i.B i.inst (zC i.sd) i.q).map yL)],rel:=fun s=>s.Rep i.p (qD i.B (xU i.p i.B i.inst (zC i.sd) i.q))}]
def yGp (i:TrI):List SAnn:=[{ι:=Nat×MSt,slots:=fun j=>[(0,.nm 0 0),(11,.own 1),(44,zA j.1)],rows:=fun j=>[zD j.2,.own 319 6 ((i.fs j.1).map yL)]}]
open Go Cv Go.Proofs
def zVk (b:Bool):Prop:=
 ∃(a:Unit),(zC !b)=IntKind.i64.wrap (3-zC b)∧True
def z2x (i:GoI):Prop:=
 cnd (zC i.s==1) (cnd (decide (i.x≤i.p)) (∃(a:Unit),gY i.s i.p i.x=true∧True) (cnd (zC i.s==2) (∃(a:Unit),gY i.s i.p i.x=decide (i.x≥i.p)∧True) (∃(a:Unit),gY i.s i.p i.x=false∧True))) (cnd (zC i.s==2) (∃(a:Unit),gY i.s i.p i.x=decide (i.x≥i.p)∧True) (∃(a:Unit),gY i.s i.p i.x=false∧True))
def zAl (a:MSt) (b:NxI):Prop:=sb a.p.code=sb b.s.p.code∧True∧a.p.tick=b.s.p.tick∧a.p.low=b.s.p.low∧a.p.high=b.s.p.high∧a.p.wide=b.s.p.wide∧a.p.rule=b.s.p.rule∧a.p.top=b.s.p.top∧a.p.least=b.s.p.least∧a.p.part=b.s.p.part∧True∧True
def h9 (a:BsI):Prop:=(a.s=1∨a.s=2)∧a.l.length≤1000000
def zV (a:NxI):=(yJ a.p a.B a.inst (zC a.sd))
def zHm (a:NxI) (b:MSt) (c:Book):Prop:=sb a.s.p.code=sb b.p.code∧a.s.p.tick=b.p.tick∧a.s.p.low=b.p.low∧a.s.p.high=b.p.high∧a.s.p.wide=b.p.wide∧a.s.p.rule=b.p.rule∧a.s.p.top=b.p.top∧a.s.p.least=b.p.least∧a.s.p.part=b.p.part∧AObj.objs 184 Book 6 zO a.s.books none=AObj.objs 184 Book 6 zO (b.books.set a.inst.toNat c) none∧yM a.s.wh=yM b.wh∧AObj.fro 1 (iE a.s.p.months)=AObj.fro 1 (iE b.p.months)∧AObj.fro 1 (iE a.s.p.settle)=AObj.fro 1 (iE b.p.settle)∧True
def zIc (a:NxI) (b:BsI) (c:MSt) (d:Book):Prop:=∃(e:Unit),(zV a).fst.price=(zT b.l b.s).fst.price∧(zV a).fst.qty=(zT b.l b.s).fst.qty∧(zV a).fst.a.inst=(zT b.l b.s).fst.a.inst∧(zV a).fst.a.side=(zT b.l b.s).fst.a.side∧(zV a).fst.b.inst=(zT b.l b.s).fst.b.inst∧(zV a).fst.b.side=(zT b.l b.s).fst.b.side∧(zV a).snd.fst=(zT b.l b.s).snd∧(zV a).snd.snd=(zT b.l b.s).snd∧zHm a c d
def zGu (a:NxI) (b:BkS) (c:MSt) (d:Book):Prop:=∃(e:Unit),(zV a).fst.price=(zR b).fst.price∧(zV a).fst.qty=(zR b).fst.qty∧(zV a).fst.a.inst=0∧(zV a).fst.a.side=0∧(zV a).fst.b.inst=0∧(zV a).fst.b.side=0∧(zV a).snd.fst=false∧(zV a).snd.snd=true∧zHm a c d
def zDx (a:nK) (b:NxI) (c:MSt):Prop:=∃(d:BsI),List.map zH d.l=List.map zH (xK a.i (zC a.s))∧d.s=zC b.sd∧(h9 d)∧∀(e:Unit),True→(0≤b.inst∧b.inst<(↑c.books.length:Int))∧b.inst.toNat<c.books.length∧∃(f:Book),c.books[b.inst.toNat]?=some f∧∃(g:BkS),zC g.side=zC b.sd∧zW g.b=zW f∧(jM g)∧∀(h:Unit),True→∃(j:Book),zW g.b=zW j∧b.inst.toNat=b.inst.toNat∧b.inst.toNat<c.books.length∧cnd (zR g).snd (cnd (zT d.l d.s).snd (∃(k:I3'),k.side=zC b.sd∧k.x=(zT d.l d.s).fst.price∧k.y=(zR g).fst.price∧True∧∀(l:Unit),True→cnd (!btr k.side k.x k.y) (zGu b g c j) (zIc b d c j)) (zGu b g c j)) (zIc b d c j)
def zNu (a:MSt) (b:NxI):Prop:=(zAl a b)∧∃(c:nK),sb c.i.p.code=sb b.s.p.code∧iE c.i.p.months=iE a.p.months∧c.i.p.tick=b.s.p.tick∧c.i.p.low=b.s.p.low∧c.i.p.high=b.s.p.high∧c.i.p.wide=b.s.p.wide∧c.i.p.rule=b.s.p.rule∧c.i.p.top=b.s.p.top∧c.i.p.least=b.s.p.least∧c.i.p.part=b.s.p.part∧iE c.i.p.settle=iE a.p.settle∧List.map zU c.i.tops=List.map zU a.tops∧c.i.inst=b.inst∧zC c.s=zC b.sd∧(qZ c)∧∀(d:Unit),True→zDx c b a
def u0 (a:MSt):Prop:=a.books.length≤1000000∧∀(b:Book),b∈a.books→∀(c:gM),c∈b.a.queues→(-9223372036854775808)≤c.count∧c.count≤9223372036854775807
def yEf (i:NxI):Prop:=
 (∃(a:MSt),sb a.p.code=sb i.s.p.code∧a.p.tick=i.s.p.tick∧a.p.low=i.s.p.low∧a.p.high=i.s.p.high∧a.p.wide=i.s.p.wide∧a.p.rule=i.s.p.rule∧a.p.top=i.s.p.top∧a.p.least=i.s.p.least∧a.p.part=i.s.p.part∧AObj.objs 184 Book 6 zO a.books none=AObj.objs 184 Book 6 zO i.s.books none∧yM a.wh=yM i.s.wh∧AObj.fro 1 (iE a.p.months)=AObj.fro 1 (iE i.s.p.months)∧AObj.fro 1 (iE a.p.settle)=AObj.fro 1 (iE i.s.p.settle)∧(u0 a)∧∀(b:Unit),True→(zAl a i)∧(∃(c:nK),sb c.i.p.code=sb i.s.p.code∧iE c.i.p.months=iE a.p.months∧c.i.p.tick=i.s.p.tick∧c.i.p.low=i.s.p.low∧c.i.p.high=i.s.p.high∧c.i.p.wide=i.s.p.wide∧c.i.p.rule=i.s.p.rule∧c.i.p.top=i.s.p.top∧c.i.p.least=i.s.p.least∧c.i.p.part=i.s.p.part∧iE c.i.p.settle=iE a.p.settle∧List.map zU c.i.tops=List.map zU a.tops∧c.i.inst=i.inst∧zC c.s=zC i.sd∧(qZ c)∧∀(d:Unit),True→(zDx c i a)∧zDx c i a)∧zNu a i)∧(sb i.s.p.code=sb i.s.p.code∧True∧i.s.p.tick=i.s.p.tick∧i.s.p.low=i.s.p.low∧i.s.p.high=i.s.p.high∧i.s.p.wide=i.s.p.wide∧i.s.p.rule=i.s.p.rule∧i.s.p.top=i.s.p.top∧i.s.p.least=i.s.p.least∧i.s.p.part=i.s.p.part∧True∧True)∧∃(a:MSt),sb a.p.code=sb i.s.p.code∧a.p.tick=i.s.p.tick∧a.p.low=i.s.p.low∧a.p.high=i.s.p.high∧a.p.wide=i.s.p.wide∧a.p.rule=i.s.p.rule∧a.p.top=i.s.p.top∧a.p.least=i.s.p.least∧a.p.part=i.s.p.part∧AObj.objs 184 Book 6 zO a.books none=AObj.objs 184 Book 6 zO i.s.books none∧yM a.wh=yM i.s.wh∧AObj.fro 1 (iE a.p.months)=AObj.fro 1 (iE i.s.p.months)∧AObj.fro 1 (iE a.p.settle)=AObj.fro 1 (iE i.s.p.settle)∧(u0 a)∧∀(b:Unit),True→zNu a i
def dU (a:AtI):=(List.map jE (atL a.L (zC a.s) a.price))
def zBm (a:Nat×MSt→Prop) (b:Nat×MSt) (c:Nat×MSt→Nat) (d:Nat×MSt) (e:AlI) (f:AtI) (g:BkS) (h:TrI):Prop:=a b∧c b<c d∧AObj.own 2 1 (iE (x4 e))=AObj.own 2 1 (iE (x4 e))∧AObj.fro 5 (dU f)=AObj.fro 5 (dU f)∧Sx.AObj.cells [V.d (dI (gE g)),V.d (dI (wD g)),V.d (dI ((zR g).fst.count))] 76=Sx.AObj.cells [V.d (dI (gE g)),V.d (dI (wD g)),V.d (dI ((zR g).fst.count))] 76∧Sx.AObj.cells [V.d (dI h.inst),V.d (dI (zC h.sd))] 254=Sx.AObj.cells [V.d (dI h.inst),V.d (dI (zC h.sd))] 254∧AObj.fro 1 (iE h.s.p.months)=AObj.fro 1 (iE h.s.p.months)∧AObj.fro 1 (iE h.s.p.settle)=AObj.fro 1 (iE h.s.p.settle)
def vO (a:TrI):=(xU a.p a.B a.inst (zC a.sd) a.q)
def hP (a:TrI):=(qD a.B (vO a))
def z4y (i:TrI):Prop:=
 (0≤i.inst∧i.inst<(↑i.s.books.length:Int))∧i.inst.toNat<i.s.books.length∧∃(a:Book),i.s.books[i.inst.toNat]?=some a∧∃(b:BkS),zC b.side=zC i.sd∧zW b.b=zW a∧(jM b)∧∀(c:Unit),True→∃(d:Book),zW b.b=zW d∧i.inst.toNat=i.inst.toNat∧i.inst.toNat<i.s.books.length∧∃(e:Book),(i.s.books.set i.inst.toNat d)[i.inst.toNat]?=some e∧∃(f:AtI),zC f.s=zC i.sd∧f.price=(zR b).fst.price∧zW f.b=zW e∧f.b.Rep f.L∧∀(g:Unit),True→∃(h:Book),zW f.b=zW h∧i.inst.toNat=i.inst.toNat∧i.inst.toNat<(i.s.books.set i.inst.toNat d).length∧∃(j:AlI),sb j.p.code=sb i.s.p.code∧iE j.p.months=iE i.s.p.months∧j.p.tick=i.s.p.tick∧j.p.low=i.s.p.low∧j.p.high=i.s.p.high∧j.p.wide=i.s.p.wide∧j.p.rule=i.s.p.rule∧j.p.top=i.s.p.top∧j.p.least=i.s.p.least∧j.p.part=i.s.p.part∧iE j.p.settle=iE i.s.p.settle∧List.map jE j.l=List.map jE (atL f.L (zC f.s) f.price)∧j.q=i.q∧(j.l.length≤1000∧((-9223372036854775808)≤j.q∧j.q≤9223372036854775807)∧((-9223372036854775808)≤j.p.least∧j.p.least≤9223372036854775807)∧((-9223372036854775808)≤j.p.top∧j.p.top≤9223372036854775807)∧(-9223372036854775808)≤j.p.part∧j.p.part≤9223372036854775807)∧∀(k:Unit),True→∃(l:Nat×MSt),(↑l.fst:Int)=0∧sb l.snd.p.code=sb i.s.p.code∧l.snd.p.tick=i.s.p.tick∧l.snd.p.low=i.s.p.low∧l.snd.p.high=i.s.p.high∧l.snd.p.wide=i.s.p.wide∧l.snd.p.rule=i.s.p.rule∧l.snd.p.top=i.s.p.top∧l.snd.p.least=i.s.p.least∧l.snd.p.part=i.s.p.part∧AObj.objs 184 Book 6 zO l.snd.books none=AObj.objs 184 Book 6 zO ((i.s.books.set i.inst.toNat d).set i.inst.toNat h) none∧yM l.snd.wh=yM i.s.wh∧AObj.fro 1 (iE l.snd.p.months)=AObj.fro 1 (iE i.s.p.months)∧AObj.fro 1 (iE l.snd.p.settle)=AObj.fro 1 (iE i.s.p.settle)∧List.map yL (i.fs l.fst)=[]∧∃(m:Nat×MSt→Prop),∃(n:Nat×MSt→Nat),m l∧∀(p:Nat×MSt),m p→cnd (decide ((↑p.fst:Int)<(↑(iE (x4 j)).length:Int))) ((0≤(↑p.fst:Int)∧(↑p.fst:Int)<(↑(iE (x4 j)).length:Int))∧∃(q:Int),zF (iE (x4 j)) (↑p.fst:Int).toNat 0 1=some [dI q]∧cnd (decide (q>0)) ((0≤(↑p.fst:Int)∧(↑p.fst:Int)<(↑(dU f).length:Int))∧∃(r:Int),∃(s:Int),∃(t:Int),∃(u:Int),∃(v:Bool),zF (dU f) (↑p.fst:Int).toNat 0 5=some [dI r,dI s,dI t,dI u,D.v (.bool v)]∧∃(w:StI),w.id=r∧w.q=q∧zD w.s=zD p.snd∧(w.s.Rep w.p w.B∧w.B.length≤1000)∧∀(x:MSt),x.Rep w.p (qC w.B w.id w.q).fst→((List.map yL (i.fs p.fst)).length+1)*(48:Nat)≤(140737488355328:Nat)∧∃(y:Nat×MSt),(↑y.fst:Int)=IntKind.i64.wrap ((↑p.fst:Int)+1)∧zD y.snd=zD x∧List.map yL (i.fs y.fst)=List.map yL (i.fs p.fst)++[[dI r,dI i.inst,dI (zC i.sd),dI t,dI q,dI (IntKind.i64.wrap (u-q))]]∧zBm m y n p j f b i) (∃(r:Nat×MSt),(↑r.fst:Int)=IntKind.i64.wrap ((↑p.fst:Int)+1)∧zD r.snd=zD p.snd∧List.map yL (i.fs r.fst)=List.map yL (i.fs p.fst)∧zBm m r n p j f b i)) (∃(q:MSt),zD q=zD p.snd∧List.map yL (vO i)=List.map yL (i.fs p.fst)∧q.Rep i.p (hP i))
open Go Cv Go.Proofs
theorem lJ {p:Prd} (hc:p.check=0) {k v:Int} (h:p.price k v=0): -2000000≤v∧v≤2000000:=by
 have ok:=wX hc
 have:=ok.b1
 have:=ok.b2
 have:=ok.b3
 have:=ok.b4
 have:=ok.b5
 rw[Prd.price]at h
 by_cases c1:p.count=0
 ·rw[yOu c1]at h;cases h
 by_cases c2:k<0∨(p.count:Int)≤k
 ·rw[yOr c1,yOu c2]at h;cases h
 cases c3:gS p.tick v with
 |true=>rw[yOr c1,yOr c2,yOu c3]at h;cases h
 |false=>
  rw[yOr c1,yOr c2,yOr (by rw[c3];decide)]at h
  by_cases c4:(p.months.length:Int)≤k
  ·simp only[yOu c4]at h
   by_cases c5:v< -p.wide∨p.wide<v
   ·rw[yOu c5]at h;cases h
   ·omega
  ·simp only[yOr c4]at h
   by_cases c5:v<p.low∨p.high<v
   ·rw[yOu c5]at h;cases h
   ·omega
open Go Cv Go.Proofs
structure zOo (qs sh:List Int) (q:Int):Prop where
 len:sh.length=qs.length
 bd:∀n,0≤sh.getD n 0∧sh.getD n 0≤qs.getD n 0
 sum:sh.sum=q
theorem z8b:∀{l:List Int},(∀x∈l,0≤x)→0≤l.sum
 |[],_=>yTl 0
 |a::l,h=>by
  have:=z8b (l:=l) fun x hx=>h x (yOz _ hx)
  have:=h a yOx
  rw[yQc];omega
theorem zVz:∀{z:List (Int×Int)},(∀y∈z,0≤y.2∧y.2≤y.1)→(z.map (·.2)).sum≤(z.map (·.1)).sum
 |[],_=>yTl 0
 |a::l,h=>by
  have:=zVz (z:=l) fun x hx=>h x (yOz _ hx)
  have:=h a yOx
  rw[yPd,yPd,yQc,yQc];omega
theorem pC:∀(l:List Int) (q:Int),(∀x∈l,0≤x)→0≤q→q≤l.sum→zOo l (wQ l q) q
 |[],q,_,h0,h1=>⟨rfl,fun n=>by simp[wQ],by simp at h1;simp[wQ];omega⟩
 |n::l,q,h,h0,h1=>by
  have hn:=h n yOx
  rw[yQc]at h1
  have:=z8b fun x hx=>h x (yOz _ hx)
  have ih:=pC l (q-min n q) (fun x hx=>h x (yOz _ hx)) (by omega) (by omega)
  refine⟨by rw[wQ,yOy,yOy,ih.len],fun k=> ?_,by rw[wQ,yQc,ih.sum];omega⟩
  cases k with
  |zero=>exact⟨by show 0≤min n q;omega,by show min n q≤n;omega⟩
  |succ k=>exact ih.bd k
theorem sB:∀(z:List (Int×Int)) (q:Int),(∀y∈z,0≤y.2∧y.2≤y.1)→0≤q→q≤(z.map (·.1)).sum-(z.map (·.2)).sum→(kG z q).length=z.length∧(∀n,0≤(kG z q).getD n 0∧(kG z q).getD n 0≤(z.map (·.1)).getD n 0)∧(kG z q).sum=(z.map (·.2)).sum+q
 |[],q,_,h0,h1=>⟨rfl,fun n=>by simp[kG],by simp at h1;simp[kG];omega⟩
 |(n,x)::r,q,h,h0,h1=>by
  have hn:=h (n,x) yOx
  simp only[yPd,yQc]at h1
  have:=zVz fun y hy=>h y (yOz _ hy)
  have ih:=sB r (q-min (n-x) q) (fun y hy=>h y (yOz _ hy)) (by omega) (by omega)
  refine⟨by rw[kG,yOy,yOy,ih.1],fun k=> ?_,by rw[kG,yQc,ih.2.2,yPd,yQc];omega⟩
  cases k with
  |zero=>exact⟨by show 0≤x+min (n-x) q;have:=hn.1;have:=hn.2;dsimp only at*;omega,by show x+min (n-x) q≤n;have:=hn.2;dsimp only at*;omega⟩
  |succ k=>exact ih.2.1 k
theorem z3h {l:List Int} {q:Int} (h1:l.length≤250) (h2:0≤q) (h3:∀x∈l,1≤x∧x≤1000000) (h4:q≤l.sum):yK l q=true:=by
 rw[yK,yPn h1,yPn h2,yPn h4]
 simp only[yRr,Bool.and_true,yRq,yPh,yRf]
 exact h3
theorem zLx {i:PlI} (h:yK i.l i.q=true) (hl:1≤i.least):zOo i.l (qF i) i.q:=by
 obtain⟨r1,r2,r3,r4⟩:=qH h
 rw[qF,yOu ⟨h,hl⟩]
 by_cases hne:i.l.length=0
 ·have e:i.l=[]:=yPo hne
  have hq:i.q=0:=by rw[e]at r4;simp at r4;omega
  have e0:i.p1=[]:=by rw[PlI.p1,e];rfl
  rw[e0,e,hq]
  exact⟨rfl,fun n=>by simp,rfl⟩
 ·obtain⟨_,_,f1,f2⟩:=eK h (by omega)
  have hpl:=zTt i
  have m1:(i.l.zip i.p0).map (·.1)=i.l:=List.map_fst_zip (by omega)
  have m2:(i.l.zip i.p0).map (·.2)=i.p0:=List.map_snd_zip (by omega)
  have hp:=sB (i.l.zip i.p0) (i.q-i.p0.sum) (fun y hy=>by
   obtain⟨j,hj⟩:=yRg.1 hy
   rw[ySy]at hj
   exact f1 j _ _ hj.1 hj.2) (by omega) (by rw[m1,m2];omega)
  rw[m1,m2]at hp
  refine⟨?_,hp.2.1,?_⟩
  ·rw[PlI.p1,hp.1,List.length_zip,hpl,Nat.min_self]
  ·rw[PlI.p1,hp.2.2];omega
theorem zMs:∀{l:List Int} {k:Nat} {x:Int},k<l.length→(l.set k x).sum=l.sum+(x-l.getD k 0)
 |[],k,x,h=>absurd h (by simp)
 |a::l,0,x,_=>by
  show x+l.sum=a+l.sum+(x-a);omega
 |a::l,k+1,x,h=>by
  have:=zMs (l:=l) (k:=k) (x:=x) (by simpa using h)
  show a+(l.set k x).sum=a+l.sum+(x-l.getD k 0)
  omega
theorem zIm {l:List Int} {k n:Nat} {x:Int} (h:k<l.length):(l.set k x).getD n 0=if n=k then x else l.getD n 0:=by
 rw[yPa,yTv]
 by_cases e:k=n
 ·subst e;rw[yOu rfl,yOu h,yOu rfl];rfl
 ·rw[yOr e,yOr (fun e2=>e e2.symm),yPa]
theorem zSk {l:List Int}:∀(z:List (Nat×Int)) (o:List Int),(z.map (·.1)).Nodup→(∀y∈z,y.1<o.length∧0≤y.2∧o.getD y.1 0+y.2≤l.getD y.1 0)→(∀n,0≤o.getD n 0∧o.getD n 0≤l.getD n 0∧l.getD n 0≤1000000)→
 (z.foldl (fun o y=>o.set y.1 (IntKind.i64.wrap (o.getD y.1 0+y.2))) o).length=o.length∧(z.foldl (fun o y=>o.set y.1 (IntKind.i64.wrap (o.getD y.1 0+y.2))) o).sum=o.sum+(z.map (·.2)).sum∧∀n,0≤(z.foldl (fun o y=>o.set y.1 (IntKind.i64.wrap (o.getD y.1 0+y.2))) o).getD n 0∧(z.foldl (fun o y=>o.set y.1 (IntKind.i64.wrap (o.getD y.1 0+y.2))) o).getD n 0≤l.getD n 0
 |[],o,_,_,h=>⟨rfl,by simp,fun n=>⟨(h n).1,(h n).2.1⟩⟩
 |y::z,o,hn,hz,h=>by
  obtain⟨h1,h2,h3⟩:=hz y yOx
  rw[yPd,yRd]at hn
  have hw:IntKind.i64.wrap (o.getD y.1 0+y.2)=o.getD y.1 0+y.2:=by
   have:=h y.1
   exact w64 (by omega)
  rw[yTb,hw]
  have ih:=zSk (l:=l) z (o.set y.1 (o.getD y.1 0+y.2)) hn.2 (fun x hx=>by
   obtain⟨g1,g2,g3⟩:=hz x (yOz _ hx)
   have hne:x.1≠y.1:=fun e=>hn.1 (e▸yPu (f:=(·.1)) hx)
   rw[yPw,zIm h1,yOr hne]
   exact⟨g1,g2,g3⟩) (fun n=>by
   rw[zIm h1]
   split
   ·rename_i e
    rw[e]
    exact⟨by have:=h y.1;omega,h3,(h y.1).2.2⟩
   ·exact h n)
  refine⟨by rw[ih.1,yPw],?_,ih.2.2⟩
  rw[ih.2.1,zMs h1,yPd,yQc];omega
theorem zHw (l:List Int):(List.range l.length).map (fun n=>l.getD n 0)=l:=by
 apply yTd
 intro n
 rw[yQg]
 by_cases h:n<l.length
 ·rw[ySn h,yPz h,yQp,yPa,yPz h];rfl
 ·rw[yPt (by simpa using h),yPt (by omega)];rfl
theorem zWe {f g:Nat→Int}:∀l:List Nat,(l.map fun n=>f n-g n).sum=(l.map f).sum-(l.map g).sum
 |[]=>rfl
 |a::l=>by rw[yPd,yPd,yPd,yQc,yQc,yQc,zWe l];omega
theorem zFq {f:Nat→Int} {p:Nat→Bool}:∀{l:List Nat},(∀n∈l,p n=false→f n=0)→((l.filter p).map f).sum=(l.map f).sum
 |[],_=>rfl
 |a::l,h=>by
  have ih:=zFq (l:=l) fun n hn=>h n (yOz _ hn)
  rw[yPd,yQc]
  by_cases e:p a=true
  ·rw[yTe e,yPd,yQc,ih]
  ·rw[yTf e,ih,h a yOx (by simpa using e)];omega
theorem nD {i:RsI} (hl:i.l.length≤250) (ho:i.out.length=i.l.length) (hn:∀n,0≤i.out.getD n 0∧i.out.getD n 0≤i.l.getD n 0∧i.l.getD n 0≤1000000) (hq:0≤i.q∧i.q≤i.l.sum-i.out.sum) (hle:1≤i.least):
 zOo i.l (bT i) (i.out.sum+i.q):=by
 have hidx:(i.idx i.l.length).length≤250:=yRw (ySd _ _) (by simpa using hl)
 have hmem:∀n∈i.idx i.l.length,n<i.l.length∧i.out.getD n 0<i.l.getD n 0:=by
  intro n hn
  obtain⟨a,b⟩:=yRa.1 hn
  exact⟨yRx.1 a,yRk b⟩
 have hls:(i.left i.l.length).sum=i.l.sum-i.out.sum:=by
  rw[RsI.left,RsI.idx,zFq,zWe,zHw]
  ·rw[← ho,zHw]
  ·intro n _ e
   have:=yUk e
   have:=hn n
   omega
 have hr:yK (i.left i.l.length) i.q=true:=by
  refine z3h (by rw[RsI.left,yOs];exact hidx) hq.1 (fun x hx=> ?_) (by omega)
  obtain⟨n,hm,rfl⟩:=yQk.1 hx
  have:=hmem n hm
  have:=hn n
  omega
 have hp:=zLx (i:=⟨i.left i.l.length,i.least,i.q⟩) hr hle
 have hpl:i.pl.length=(i.idx i.l.length).length:=by
  have:=hp.len
  rw[RsI.pl,this,RsI.left,yOs]
 have hnd:(i.idx i.l.length).Nodup:=List.nodup_range.sublist yUf
 have z1:((i.idx i.l.length).zip i.pl).map (·.1)=i.idx i.l.length:=List.map_fst_zip (by omega)
 have z2:((i.idx i.l.length).zip i.pl).map (·.2)=i.pl:=List.map_snd_zip (by omega)
 have hf:=zSk (l:=i.l) ((i.idx i.l.length).zip i.pl) i.out (by rw[z1];exact hnd) (fun y hy=>by
  obtain⟨j,hj⟩:=yRg.1 hy
  rw[ySy]at hj
  have hm:=hmem y.1 (yPe hj.1)
  have hb:=hp.bd j
  have e1:(qF ⟨i.left i.l.length,i.least,i.q⟩).getD j 0=y.2:=by
   rw[yPa]
   have:(qF ⟨i.left i.l.length,i.least,i.q⟩)[j]? =some y.2:=hj.2
   rw[this];rfl
  have e2:(i.left i.l.length).getD j 0=i.l.getD y.1 0-i.out.getD y.1 0:=by
   rw[yPa,RsI.left,yQg,hj.1];rfl
  dsimp only at hb
  rw[e1,e2]at hb
  exact⟨by omega,hb.1,by omega⟩) hn
 have hall:bT i=((i.idx i.l.length).zip i.pl).foldl (fun o y=>o.set y.1 (IntKind.i64.wrap (o.getD y.1 0+y.2))) i.out:=by
  rw[bT,RsI.add,yPf (by rw[List.length_zip];omega)]
 rw[hall]
 refine⟨by rw[hf.1,ho],hf.2.2,?_⟩
 rw[hf.2.1,z2]
 have:=hp.sum
 rw[RsI.pl,this]
theorem zVo {l:List Int} (h:∀x∈l,1≤x∧x≤1000000) (n:Nat):0≤l.getD n 0∧l.getD n 0≤1000000:=by
 by_cases hn:n<l.length
 ·obtain⟨x,hx⟩:=z8 hn
  have:=h x (yPe hx)
  rw[zQ hx];omega
 ·rw[yPa,yPt (by omega)];decide
theorem yIg (n k:Nat):(List.replicate n (0:Int)).getD k 0=0:=by
 rw[yPa,List.getElem?_replicate]
 split<;>rfl
theorem zGi (n:Nat):(List.replicate n (0:Int)).sum=0:=by
 induction n with
 |zero=>rfl
 |succ n ih=>rw[ySm,yQc,ih];rfl
theorem yEu {q part:Int} (hq:0≤q) (h0:0≤part) (h1:part≤100):0≤q*part / 100∧q*part / 100≤q:=by
 have h2:0≤q*part:=Int.mul_nonneg hq h0
 have h3:q*part≤q*100:=Int.mul_le_mul_of_nonneg_left h1 hq
 constructor<;>omega
theorem zOm {p:Prd} (hc:p.check=0) {l:List zG} {q:Int} (hr:yK (l.map (·.qty)) q=true):zOo (l.map (·.qty)) (x4 ⟨p,l,q⟩) q:=by
 have ok:=wX hc
 obtain⟨r1,r2,r3,r4⟩:=qH hr
 have q1:=ok.q1
 have q3:=ok.q3
 have q5:=ok.q5
 have q6:=ok.q6
 have r5:=ok.r1
 have r6:=ok.r2
 have gb:=zVo r3
 have eqs:(AlI.qs ⟨p,l,q⟩)=l.map (·.qty):=rfl
 rw[x4]
 simp only[eqs]
 generalize l.map (·.qty)=qs at*
 by_cases c1:p.rule=1
 ·rw[yOu c1,wZ,yOu hr]
  exact pC _ _ (fun x hx=>by have:=r3 x hx;omega) r2 r4
 by_cases c2:p.rule=2
 ·rw[yOr c1,yOu c2,lO,yOu ⟨hr,q3,q1⟩]
  rw[PsI.rs]
  dsimp only
  split
  ·rename_i ht
   have hk:(topI l).toNat<(List.replicate qs.length (0:Int)).length:=by simp;omega
   have hf:0≤PsI.first ⟨qs,topI l,p.top,p.least,q⟩∧PsI.first ⟨qs,topI l,p.top,p.least,q⟩≤qs.getD (topI l).toNat 0∧PsI.first ⟨qs,topI l,p.top,p.least,q⟩≤q:=by
    have:=gb (topI l).toNat
    simp only[PsI.first]
    omega
   have hs:((List.replicate qs.length (0:Int)).set (topI l).toNat (PsI.first ⟨qs,topI l,p.top,p.least,q⟩)).sum=PsI.first ⟨qs,topI l,p.top,p.least,q⟩:=by
    rw[zMs hk,zGi,yIg];omega
   have:=nD (i:=⟨qs,(List.replicate qs.length 0).set (topI l).toNat (PsI.first ⟨qs,topI l,p.top,p.least,q⟩),p.least,q-PsI.first ⟨qs,topI l,p.top,p.least,q⟩⟩) r1 (by simp) (fun n=>by
    dsimp only
    rw[zIm hk,yIg]
    have:=gb n
    split
    ·rename_i e;rw[e];exact⟨hf.1,hf.2.1,(gb _).2⟩
    ·omega) (by dsimp only;rw[hs];omega) q3
   dsimp only at this
   rw[hs]at this
   have e:PsI.first ⟨qs,topI l,p.top,p.least,q⟩+(q-PsI.first ⟨qs,topI l,p.top,p.least,q⟩)=q:=by omega
   rw[e]at this
   exact this
  ·have:=nD (i:=⟨qs,List.replicate qs.length 0,p.least,q⟩) r1 (by simp) (fun n=>by
    dsimp only
    rw[yIg]
    have:=gb n
    omega) (by dsimp only;rw[zGi];omega) q3
   dsimp only at this
   rw[zGi,Int.zero_add]at this
   exact this
 ·have c3:p.rule=3:=by omega
  rw[yOr c1,yOr c2,yOu c3,tW,yOu ⟨hr,q5,q6,q3⟩]
  rw[SpI.rs]
  dsimp only
  obtain⟨d1,d2⟩:=yEu r2 q5 q6
  have hr2:yK qs (q*p.part / 100)=true:=z3h r1 d1 r3 (by omega)
  have hfs:=pC qs (q*p.part / 100) (fun x hx=>by have:=r3 x hx;omega) d1 (by omega)
  have e0:wZ qs (q*p.part / 100)=wQ qs (q*p.part / 100):=by rw[wZ,yOu hr2]
  have:=nD (i:=⟨qs,wZ qs (q*p.part / 100),p.least,q-q*p.part / 100⟩) r1 (by dsimp only;rw[e0];exact hfs.len) (fun n=>by
   dsimp only
   rw[e0]
   exact⟨(hfs.bd n).1,(hfs.bd n).2,(gb n).2⟩) (by dsimp only;rw[e0,hfs.sum];omega) q3
  dsimp only at this
  rw[e0,hfs.sum]at this
  rw[e0]
  have e:q*p.part / 100+(q-q*p.part / 100)=q:=by omega
  rw[e]at this
  exact this
theorem zSz {p:Prd} {l:List zG} {q:Int} (hr:yK (l.map (·.qty)) q=false):x4 ⟨p,l,q⟩=[]:=by
 have eqs:(AlI.qs ⟨p,l,q⟩)=l.map (·.qty):=rfl
 rw[x4]
 simp only[eqs,wZ,lO,tW,hr]
 simp
open Go Cv Go.Proofs
theorem zKk:motherC.ok Tryz.prog 153:=okw (V:=zVk) mixed gok0 0 (fun _=>[]) (fun _=>[]) [] Tryz.func153 fun(b:Bool) _=>by
 unfold zVk
 cases b<;>exact⟨(),by decide,trivial⟩
theorem zPe:mgoodC.ok Tryz.prog 154:=okw (V:=z2x) mixed gok0 0 (fun _=>[]) (fun _=>[]) [] Tryz.func154 fun(i:GoI) _=>by
 obtain⟨s,p,x⟩:=i
 unfold z2x
 cases s
 ·refine Cv.cnd.mk (fun _=>zI (fun c=>⟨(),?_,trivial⟩) (fun c=>Cv.cnd.mk (fun e=>by simp[zC]at e) (fun _=>⟨(),?_,trivial⟩))) (fun e=>by simp[zC]at e)
  ·exact yPn c
  ·exact yPm c
 ·exact Cv.cnd.mk (fun e=>by simp[zC]at e) (fun _=>Cv.cnd.mk (fun _=>⟨(),rfl,trivial⟩) (fun e=>by simp[zC]at e))
theorem zOp {L:List zG} {s:Int}:((bestL L s).2=true∧∃o∈L,o.side=s∧o.price=(bestL L s).1.price)∨(bestL L s=(⟨0,0,0⟩,false)∧∀o∈L,o.side≠s):=by
 rw[bestL]
 cases hl:g7 L s with
 |nil=>
  refine .inr ⟨rfl,fun o ho e=> ?_⟩
  rw[g7]at hl
  cases hf:L.filter fun o=>decide (o.side=s)with
  |nil=>
   rw[List.filter_eq_nil_iff]at hf
   have:=hf o ho
   simp[e]at this
  |cons x y=>
   rw[hf,grp]at hl
   split at hl
   ·cases hl
   ·split at hl<;>cases hl
 |cons v vs=>
  refine .inl ⟨rfl,?_⟩
  rw[g7]at hl
  obtain⟨o,r,e1,e2⟩:=zRn hl
  have:o∈L.filter fun o=>decide (o.side=s):=by rw[e1];exact yOx
  rw[yRa]at this
  exact⟨o,this.1,by simpa using this.2,e2⟩
theorem zOj {L:List zG} {s:Int} (h:∀o∈L,-2000000≤o.price∧o.price≤2000000): -2000000≤(bestL L s).1.price∧(bestL L s).1.price≤2000000:=by
 rcases zOp (L:=L) (s:=s)with⟨_,o,ho,_,e⟩|⟨e,_⟩
 ·rw[← e];exact h o ho
 ·rw[e];constructor<;>decide
theorem zMm (L:List zG):(kB L).p1=(bestL L 1).1.price∧(kB L).q1=(bestL L 1).1.qty∧(kB L).has1=(bestL L 1).2∧(kB L).p2=(bestL L 2).1.price∧(kB L).q2=(bestL L 2).1.qty∧(kB L).has2=(bestL L 2).2:=by
 have h:∀s,(bestL L s).2=true∨bestL L s=(⟨0,0,0⟩,false):=fun s=>by
  rcases zOp (L:=L) (s:=s)with⟨h,_⟩|⟨h,_⟩
  ·exact .inl h
  ·exact .inr h
 rw[kB,Top.sell,Top.buy]
 rcases h 1 with h1|h1<;>rcases h 2 with h2|h2<;>simp[h1,h2,top0]
theorem BOk.prices {p:Prd} {B:List (List zG)} (h:BOk p B) {k:Nat} {L:List zG} (hL:B[k]? =some L):∀o∈L,-2000000≤o.price∧o.price≤2000000:=fun o ho=>lJ h.pc (h.pr k L hL o ho)
theorem BOk.tops {p:Prd} {B:List (List zG)} (h:BOk p B):jN (B.map kB):=by
 have:=xR p
 refine⟨by rw[yOs,h.bl];omega,fun t ht=> ?_⟩
 obtain⟨L,hL,rfl⟩:=yQk.1 ht
 obtain⟨k,hk⟩:=yRg.1 hL
 have b1:=zOj (s:=1) (h.prices hk)
 have b2:=zOj (s:=2) (h.prices hk)
 rw[(zMm L).1,(zMm L).2.2.2.1]
 exact⟨by constructor<;>omega,by constructor<;>omega⟩
theorem MSt.Rep.tops {s:MSt} {p:Prd} {B:List (List zG)} (h:s.Rep p B):s.tops=B.map kB:=by
 rw[MSt.tops]
 apply yTd
 intro k
 rw[yQg,yQg]
 by_cases hk:k<B.length
 ·obtain⟨L,hL⟩:=z8 hk
  obtain⟨b,hb⟩:=z8 (l:=s.books) (i:=k) (by rw[h.bl];exact hk)
  rw[hL,hb,yQp,yQp,(h.bk k b L hb hL).top]
 ·rw[yPt (by rw[h.bl];omega),yPt (by omega)];rfl
theorem MSt.Rep.cnt {s:MSt} {p:Prd} {B:List (List zG)} (h:s.Rep p B) (hB:B.length≤1000000):s.cntOk:=by
 refine⟨by rw[h.bl];exact hB,fun b hb=> ?_⟩
 obtain⟨k,hk⟩:=yRg.1 hb
 have hlt:=(yOt.1 hk).1
 rw[h.bl]at hlt
 obtain⟨L,hL⟩:=z8 hlt
 exact(h.bk k b L hk hL).cnt
theorem zQk {b:Book} {L:List zG} (h:b.Rep L) (sd:Bool):b.best (b.side sd)=bestL L (zC sd):=by
 obtain⟨Q,c,ht,rfl⟩:=h
 cases sd
 ·exact c.bestL (.inl rfl)
 ·exact c.bestL (.inr rfl)
theorem lP (sd:Bool):zC sd=1∨zC sd=2:=by cases sd;exact .inl rfl;exact .inr rfl
theorem yMd (i:NxI) (h:nextC.cnd i):yEf i:=by
 obtain⟨hR,hB,h0,h1⟩:i.s.Rep i.p i.B∧BOk i.p i.B∧0≤i.inst∧i.inst<i.B.length:=h
 have hcl:=xR i.p
 have hbl:=hB.bl
 have hsl:=hR.bl
 obtain⟨k,hk⟩:∃k:Nat,i.inst=k:=⟨i.inst.toNat,by omega⟩
 obtain⟨L,hL⟩:=z8 (l:=i.B) (i:=k) (by omega)
 obtain⟨b,hb⟩:=z8 (l:=i.s.books) (i:=k) (by omega)
 have hbR:=hR.bk k b L hb hL
 have hps:i.s.p.small:=by rw[hR.ep];exact hB.ps
 have hto:jN i.s.tops:=by rw[hR.tops];exact hB.tops
 have hnx:yJ i.p i.B i.inst (zC i.sd)=if((bestL L (zC i.sd)).2 && !((zT (xK ⟨i.s.p,i.s.tops,i.inst⟩ (zC i.sd)) (zC i.sd)).2 && btr (zC i.sd) (zT (xK ⟨i.s.p,i.s.tops,i.inst⟩ (zC i.sd)) (zC i.sd)).1.price (bestL L (zC i.sd)).1.price))=true then(⟨(bestL L (zC i.sd)).1.price,(bestL L (zC i.sd)).1.qty,⟨0,0⟩,⟨0,0⟩⟩,false,true)else((zT (xK ⟨i.s.p,i.s.tops,i.inst⟩ (zC i.sd)) (zC i.sd)).1,(zT (xK ⟨i.s.p,i.s.tops,i.inst⟩ (zC i.sd)) (zC i.sd)).2,(zT (xK ⟨i.s.p,i.s.tops,i.inst⟩ (zC i.sd)) (zC i.sd)).2):=by
  rw[yJ,hR.tops,hR.ep,hk,yPj,zQ hL]
 have hbest:=zQk hbR i.sd
 unfold yEf zNu qZ vT zDx jM zGu zR zIc zHm zV h9 u0 zAl
 have hcnt:i.s.cntOk:=hR.cnt (by omega)
 have hql:(xK ⟨i.s.p,i.s.tops,i.inst⟩ (zC i.sd)).length≤1000000:=by
  have:=yRw (ySd (fun q=>decide (i.s.p.price i.inst q.price=0)) _) (eJ ⟨i.s.p,i.s.tops,i.inst⟩ (zC i.sd))
  exact yRw this (by decide)
 refine(fun hT=>⟨⟨i.s,rfl,rfl,rfl,rfl,rfl,rfl,rfl,rfl,rfl,rfl,rfl,rfl,rfl,hcnt,fun _ _=>⟨⟨rfl,trivial,rfl,rfl,rfl,rfl,rfl,rfl,rfl,rfl,trivial,trivial⟩,⟨⟨⟨i.s.p,i.s.tops,i.inst⟩,i.sd⟩,rfl,rfl,rfl,rfl,rfl,rfl,rfl,rfl,rfl,rfl,rfl,rfl,rfl,rfl,⟨hps,hto⟩,fun _ _=>⟨hT,hT⟩⟩,⟨rfl,trivial,rfl,rfl,rfl,rfl,rfl,rfl,rfl,rfl,trivial,trivial⟩,⟨⟨⟨i.s.p,i.s.tops,i.inst⟩,i.sd⟩,rfl,rfl,rfl,rfl,rfl,rfl,rfl,rfl,rfl,rfl,rfl,rfl,rfl,rfl,⟨hps,hto⟩,fun _ _=>hT⟩⟩⟩,
  ⟨rfl,trivial,rfl,rfl,rfl,rfl,rfl,rfl,rfl,rfl,trivial,trivial⟩,⟨i.s,rfl,rfl,rfl,rfl,rfl,rfl,rfl,rfl,rfl,rfl,rfl,rfl,rfl,hcnt,fun _ _=>⟨⟨rfl,trivial,rfl,rfl,rfl,rfl,rfl,rfl,rfl,rfl,trivial,trivial⟩,⟨⟨⟨i.s.p,i.s.tops,i.inst⟩,i.sd⟩,rfl,rfl,rfl,rfl,rfl,rfl,rfl,rfl,rfl,rfl,rfl,rfl,rfl,rfl,⟨hps,hto⟩,fun _ _=>hT⟩⟩⟩⟩) ?_
 refine⟨⟨xK ⟨i.s.p,i.s.tops,i.inst⟩ (zC i.sd),zC i.sd⟩,rfl,rfl,⟨lP _,hql⟩,fun _ _=>⟨⟨h0,by omega⟩,by omega,b,by rw[hk];exact hb,⟨i.sd,b⟩,rfl,rfl,hbR.cnt,fun _ _=>⟨b,rfl,rfl,by omega,?_⟩⟩⟩
 dsimp only
 rw[hbest]
 generalize bestL L (zC i.sd)=l at*
 generalize zT (xK ⟨i.s.p,i.s.tops,i.inst⟩ (zC i.sd)) (zC i.sd)=bq at*
 have hset:i.s.books.set i.inst.toNat b=i.s.books:=wO (by rw[hk];exact hb)
 rw[hset]
 refine Cv.cnd.mk (fun c1=>Cv.cnd.mk (fun c2=>⟨⟨zC i.sd,bq.1.price,l.1.price⟩,rfl,rfl,rfl,trivial,fun _ _=>Cv.cnd.mk (fun c3=> ?_) (fun c3=> ?_)⟩) (fun c2=> ?_)) (fun c1=> ?_)
 ·dsimp only at c3
  rw[yOu (by rw[c1,c2];simpa using c3)]at hnx
  rw[hnx];exact⟨(),by(repeat'(first|exact trivial|exact rfl|apply And.intro))⟩
 ·dsimp only at c3
  rw[yOr (by rw[c1,c2];simpa using c3)]at hnx
  rw[hnx];exact⟨(),by(repeat'(first|exact trivial|exact rfl|apply And.intro))⟩
 ·rw[yOu (by rw[c1,c2];rfl)]at hnx
  rw[hnx];exact⟨(),by(repeat'(first|exact trivial|exact rfl|apply And.intro))⟩
 ·rw[yOr (by rw[c1];simp)]at hnx
  rw[hnx];exact⟨(),by(repeat'(first|exact trivial|exact rfl|apply And.intro))⟩
theorem z8w:nextC.ok Tryz.prog 184:=okw mixed (gokc zSe (gokc zJu (gokc zRt (gokc zDy (gokc fX gok0))))) 0 (fun _=>[]) (fun _=>[]) [0] Tryz.func184 yMd
theorem zWh (i:RsI) (k:Nat):(i.add k).length=i.out.length:=by
 have:∀(l:List (Nat×Int)) (o:List Int),(l.foldl (fun o y=>o.set y.1 (IntKind.i64.wrap (o.getD y.1 0+y.2))) o).length=o.length:=by
  intro l
  induction l with
  |nil=>intro o;rfl
  |cons x l ih=>intro o;rw[yTb,ih,yPw]
 exact this _ _
theorem zQe (l:List Int) (q:Int):(wZ l q).length≤l.length:=by
 rw[wZ];split
 ·rw[nO];exact yPy _
 ·exact yQn _
theorem zYy (i:AlI):(x4 i).length≤i.l.length:=by
 have hq:i.qs.length=i.l.length:=by simp[AlI.qs]
 rw[x4,← hq]
 repeat' split
 ·exact zQe _ _
 ·rw[lO];split
  ·rw[bT,zWh,PsI.rs]
   split
   ·simp
   ·simp
  ·exact yQn _
 ·rw[tW];split
  ·rw[bT,zWh];exact zQe _ _
  ·exact yQn _
 ·exact yQn _
theorem zFl {inst s:Int}:∀{os:List zG} {sh:List Int} {j:Nat} {o:zG} {k:Int},os[j]? =some o→sh[j]? =some k→xC inst s (os.take (j+1)) (sh.take (j+1))=xC inst s (os.take j) (sh.take j)++(if 0<k then[⟨o.id,inst,s,o.price,k,o.qty-k⟩]else[])
 |[],_,_,_,_,h,_=>by simp at h
 |_::_,[],_,_,_,_,h=>by simp at h
 |o::os,k::sh,0,_,_,h,h2=>by
  cases h;cases h2
  rw[yQa,yQa,ySv,ySv,ySv,ySv,xC]
  split<;>rfl
 |o::os,k::sh,j+1,o',k',h,h2=>by
  rw[yQa,yQa,xC,yQa,yQa,xC,zFl (os:=os) (sh:=sh) (j:=j) h h2]
  split<;>rfl
theorem zJt {inst s:Int}:∀(os:List zG) (sh:List Int),xC inst s (os.take sh.length) (sh.take sh.length)=xC inst s os sh
 |[],sh=>by simp
 |_::_,[]=>by simp[xC]
 |o::os,k::sh=>by
  rw[yOy,yQa,yQa,xC,xC,zJt os sh]
theorem zYw (B:List (List zG)) (a b:List gV):qD B (a++b)=qD (qD B a) b:=yUo
theorem m4 (B:List (List zG)) (id q:Int):(qC B id q).1.length=B.length:=by
 rw[qC];split
 ·rfl
 ·simp
theorem wN:∀(fs:List gV) (B:List (List zG)),(qD B fs).length=B.length
 |[],B=>rfl
 |f::fs,B=>by
  show(qD (qC B f.id f.qty).1 fs).length=_
  rw[wN fs,m4]
theorem yHv {p:Prd} (h:p.check=0):i64r p.least∧i64r p.top∧i64r p.part:=by
 have ok:=wX h
 have:=ok.q1
 have:=ok.q2
 have:=ok.q3
 have:=ok.q4
 have:=ok.q5
 have:=ok.q6
 exact⟨⟨by omega,by omega⟩,⟨by omega,by omega⟩,⟨by omega,by omega⟩⟩
theorem yJh (i:TrI) (h:tradeC.cnd i):z4y i:=by
 obtain⟨hR,hB,h0,h1,hq⟩:i.s.Rep i.p i.B∧BOk i.p i.B∧0≤i.inst∧i.inst<i.B.length∧i64r i.q:=h
 have hcl:=xR i.p
 have hbl:=hB.bl
 have hsl:=hR.bl
 have ep:=hR.ep
 obtain⟨k,hk⟩:∃k:Nat,i.inst=k:=⟨i.inst.toNat,by omega⟩
 obtain⟨L,hL⟩:=z8 (l:=i.B) (i:=k) (by omega)
 obtain⟨b,hb⟩:=z8 (l:=i.s.books) (i:=k) (by omega)
 have hbR:=hR.bk k b L hb hL
 have hbest:=zQk hbR i.sd
 have hos:atL L (zC i.sd) (bestL L (zC i.sd)).1.price=i.os:=by rw[TrI.os,zMk,hk,yPj,zQ hL]
 have hset:i.s.books.set i.inst.toNat b=i.s.books:=wO (by rw[hk];exact hb)
 have hosl:i.os.length≤250:=by
  rw[← hos];exact yRw (ySd _ _) hbR.ords.2.2
 have hsh:i.sh.length≤i.os.length:=zYy _
 obtain⟨k1,k2,k3⟩:=yHv hB.pc
 have hsb:∀(j:Nat) (n:Int),i.sh[j]? =some n→n≤1000000:=by
  intro j n hn
  cases hr:yK (i.os.map (·.qty)) i.q with
  |false=>
   have:i.sh=[]:=zSz hr
   rw[this]at hn;cases hn
  |true=>
   have:=(zOm hB.pc hr).bd j
   have e:(x4 ⟨i.p,i.os,i.q⟩).getD j 0=n:=zQ hn
   rw[e]at this
   have:=(zVo (qH hr).2.2.1 j).2
   omega
 unfold z4y zBm wD gE dU hP vO zR jM dI
 refine⟨⟨h0,by omega⟩,by omega,b,by rw[hk];exact hb,⟨i.sd,b⟩,rfl,rfl,hbR.cnt,fun _ _=> ?_⟩
 refine⟨b,rfl,rfl,by omega,b,by rw[hset,hk];exact hb,⟨b,L,i.sd,(bestL L (zC i.sd)).1.price⟩,rfl,by dsimp only;rw[hbest],rfl,hbR,fun _ _=> ?_⟩
 dsimp only
 try rw[hbest]
 rw[hset,hos]
 refine⟨b,rfl,rfl,by omega,⟨i.p,i.os,i.q⟩,by rw[ep],by rw[ep],by rw[ep],by rw[ep],by rw[ep],by rw[ep],by rw[ep],by rw[ep],by rw[ep],by rw[ep],by rw[ep],rfl,rfl,⟨by dsimp only;omega,hq,k1,k2,k3⟩,fun _ _=> ?_⟩
 have esh:x4 ⟨i.p,i.os,i.q⟩=i.sh:=rfl
 rw[esh,hset,y6,yOs]
 refine⟨(0,i.s),rfl,rfl,rfl,rfl,rfl,rfl,rfl,rfl,rfl,rfl,rfl,rfl,rfl,rfl,rfl,fun j=>j.2.Rep i.p (qD i.B (i.fs j.1))∧j.1≤i.sh.length,fun j=>i.sh.length-j.1,⟨hR,yQn _⟩,fun j hj=> ?_⟩
 obtain⟨hjR,hjl⟩:=hj
 obtain⟨j,sj⟩:=j
 dsimp only at hjR hjl ⊢
 refine zI (fun c=> ?_) (fun c=> ?_)
 ·obtain⟨n,hn⟩:=z8 (l:=i.sh) (i:=j) (by omega)
  obtain⟨o,ho⟩:=z8 (l:=i.os) (i:=j) (by omega)
  have hst:=zFl (inst:=i.inst) (s:=zC i.sd) ho hn
  have hoL:o∈L:=by
   have:=yPe ho
   rw[← hos]at this
   exact(yRa.1 this).1
  have hoq:=(hbR.ords.1 o hoL).q
  have hnb:=hsb j n hn
  refine⟨⟨by omega,by omega⟩,n,elI hn,zI (fun c2=> ?_) (fun c2=> ?_)⟩
  ·rw[yOu (show 0<n from c2)]at hst
   have hfl:(i.fs j).length≤j:=by
    have:∀(os:List zG) (sh:List Int),(xC i.inst (zC i.sd) os sh).length≤os.length:=by
     intro os
     induction os with
     |nil=>intro sh;exact yPy 0
     |cons o os ih=>
      intro sh
      cases sh with
      |nil=>exact yQn _
      |cons k sh=>
       have:=ih sh
       rw[xC]
       split
       ·simp only[yOy];omega
       ·simp only[yOy];omega
    exact yRw (this _ _) (by rw[yPl];omega)
   refine⟨⟨by omega,by omega⟩,o.id,o.side,o.price,o.qty,o.top,yFu ho,⟨sj,i.p,qD i.B (i.fs j),o.id,n⟩,rfl,rfl,rfl,⟨hjR,by dsimp only;rw[wN];omega⟩,fun s' hs'=>⟨by rw[yOs];omega,(j+1,s'),wjn (by omega),rfl,?_,⟨?_,by dsimp only;omega⟩,by dsimp only;omega,by(repeat'(first|exact trivial|exact rfl|apply And.intro))⟩⟩
   ·show List.map yL (xC i.inst (zC i.sd) (i.os.take (j+1)) (i.sh.take (j+1)))=_
    rw[hst,yPc,w64 (by omega)];rfl
   ·show s'.Rep i.p (qD i.B (xC i.inst (zC i.sd) (i.os.take (j+1)) (i.sh.take (j+1))))
    rw[hst,zYw];exact hs'
  ·rw[yOr (show ¬0<n from c2),yPp]at hst
   refine⟨(j+1,sj),wjn (by omega),rfl,?_,⟨?_,by dsimp only;omega⟩,by dsimp only;omega,by(repeat'(first|exact trivial|exact rfl|apply And.intro))⟩
   ·show List.map yL (xC i.inst (zC i.sd) (i.os.take (j+1)) (i.sh.take (j+1)))=_
    rw[hst];rfl
   ·show sj.Rep i.p (qD i.B (xC i.inst (zC i.sd) (i.os.take (j+1)) (i.sh.take (j+1))))
    rw[hst];exact hjR
 ·have hje:j=i.sh.length:=by omega
  subst hje
  have hfa:i.fs i.sh.length=xU i.p i.B i.inst (zC i.sd) i.q:=zJt _ _
  rw[hfa]at hjR ⊢
  exact⟨sj,rfl,rfl,hjR⟩
theorem z7c:tradeC.ok Tryz.prog 185:=okw mixed (gokc zDy (gokc yKz (gokc z4k (gokc eL gok0)))) 0 (fun _=>[]) (fun i=>yGp i) [0] Tryz.func185 yJh
open Go Cv Go.Proofs
structure kT where
 price:Int
 qty:Int
 implied:Bool
 fills:List gV
 deriving DecidableEq
def kE (t:kT):List D:=[.v (.int .i64 t.price),.v (.int .i64 t.qty),.v (.bool t.implied),.ro 6 (t.fills.map yL)]
def dQ (p:Prd) (B:List (List zG)) (inst:Int) (sd:Bool) (price qty:Int):Option (kT×List (List zG)):=
 let n:=yJ p B inst (zC (!sd))
 if(n.2.2 && (gY sd price n.1.price && decide (1≤n.1.qty)))=true then
  if n.2.1=true then
   let f1:=xU p B n.1.a.inst n.1.a.side (min qty n.1.qty)
   let f2:=xU p (qD B f1) n.1.b.inst n.1.b.side (min qty n.1.qty)
   some (⟨n.1.price,min qty n.1.qty,true,f1++f2⟩,qD (qD B f1) f2)
  else
   let f:=xU p B inst (zC (!sd)) (min qty n.1.qty)
   some (⟨n.1.price,min qty n.1.qty,false,f⟩,qD B f)
 else none
structure yIs where
 steps:List kT
 left:Int
 B:List (List zG)
def zDp (p:Prd) (inst:Int) (sd:Bool) (price:Int):Nat→List (List zG)→Int→yIs
 |0,B,q=>⟨[],q,B⟩
 |n+1,B,q=>if q≤0 then⟨[],q,B⟩else match dQ p B inst sd price q with
  |none=>⟨[],q,B⟩
  |some (t,B')=>let r:=zDp p inst sd price n B' (q-t.qty);⟨t::r.steps,r.left,r.B⟩
def kP (p:Prd) (B:List (List zG)) (inst:Int) (sd:Bool) (price q:Int):yIs:=zDp p inst sd price q.toNat B q
structure RunI where
 s:MSt
 p:Prd
 B:List (List zG)
 inst:Int
 sd:Bool
 price:Int
 q:Int
def RunI.r (i:RunI):yIs:=kP i.p i.B i.inst i.sd i.price i.q
def runC:Con where
 ι:=RunI
 pat:=fun i=>[.nm 0 0,zA i.inst,zA (zC i.sd),zA i.price,zA i.q]
 pre:=fun i=>[zD i.s]
 cnd:=fun i=>i.s.Rep i.p i.B∧BOk i.p i.B∧(0≤i.inst∧i.inst<i.B.length)∧1≤i.q∧i.q≤1000000
 alts:=fun i=>[{o:=MSt,res:=fun _=> .tup [.own 1,zA i.r.left],post:=fun s=>[zD s,.own 260 4 (i.r.steps.map kE)],rel:=fun s=>s.Rep i.p i.r.B}]
structure zEx where
 s:MSt
 B:List (List zG)
 steps:List kT
 q:Int
def yMw:List SAnn:=[
 {ι:=zEx,slots:=fun j=>[(0,.nm 0 0),(12,.own 1),(4,zA j.q)],rows:=fun j=>[zD j.s,.own 260 4 (j.steps.map kE)]},
 {ι:=Unit,slots:=fun _=>[],rows:=fun _=>[],un:=3}]
open Go Cv Go.Proofs
def zGr (a:zEx→Nat) (b:zEx) (c:zEx) (d:RunI):Prop:=a b<a c∧AObj.fro 1 (iE d.s.p.months)=AObj.fro 1 (iE d.s.p.months)∧AObj.fro 1 (iE d.s.p.settle)=AObj.fro 1 (iE d.s.p.settle)
def zAb (a:TrI):Prop:=a.s.Rep a.p a.B∧BOk a.p a.B∧0≤a.inst∧a.inst<(↑a.B.length:Int)∧(-9223372036854775808)≤a.q∧a.q≤9223372036854775807
def zFe (a:RunI) (b:zEx) (c:NxI):Prop:=∃(d:MSt),a.r.left=b.q∧zD d=zD c.s∧List.map kE a.r.steps=List.map kE b.steps∧d.Rep a.p a.r.B
def nJ (a:TrI):=(List.map yL (vO a))
def zVi (a:RunI):Prop:=∃(b:zEx),b.q=a.q∧sb b.s.p.code=sb a.s.p.code∧b.s.p.tick=a.s.p.tick∧b.s.p.low=a.s.p.low∧b.s.p.high=a.s.p.high∧b.s.p.wide=a.s.p.wide∧b.s.p.rule=a.s.p.rule∧b.s.p.top=a.s.p.top∧b.s.p.least=a.s.p.least∧b.s.p.part=a.s.p.part∧AObj.objs 184 Book 6 zO b.s.books none=AObj.objs 184 Book 6 zO a.s.books none∧yM b.s.wh=yM a.s.wh∧AObj.fro 1 (iE b.s.p.months)=AObj.fro 1 (iE a.s.p.months)∧AObj.fro 1 (iE b.s.p.settle)=AObj.fro 1 (iE a.s.p.settle)∧List.map kE b.steps=[]∧∃(c:zEx→Prop),∃(d:zEx→Nat),c b∧∀(e:zEx),c e→cnd (decide (e.q>0)) (∃(f:Bool),zC f=zC a.sd∧True∧∀(g:Unit),True→∃(h:NxI),h.inst=a.inst∧zC h.sd=zC !f∧zD h.s=zD e.s∧(h.s.Rep h.p h.B∧BOk h.p h.B∧0≤h.inst∧h.inst<(↑h.B.length:Int))∧∀(j:Unit),True→cnd (!(zV h).snd.snd) (zFe a e h) (∃(k:GoI),zC k.s=zC a.sd∧k.p=a.price∧k.x=(zV h).fst.price∧True∧∀(l:Unit),True→cnd (!gY k.s k.p k.x) (zFe a e h) (cnd (zV h).snd.fst (∃(m:TrI),m.inst=(zV h).fst.a.inst∧zC m.sd=(zV h).fst.a.side∧m.q=min e.q (zV h).fst.qty∧zD m.s=zD h.s∧(zAb m)∧∀(n:MSt),n.Rep m.p (hP m)→True∧(nJ m).length*(48:Nat)≤(140737488355328:Nat)∧∃(p:TrI),p.inst=(zV h).fst.b.inst∧zC p.sd=(zV h).fst.b.side∧p.q=min e.q (zV h).fst.qty∧zD p.s=zD n∧(zAb p)∧∀(q:MSt),q.Rep p.p (hP p)→True∧((nJ m).length+(nJ p).length)*(48:Nat)≤(140737488355328:Nat)∧((List.map kE e.steps).length+1)*(48:Nat)≤(140737488355328:Nat)∧∃(r:zEx),r.q=IntKind.i64.wrap (e.q-min e.q (zV h).fst.qty)∧zD r.s=zD q∧List.map kE r.steps=List.map kE e.steps++[[dI ((zV h).fst.price),dI (min e.q (zV h).fst.qty),D.v (.bool (zV h).snd.fst),D.ro 6 (List.map yL (vO m)++List.map yL (vO p))]]∧c r∧zGr d r e a) (∃(m:Bool),zC m=zC a.sd∧True∧∀(n:Unit),True→min e.q (zV h).fst.qty=min e.q (zV h).fst.qty∧∃(p:TrI),p.inst=a.inst∧zC p.sd=zC !m∧p.q=min e.q (zV h).fst.qty∧zD p.s=zD h.s∧(zAb p)∧∀(q:MSt),q.Rep p.p (hP p)→((List.map kE e.steps).length+1)*(48:Nat)≤(140737488355328:Nat)∧∃(r:zEx),r.q=IntKind.i64.wrap (e.q-min e.q (zV h).fst.qty)∧zD r.s=zD q∧List.map kE r.steps=List.map kE e.steps++[[dI ((zV h).fst.price),dI (min e.q (zV h).fst.qty),D.v (.bool (zV h).snd.fst),D.ro 6 (nJ p)]]∧c r∧zGr d r e a)))) (∃(f:MSt),a.r.left=e.q∧zD f=zD e.s∧List.map kE a.r.steps=List.map kE e.steps∧f.Rep a.p a.r.B)
def dY (a:RunI):Prop:=∃(b:MSt),a.r.left=a.q∧sb b.p.code=sb a.s.p.code∧b.p.tick=a.s.p.tick∧b.p.low=a.s.p.low∧b.p.high=a.s.p.high∧b.p.wide=a.s.p.wide∧b.p.rule=a.s.p.rule∧b.p.top=a.s.p.top∧b.p.least=a.s.p.least∧b.p.part=a.s.p.part∧AObj.objs 184 Book 6 zO b.books none=AObj.objs 184 Book 6 zO a.s.books none∧yM b.wh=yM a.s.wh∧AObj.fro 1 (iE b.p.months)=AObj.fro 1 (iE a.s.p.months)∧AObj.fro 1 (iE b.p.settle)=AObj.fro 1 (iE a.s.p.settle)∧List.map kE a.r.steps=[]∧b.Rep a.p a.r.B
def yKq (i:RunI):Prop:=
 cnd (decide (i.inst≥0)) (cnd (decide (i.inst<(↑i.s.books.length:Int))) (cnd (zC i.sd==1) (cnd (decide (i.q≥1)) (cnd (!decide (i.q≤1000000)) (dY i) (zVi i)) (dY i)) (cnd (zC i.sd==2) (cnd (decide (i.q≥1)) (cnd (!decide (i.q≤1000000)) (dY i) (zVi i)) (dY i)) (dY i))) (dY i)) (dY i)
open Go Cv Go.Proofs
structure QOk (T:List Top) (q:Quote):Prop where
 a:0≤q.a.inst∧q.a.inst<T.length
 b:0≤q.b.inst∧q.b.inst<T.length
 sa:q.a.side=1∨q.a.side=2
 sb:q.b.side=1∨q.b.side=2
 ne:q.a.inst≠q.b.inst
 ha:(T.getD q.a.inst.toNat top0).has q.a.side=true
 hb:(T.getD q.b.inst.toNat top0).has q.b.side=true
 qty:q.qty=min ((T.getD q.a.inst.toNat top0).qty q.a.side) ((T.getD q.b.inst.toNat top0).qty q.b.side)
theorem zTd {T:List Top} {a b:Leg} {less:Bool} {q:Quote} (h:q∈mkq T a b less) (h1:0≤a.inst∧a.inst<T.length) (h2:0≤b.inst∧b.inst<T.length) (h3:a.side=1∨a.side=2) (h4:b.side=1∨b.side=2) (hne:a.inst≠b.inst):QOk T q∧q.a=a∧q.b=b:=by
 cases less
 all_goals
  simp only[mkq,yPi,↓reduceIte]at h
  split at h
  ·rename_i hc
   simp only[yPh]at hc
   rw[yQr]at h
   subst h
   exact⟨⟨h1,h2,h3,h4,hne,hc.1.1,hc.1.2,rfl⟩,rfl,rfl⟩
  ·cases h
theorem yFs:∀n≤6,∀k<n+n*(n-1) / 2,n≤k→(qT n k n 0).1≠(qT n k n 0).2.1:=by decide
theorem zYj {p:Prd} (hc:p.check=0) {k:Nat} (hk:k<p.count) (hs:(p.legs k).2.2=true):(p.legs k).1≠(p.legs k).2.1:=by
 have m6:=(wX hc).m6
 have hk':=hk
 rw[Prd.count,yOu hc]at hk'
 by_cases h:k<p.months.length
 ·rw[Prd.legs,yOr (by omega),yOu (by omega)]at hs
  cases hs
 ·rw[Prd.legs,yOr (by omega),yOr (by omega)]
  exact yFs p.months.length m6 k hk' (by omega)
theorem z0n:∀n≤6,∀a<n,∀b<n,a<b→(yY n a:Int)+b-a-1≥n:=by decide
theorem zKe {p:Prd} (hc:p.check=0) {a b:Nat} (hab:a<b) (hb:b<p.months.length):(p.months.length:Int)≤(p.spread a b).1:=by
 have m6:=(wX hc).m6
 have:=z0n p.months.length m6 a (by omega) b hb hab
 rw[Prd.spread,yOr (by omega)]
 simpa using this
theorem yBx {p:Prd} (hc:p.check=0) {T:List Top} (hT:T.length=p.count) {inst:Int} {s:Int} (hs:s=1∨s=2) {q:Quote} (h:q∈x5 ⟨p,T,inst⟩ s):QOk T q∧0≤inst∧inst<p.count∧
 (((p.legs inst).2.2=true∧q.a=⟨(p.legs inst).1,s⟩∧q.b=⟨(p.legs inst).2.1,3-s⟩)∨(inst<p.months.length∧q.a.inst≠inst∧(p.months.length:Int)≤q.a.inst)):=by
 rw[x5]at h
 dsimp only at h
 split at h
 ·cases h
 ·rename_i hn
  have h0:0≤inst∧inst<p.count:=by omega
  obtain⟨k,rfl⟩:∃k:Nat,inst=k:=⟨inst.toNat,by omega⟩
  have hk:k<p.count:=by omega
  have hge:=zFs hc
  split at h
  ·rename_i hl
   obtain⟨q',hq',rfl⟩:=yQk.1 h
   have hle:=gO hc hk
   rcases hle with⟨_,l1,l2,l3,l4⟩|⟨e,_⟩
   ·obtain⟨ok,e1,e2⟩:=zTd hq' (by dsimp only;omega) (by dsimp only;omega) (by dsimp only;omega) hs (fun e=>zYj hc hk hl e.symm)
    refine⟨⟨by dsimp only[gX];omega,by dsimp only[gX];omega,hs,by dsimp only[gX];omega,zYj hc hk hl,?_,?_,?_⟩,h0.1,h0.2,.inl ⟨hl,rfl,rfl⟩⟩
    ·have:=ok.hb;rw[e2]at this;exact this
    ·have:=ok.ha;rw[e1]at this;exact this
    ·have:=ok.qty;rw[e1,e2]at this;dsimp only[gX];rw[this];exact Int.min_comm _ _
   ·rw[e]at hl;cases hl
  ·rename_i hl
   have hm:k<p.months.length:=by
    rcases gO hc hk with⟨e,_⟩|⟨_,e⟩
    ·exact absurd e hl
    ·exact e
   rcases yPv.1 h with h|h
   ·obtain⟨j,hj,h⟩:=yRb.1 h
    have hj:=yRx.1 hj
    rw[yPj]at hj
    have s1:=fU hc (a:=k) (b:=k+1+j) (by omega) (by omega)
    have s2:=zKe hc (a:=k) (b:=k+1+j) (by omega) (by omega)
    have ec:((k:Int)+1+j)=((k+1+j:Nat):Int):=by omega
    rw[ec]at h
    obtain⟨ok,e1,e2⟩:=zTd h (by dsimp only;omega) (by dsimp only;omega) hs hs (by dsimp only;omega)
    exact⟨ok,h0.1,h0.2,.inr ⟨by omega,by rw[e1];dsimp only;omega,by rw[e1];exact s2⟩⟩
   ·obtain⟨j,hj,h⟩:=yRb.1 h
    have hj:=yRx.1 hj
    rw[yPj]at hj
    have s1:=fU hc (a:=j) (b:=k) (by omega) (by omega)
    have s2:=zKe hc (a:=j) (b:=k) (by omega) (by omega)
    obtain⟨ok,e1,e2⟩:=zTd h (by dsimp only;omega) (by dsimp only;omega) (by dsimp only;omega) hs (by dsimp only;omega)
    exact⟨ok,h0.1,h0.2,.inr ⟨by omega,by rw[e1];dsimp only;omega,by rw[e1];exact s2⟩⟩
theorem zJi {s:Int}:∀(r:List Quote) (q:Quote),r.foldl (fun b q=>if btr s q.price b.price then q else b) q∈q::r
 |[],q=>yOx
 |x::r,q=>by
  rw[yTb]
  have:=zJi (s:=s) r (if btr s x.price q.price then x else q)
  rcases yPk.1 this with e|h
  ·rw[e];split
   ·exact yOz _ yOx
   ·exact yOx
  ·exact yOz _ (yOz _ h)
theorem zLe {l:List Quote} {s:Int} (h:(zT l s).2=true):(zT l s).1∈l:=by
 cases l with
 |nil=>cases h
 |cons q r=>exact zJi r q
def z9c (B:List (List zG)):Prop:=∀(k:Nat) (L:List zG),B[k]?=some L→(∀o∈L,zEl o)∧(L.map (·.id)).Nodup∧L.length≤250
theorem MSt.Rep.ords {s:MSt} {p:Prd} {B:List (List zG)} (h:s.Rep p B):z9c B:=by
 intro k L hL
 obtain⟨b,hb⟩:=z8 (l:=s.books) (i:=k) (by rw[h.bl];exact(yOt.1 hL).1)
 exact(h.bk k b L hb hL).ords
theorem yEd:∀{l:List zG} {v:Lv},(∀o∈l,zEl o)→v∈grp l→1≤v.qty∧v.qty≤1000000*l.length
 |[],v,_,h=>by cases h
 |o::l,v,ho,h=>by
  have h0:=(ho o yOx).q
  have ih:∀v∈grp l,1≤v.qty∧v.qty≤1000000*l.length:=fun v hv=>yEd (fun x hx=>ho x (yOz _ hx)) hv
  rw[grp]at h
  rw[yOy]
  split at h
  ·rw[yQr]at h
   subst h;dsimp only;omega
  ·rename_i w ws e
   rw[e]at ih
   have hw:=ih w yOx
   split at h
   ·rcases yPk.1 h with rfl|h
    ·dsimp only;omega
    ·have:=ih v (yOz _ h);omega
   ·rcases yPk.1 h with rfl|h
    ·dsimp only;omega
    ·have:=ih v h;omega
theorem zSq {L:List zG} {s:Int} (h:∀o∈L,zEl o) (hl:L.length≤250) (hb:(bestL L s).2=true):1≤(bestL L s).1.qty∧(bestL L s).1.qty≤250000000:=by
 rw[bestL]at hb ⊢
 cases hl2:g7 L s with
 |nil=>rw[hl2]at hb;cases hb
 |cons v vs=>
  dsimp only
  have hm:v∈grp (L.filter fun o=>decide (o.side=s)):=by rw[← g7,hl2];exact yOx
  have:=yEd (fun o ho=>h o (yRa.1 ho).1) hm
  have:=ySd (fun o:zG=>decide (o.side=s)) L
  omega
theorem z4i {B:List (List zG)} {k:Nat} {L:List zG} (hL:B[k]? =some L):(B.map kB).getD k top0=kB L:=zQ (by rw[yQg,hL];rfl)
theorem zEg (L:List zG) {s:Int} (hs:s=1∨s=2):(kB L).has s=(bestL L s).2∧(kB L).qty s=(bestL L s).1.qty∧(kB L).price s=(bestL L s).1.price:=by
 obtain⟨e1,e2,e3,e4,e5,e6⟩:=zMm L
 rcases hs with rfl|rfl
 ·exact⟨e3,e2,e1⟩
 ·exact⟨e6,e5,e4⟩
theorem zWp {p:Prd} {B:List (List zG)} (h:BOk p B) (ho:z9c B) {inst:Int} (hi:0≤inst∧inst<B.length) {s:Int} (hs:s=1∨s=2) (hn:(yJ p B inst s).2.2=true):
 (1≤(yJ p B inst s).1.qty∧(yJ p B inst s).1.qty≤250000000)∧((yJ p B inst s).2.1=true→(yJ p B inst s).1∈x5 ⟨p,B.map kB,inst⟩ s∧QOk (B.map kB) (yJ p B inst s).1)∧
 ((yJ p B inst s).2.1=false→(bestL (B.getD inst.toNat []) s).2=true∧(yJ p B inst s).1.price=(bestL (B.getD inst.toNat []) s).1.price∧(yJ p B inst s).1.qty=(bestL (B.getD inst.toNat []) s).1.qty):=by
 obtain⟨k,rfl⟩:∃k:Nat,inst=k:=⟨inst.toNat,by omega⟩
 obtain⟨L,hL⟩:=z8 (l:=B) (i:=k) (by omega)
 have hLo:=ho k L hL
 rw[yJ]at hn ⊢
 rw[yPj,zQ hL]at hn ⊢
 split
 ·rename_i c
  simp only[yPh]at c
  exact⟨zSq hLo.1 hLo.2.2 c.1,⟨fun e=>(by cases e),fun _=>⟨c.1,rfl,rfl⟩⟩⟩
 ·rename_i c
  rw[yOr c]at hn
  dsimp only at hn ⊢
  have hm:=zLe hn
  have ha:(zT (xK ⟨p,B.map kB,k⟩ s) s).1∈x5 ⟨p,B.map kB,k⟩ s:=(yRa.1 hm).1
  obtain⟨ok,_⟩:=yBx h.pc (by rw[yOs];exact h.bl) hs ha
  refine⟨?_,fun _=>⟨ha,ok⟩,fun e=>by rw[hn]at e;cases e⟩
  generalize (zT (xK ⟨p,B.map kB,k⟩ s) s).1=q at ok
  have a:=ok.a
  have b:=ok.b
  rw[yOs]at a b
  obtain⟨La,hLa⟩:=z8 (l:=B) (i:=q.a.inst.toNat) (by omega)
  obtain⟨Lb,hLb⟩:=z8 (l:=B) (i:=q.b.inst.toNat) (by omega)
  have e1:=ok.ha
  have e2:=ok.hb
  have e3:=ok.qty
  rw[z4i hLa]at e1 e3
  rw[z4i hLb]at e2 e3
  rw[(zEg La ok.sa).1]at e1
  rw[(zEg Lb ok.sb).1]at e2
  rw[(zEg La ok.sa).2.1,(zEg Lb ok.sb).2.1]at e3
  have:=zSq (ho _ _ hLa).1 (ho _ _ hLa).2.2 e1
  have:=zSq (ho _ _ hLb).1 (ho _ _ hLb).2.2 e2
  omega
theorem z3k {L:List zG} {id q:Int} {o:zG} (h:o∈(xF L id q).1):∃o'∈L,o.price=o'.price∧o.side=o'.side∧o.id=o'.id:=by
 rw[xF]at h
 split at h
 ·exact⟨o,h,rfl,rfl,rfl⟩
 split at h
 ·exact⟨o,h,rfl,rfl,rfl⟩
 obtain⟨o',ho',e⟩:=yTm.1 h
 refine⟨o',ho',?_⟩
 split at e
 ·split at e
  ·cases e
  ·cases e;exact⟨rfl,rfl,rfl⟩
 ·cases e;exact⟨rfl,rfl,rfl⟩
theorem BOk.take {p:Prd} {B:List (List zG)} (h:BOk p B) (id q:Int):BOk p (qC B id q).1:=by
 refine⟨h.pc,h.ps,by rw[m4];exact h.bl,fun k L hL o ho=> ?_⟩
 rw[qC]at hL
 split at hL
 ·exact h.pr k L hL o ho
 ·rename_i j hj
  dsimp only at hL
  rcases g8 hL with⟨rfl,rfl⟩|⟨_,hL⟩
  ·obtain⟨o',ho',e,_⟩:=z3k ho
   obtain⟨L',hL',_⟩:=vL hj
   rw[zQ hL']at ho'
   rw[e];exact h.pr k L' hL' o' ho'
  ·exact h.pr k L hL o ho
theorem BOk.takes {p:Prd}:∀{fs:List gV} {B:List (List zG)},BOk p B→BOk p (qD B fs)
 |[],B,h=>h
 |f::fs,B,h=>BOk.takes (fs:=fs) (h.take f.id f.qty)
theorem zQb (inst s:Int):∀(os:List zG) (sh:List Int),(xC inst s os sh).length≤os.length
 |[],sh=>yPy 0
 |o::os,[]=>yQn _
 |o::os,k::sh=>by
  have:=zQb inst s os sh
  rw[xC]
  split
  ·simp only[yOy];omega
  ·simp only[yOy];omega
theorem bF {p:Prd} {B:List (List zG)} (ho:z9c B) (inst s q:Int):(xU p B inst s q).length≤250:=by
 refine yRw (zQb _ _ _ _) (yRw (ySd _ _) ?_)
 by_cases h:inst.toNat<B.length
 ·obtain⟨L,hL⟩:=z8 h
  rw[zQ hL];exact(ho _ _ hL).2.2
 ·rw[yPa,yPt (by omega)];exact yQn _
theorem zGp {p:Prd} {B:List (List zG)} {inst:Int} {sd:Bool} {price q:Int} {t:kT} {B':List (List zG)} (hq:1≤q) (h:dQ p B inst sd price q=some (t,B')):1≤t.qty∧t.qty≤q:=by
 rw[dQ]at h
 dsimp only at h
 split at h
 ·rename_i c
  simp only[yPh,yRf]at c
  split at h
  ·cases h;dsimp only;omega
  ·cases h;dsimp only;omega
 ·cases h
theorem zRf {p:Prd} {inst:Int} {sd:Bool} {price:Int}:∀(m n:Nat) (B:List (List zG)) (q:Int),q.toNat≤m→q.toNat≤n→zDp p inst sd price m B q=zDp p inst sd price n B q
 |0,0,B,q,_,_=>rfl
 |0,n+1,B,q,h,_=>by rw[zDp,zDp,yOu (by omega)]
 |m+1,0,B,q,_,h=>by rw[zDp,zDp,yOu (by omega)]
 |m+1,n+1,B,q,h1,h2=>by
  rw[zDp,zDp]
  split
  ·rfl
  ·rename_i hq
   cases hs:dQ p B inst sd price q with
   |none=>rfl
   |some x=>
    obtain⟨t,B'⟩:=x
    have:=zGp (by omega) hs
    dsimp only
    rw[zRf m n B' (q-t.qty) (by omega) (by omega)]
theorem nT {p:Prd} {B:List (List zG)} {inst:Int} {sd:Bool} {price q:Int} (h:q≤0∨dQ p B inst sd price q=none):kP p B inst sd price q=⟨[],q,B⟩:=by
 rw[kP]
 cases hn:q.toNat with
 |zero=>rfl
 |succ n=>
  rw[zDp]
  rcases h with h|h
  ·rw[yOu h]
  ·rw[yOr (by omega),h]
theorem zGw {p:Prd} {B:List (List zG)} {inst:Int} {sd:Bool} {price q:Int} {t:kT} {B':List (List zG)} (hq:1≤q) (h:dQ p B inst sd price q=some (t,B')):
 kP p B inst sd price q=⟨t::(kP p B' inst sd price (q-t.qty)).steps,(kP p B' inst sd price (q-t.qty)).left,(kP p B' inst sd price (q-t.qty)).B⟩:=by
 have ht:=zGp hq h
 rw[kP]
 cases hn:q.toNat with
 |zero=>omega
 |succ n=>
  rw[zDp,yOr (by omega),h]
  dsimp only
  rw[zRf n (q-t.qty).toNat B' (q-t.qty) (by omega) (yPy _)]
  rfl
open Go Cv Go.Proofs
theorem vX {s:Int} (h:s=1∨s=2):zC (decide (s=2))=s:=by
 rcases h with rfl|rfl<;>rfl
theorem yNz (i:RunI) (h:runC.cnd i):yKq i:=by
 obtain⟨hR,hB,⟨h0,h1⟩,hq1,hq2⟩:i.s.Rep i.p i.B∧BOk i.p i.B∧(0≤i.inst∧i.inst<i.B.length)∧1≤i.q∧i.q≤1000000:=h
 have hbl:=hR.bl
 have hcl:=xR i.p
 have hbB:=hB.bl
 unfold yKq dY zVi hP nJ vO zFe zAb zGr zV dI
 refine(fun hT=>zI (fun c=>zI (fun c2=>Cv.cnd.mk (fun _=>zI (fun _=>Cv.cnd.mk (fun e=>absurd hq2 (by simpa using e)) (fun _=>hT)) (fun e=>absurd hq1 e)) (fun e1=>Cv.cnd.mk (fun _=>zI (fun _=>Cv.cnd.mk (fun e=>absurd hq2 (by simpa using e)) (fun _=>hT)) (fun e=>absurd hq1 e)) (fun e2=>by
  rcases lP i.sd with e|e
  ·rw[e]at e1;cases e1
  ·rw[e]at e2;cases e2))) (fun c2=>absurd (by omega) c2)) (fun c=>absurd h0 c)) ?_
 refine⟨⟨i.s,i.B,[],i.q⟩,rfl,rfl,rfl,rfl,rfl,rfl,rfl,rfl,rfl,rfl,rfl,rfl,rfl,rfl,rfl,fun j=>j.s.Rep i.p j.B∧BOk i.p j.B∧j.B.length=i.B.length∧(0≤j.q∧j.q≤i.q)∧(j.steps.length:Int)≤i.q-j.q∧i.r=⟨j.steps++(kP i.p j.B i.inst i.sd i.price j.q).steps,(kP i.p j.B i.inst i.sd i.price j.q).left,(kP i.p j.B i.inst i.sd i.price j.q).B⟩,fun j=>j.q.toNat,⟨hR,hB,rfl,⟨by dsimp only;omega,yTl _⟩,by dsimp only;simp,rfl⟩,?_⟩
 rintro⟨s,B,st,q⟩ ⟨r1,r2,r3,⟨r4,r4'⟩,r5,r6⟩
 dsimp only at r1 r2 r3 r4 r4' r5 r6 ⊢
 have hno (hn:q≤0∨dQ i.p B i.inst i.sd i.price q=none):∃(o:MSt),i.r.left=q∧AObj.adt MSt (5:Nat) y7 o=AObj.adt MSt (5:Nat) y7 s∧List.map kE i.r.steps=List.map kE st∧o.Rep i.p i.r.B:=by
  rw[nT hn,yPp]at r6
  rw[r6];exact⟨s,rfl,rfl,rfl,r1⟩
 refine zI (fun c=> ?_) (fun c=>hno (.inl (by omega)))
 have c:0<q:=c
 refine⟨i.sd,rfl,trivial,fun _ _=>⟨⟨s,i.p,B,i.inst,!i.sd⟩,rfl,rfl,rfl,⟨r1,r2,h0,by dsimp only;omega⟩,fun _ _=> ?_⟩⟩
 dsimp only
 have hni:=zWp r2 r1.ords (inst:=i.inst) ⟨h0,by omega⟩ (lP (!i.sd))
 have hsb:dQ i.p B i.inst i.sd i.price q=(if((yJ i.p B i.inst (zC (!i.sd))).2.2 && (gY i.sd i.price (yJ i.p B i.inst (zC (!i.sd))).1.price && decide (1≤(yJ i.p B i.inst (zC (!i.sd))).1.qty)))=true then
  if(yJ i.p B i.inst (zC (!i.sd))).2.1=true then
   some (⟨(yJ i.p B i.inst (zC (!i.sd))).1.price,min q (yJ i.p B i.inst (zC (!i.sd))).1.qty,true,xU i.p B (yJ i.p B i.inst (zC (!i.sd))).1.a.inst (yJ i.p B i.inst (zC (!i.sd))).1.a.side (min q (yJ i.p B i.inst (zC (!i.sd))).1.qty)++xU i.p (qD B (xU i.p B (yJ i.p B i.inst (zC (!i.sd))).1.a.inst (yJ i.p B i.inst (zC (!i.sd))).1.a.side (min q (yJ i.p B i.inst (zC (!i.sd))).1.qty))) (yJ i.p B i.inst (zC (!i.sd))).1.b.inst (yJ i.p B i.inst (zC (!i.sd))).1.b.side (min q (yJ i.p B i.inst (zC (!i.sd))).1.qty)⟩,qD (qD B (xU i.p B (yJ i.p B i.inst (zC (!i.sd))).1.a.inst (yJ i.p B i.inst (zC (!i.sd))).1.a.side (min q (yJ i.p B i.inst (zC (!i.sd))).1.qty))) (xU i.p (qD B (xU i.p B (yJ i.p B i.inst (zC (!i.sd))).1.a.inst (yJ i.p B i.inst (zC (!i.sd))).1.a.side (min q (yJ i.p B i.inst (zC (!i.sd))).1.qty))) (yJ i.p B i.inst (zC (!i.sd))).1.b.inst (yJ i.p B i.inst (zC (!i.sd))).1.b.side (min q (yJ i.p B i.inst (zC (!i.sd))).1.qty)))
  else some (⟨(yJ i.p B i.inst (zC (!i.sd))).1.price,min q (yJ i.p B i.inst (zC (!i.sd))).1.qty,false,xU i.p B i.inst (zC (!i.sd)) (min q (yJ i.p B i.inst (zC (!i.sd))).1.qty)⟩,qD B (xU i.p B i.inst (zC (!i.sd)) (min q (yJ i.p B i.inst (zC (!i.sd))).1.qty)))else none):=rfl
 generalize yJ i.p B i.inst (zC (!i.sd))=nb at hni hsb ⊢
 refine Cv.cnd.mk (fun n1=> ?_) (fun n1=>⟨⟨i.sd,i.price,nb.1.price⟩,rfl,rfl,rfl,trivial,fun _ _=>Cv.cnd.mk (fun n2=> ?_) (fun n2=> ?_)⟩)
 ·have n1:nb.2.2=false:=by simpa using n1
  rw[n1,yOr (by simp)]at hsb
  exact hno (.inr hsb)
 ·have n2:gY i.sd i.price nb.1.price=false:=by simpa using n2
  rw[n2,yOr (by simp)]at hsb
  exact hno (.inr hsb)
 have n1:nb.2.2=true:=by simpa using n1
 have n2:gY i.sd i.price nb.1.price=true:=by simpa using n2
 obtain⟨⟨b1,b2⟩,hi,hr⟩:=hni n1
 rw[n1,n2,yPn b1,yOu (by rfl)]at hsb
 have hk:i64r (min q nb.1.qty):=by constructor<;>omega
 have hsl:(st.length+1)*48≤140737488355328:=by omega
 have beh:∀(t:kT) (B':List (List zG)) (s':MSt),dQ i.p B i.inst i.sd i.price q=some (t,B')→s'.Rep i.p B'→BOk i.p B'→B'.length=B.length→
  (s'.Rep i.p B'∧BOk i.p B'∧B'.length=i.B.length∧(0≤q-t.qty∧q-t.qty≤i.q)∧((st++[t]).length:Int)≤i.q-(q-t.qty)∧i.r=⟨(st++[t])++(kP i.p B' i.inst i.sd i.price (q-t.qty)).steps,(kP i.p B' i.inst i.sd i.price (q-t.qty)).left,(kP i.p B' i.inst i.sd i.price (q-t.qty)).B⟩)∧(q-t.qty).toNat<q.toNat:=by
  intro t B' s' h1 h2 h3 h4
  have ht:=zGp (by omega) h1
  refine⟨⟨h2,h3,by omega,⟨by omega,by omega⟩,by rw[yOw,yQz];omega,?_⟩,by omega⟩
  rw[zGw (by omega) h1]at r6
  rw[r6,yPb];rfl
 refine Cv.cnd.mk (fun n3=> ?_) (fun n3=> ?_)
 ·obtain⟨_,ok⟩:=hi n3
  rw[n3,yOu rfl]at hsb
  have oka:=ok.a
  have okb:=ok.b
  rw[yOs]at oka okb
  have ea:=vX ok.sa
  have eb:=vX ok.sb
  refine⟨⟨s,i.p,B,nb.1.a.inst,decide (nb.1.a.side=2),min q nb.1.qty⟩,rfl,ea,rfl,rfl,⟨r1,r2,oka.1,oka.2,hk⟩,fun s1 hs1=> ?_⟩
  dsimp only at hs1 ⊢
  rw[ea]at hs1 ⊢
  have l1:=bF (p:=i.p) r1.ords nb.1.a.inst nb.1.a.side (min q nb.1.qty)
  have hB1:=r2.takes (fs:=xU i.p B nb.1.a.inst nb.1.a.side (min q nb.1.qty))
  have l2:=bF (p:=i.p) hs1.ords nb.1.b.inst nb.1.b.side (min q nb.1.qty)
  refine⟨trivial,by rw[yOs];omega,⟨s1,i.p,qD B (xU i.p B nb.1.a.inst nb.1.a.side (min q nb.1.qty)),nb.1.b.inst,decide (nb.1.b.side=2),min q nb.1.qty⟩,rfl,eb,rfl,rfl,⟨hs1,hB1,okb.1,by dsimp only;rw[wN];exact okb.2,hk⟩,fun s2 hs2=> ?_⟩
  dsimp only at hs2 ⊢
  rw[eb]at hs2 ⊢
  obtain⟨g1,g2⟩:=beh _ _ s2 hsb hs2 hB1.takes (by rw[wN,wN])
  refine⟨trivial,by rw[yOs,yOs];omega,by rw[yOs];exact hsl,⟨s2,_,st++[_],_⟩,?_,rfl,?_,g1,g2,by(repeat'(first|exact trivial|exact rfl|apply And.intro))⟩
  ·dsimp only;rw[w64 (by omega)]
  ·dsimp only
   rw[yPc,n3]
   simp[kE]
 ·rw[n3,yOr (by decide)]at hsb
  refine⟨i.sd,rfl,trivial,fun _ _=>⟨rfl,⟨s,i.p,B,i.inst,!i.sd,min q nb.1.qty⟩,rfl,rfl,rfl,rfl,⟨r1,r2,h0,by dsimp only;omega,hk⟩,fun s1 hs1=> ?_⟩⟩
  dsimp only at hs1 ⊢
  obtain⟨g1,g2⟩:=beh _ _ s1 hsb hs1 r2.takes (by rw[wN])
  refine⟨by rw[yOs];exact hsl,⟨s1,_,st++[_],_⟩,?_,rfl,?_,g1,g2,by(repeat'(first|exact trivial|exact rfl|apply And.intro))⟩
  ·dsimp only;rw[w64 (by omega)]
  ·dsimp only
   rw[yPc,n3]
   simp[kE]
theorem zUe:runC.ok Tryz.prog 151:=okw mixed (gokc z8w (gokc zKk (gokc zPe (gokc z7c gok0)))) 2 (fun _=>[]) (fun _=>yMw) [0] Tryz.func151 yNz
open Go Cv Go.Proofs
open Go Cv Go.Proofs
open Go Cv Go.Proofs
theorem z7r {L:List zG} {s id p q:Int} {o:zG} (h:o∈zNc L s id p q):o.price=p∨∃o'∈L,o.price=o'.price:=by
 have key:∀X:List zG,(o∈X.takeWhile (before s p)++⟨id,s,p,q,vI L s p⟩::X.dropWhile (before s p))→o.price=p∨o∈X:=by
  intro X hX
  rcases yPv.1 hX with hX|hX
  ·exact .inr (List.takeWhile_sublist _|>.subset hX)
  ·rcases yPk.1 hX with rfl|hX
   ·exact .inl rfl
   ·exact .inr (List.dropWhile_sublist _|>.subset hX)
 rw[zNc]at h
 split at h
 ·rcases key _ h with h|h
  ·exact .inl h
  ·obtain⟨o',ho',_,_,e,_⟩:=zVt h
   exact .inr ⟨o',ho',e⟩
 ·rcases key _ h with h|h
  ·exact .inl h
  ·exact .inr ⟨o,h,rfl⟩
theorem BOk.add {p:Prd} {B:List (List zG)} (h:BOk p B) (inst id s price q:Int):BOk p (zVd p B inst id s price q).1:=by
 rw[zVd]
 split
 ·exact h
 split
 ·exact h
 split
 ·exact h
 split
 ·exact h
 rename_i c1 _ _ c4
 have c4:p.price inst price=0:=by simpa using c4
 refine⟨h.pc,h.ps,by simpa using h.bl,fun k L hL o ho=> ?_⟩
 dsimp only at hL
 rcases g8 hL with⟨rfl,rfl⟩|⟨_,hL⟩
 ·obtain⟨L',hL'⟩:=z8 (l:=B) (i:=inst.toNat) (by omega)
  rw[zQ hL',zDr]at ho
  have e:((inst.toNat:Nat):Int)=inst:=by omega
  repeat' split at ho
  ·exact h.pr _ L' hL' o ho
  ·exact h.pr _ L' hL' o ho
  ·exact h.pr _ L' hL' o ho
  ·rcases z7r ho with h1|⟨o',ho',h1⟩
   ·rw[h1,e];exact c4
   ·rw[h1];exact h.pr _ L' hL' o' ho'
 ·exact h.pr k L hL o ho
theorem BOk.new {p:Prd} (hc:p.check=0) (hp:p.small):BOk p (List.replicate p.count []):=by
 refine⟨hc,hp,by simp,fun k L hL o ho=> ?_⟩
 rw[yUc (yPe hL)]at ho
 cases ho
theorem MSt.Rep.fit {s:MSt} {p:Prd} {B:List (List zG)} (h:s.Rep p B) (hb:BOk p B):s.fit:=by
 have:=xR p
 refine⟨by rw[h.ep];exact hb.ps,by rw[h.bl,hb.bl];omega,fun b hm=> ?_⟩
 obtain⟨k,hk⟩:=yRg.1 hm
 have hlt:=(yOt.1 hk).1
 rw[h.bl]at hlt
 obtain⟨L,hL⟩:=z8 hlt
 exact(h.bk k b L hk hL).fit
open Go Cv Go.Proofs
def zIo (r:Nat):Bool:=decide (32≤r) && decide (r≠127) && decide (r≠65533)
def gL (s:List UInt8):Bool:=(wR s).all zIo && decide (1≤(wR s).length) && decide ((wR s).length≤12)
def labC:Con:=con1 (List UInt8) (fun s=>[sV s]) (fun _=>[]) (fun s=>s.length≤140737488355328) (fun s=>yB (gL s)) (fun _=>[])
def yNf (s:List UInt8):List SAnn:=[{ι:=Nat×Nat,slots:=fun x=>[(3,zA x.2),(7,.nm 0 0)],rows:=fun x=>[.iter (sb s) x.1]}]
def gD (n:Int):Bool:=decide (-2000000≤n) && decide (n≤2000000)
def jR (n:Int):Bool:=decide (1≤n) && decide (n≤1000000)
def Cmd.orderE (c:Cmd):Int:=
 if c.side≠1∧c.side≠2 then 21 else if c.time<1∨3<c.time then 27 else if jR c.qty=false then 24 else if c.least<0∨c.qty<c.least then 28
 else if c.label≠[]∧gL c.label=false then 29 else if gD c.price=false then 23 else if c.inst<0∨255<c.inst then 20 else 0
def Cmd.right (c:Cmd):Int:=
 if c.kind<1∨4<c.kind then 31 else if c.id<1∨1099511627776<c.id then 1 else if c.kind=1 then c.orderE
 else if c.kind≠2∧jR c.qty=false then 24 else if c.kind=4∧gD c.price=false then 23 else 0
def cmdOrdC:Con:=con1 Cmd (fun c=>[zPv c]) (fun _=>[]) (fun c=>c.label.length≤140737488355328) (fun c=>zA c.orderE) (fun _=>[])
def cmdRtC:Con:=con1 Cmd (fun c=>[zPv c]) (fun _=>[]) (fun c=>c.label.length≤140737488355328) (fun c=>zA c.right) (fun _=>[])
open Go Cv Go.Proofs
def yMg (s:List UInt8):Prop:=
 ∃(a:Nat×Nat),(↑a.snd:Int)=0∧sb s=sb s∧a.fst=0∧∃(b:Nat×Nat→Prop),∃(c:Nat×Nat→Nat),b a∧∀(d:Nat×Nat),b d→cnd (d.fst.blt (sb s).size) (cnd (decide ((↑(Utf8.decode (sb s) d.fst).fst:Int)<32)) (∃(e:Unit),gL s=false∧True) (cnd ((↑(Utf8.decode (sb s) d.fst).fst:Int)==127) (∃(e:Unit),gL s=false∧True) (cnd ((↑(Utf8.decode (sb s) d.fst).fst:Int)==65533) (∃(e:Unit),gL s=false∧True) (aM d s b c)))) (cnd (decide ((↑d.snd:Int)≥1)) (∃(e:Unit),gL s=decide ((↑d.snd:Int)≤12)∧True) (∃(e:Unit),gL s=false∧True))
def zHb (a:Cmd):Prop:=∃(b:List UInt8),sb b=sb a.label∧b.length≤140737488355328∧∀(c:Unit),True→cnd (!gL b) (∃(d:Unit),a.orderE=29∧True) (cnd (decide (a.price≥(-2000000))) (cnd (!decide (a.price≤2000000)) (∃(d:Unit),a.orderE=23∧True) (cnd (decide (a.inst<0)) (∃(d:Unit),a.orderE=20∧True) (cnd (decide (a.inst>255)) (∃(d:Unit),a.orderE=20∧True) (∃(d:Unit),a.orderE=0∧True)))) (∃(d:Unit),a.orderE=23∧True))
def yEm (c:Cmd):Prop:=
 cnd (c.side !=1) (cnd (c.side !=2) (∃(a:Unit),c.orderE=21∧True) (cnd (decide (c.time<1)) (∃(a:Unit),c.orderE=27∧True) (cnd (decide (c.time>3)) (∃(a:Unit),c.orderE=27∧True) (cnd (decide (c.qty≥1)) (cnd (!decide (c.qty≤1000000)) (∃(a:Unit),c.orderE=24∧True) (cnd (decide (c.least<0)) (∃(a:Unit),c.orderE=28∧True) (cnd (decide (c.least>c.qty)) (∃(a:Unit),c.orderE=28∧True) (cnd (!(sb c.label).toList==(ByteArray.mk #[]).toList) (zHb c) (cnd (decide (c.price≥(-2000000))) (cnd (!decide (c.price≤2000000)) (∃(a:Unit),c.orderE=23∧True) (cnd (decide (c.inst<0)) (∃(a:Unit),c.orderE=20∧True) (cnd (decide (c.inst>255)) (∃(a:Unit),c.orderE=20∧True) (∃(a:Unit),c.orderE=0∧True)))) (∃(a:Unit),c.orderE=23∧True)))))) (∃(a:Unit),c.orderE=24∧True))))) (cnd (decide (c.time<1)) (∃(a:Unit),c.orderE=27∧True) (cnd (decide (c.time>3)) (∃(a:Unit),c.orderE=27∧True) (cnd (decide (c.qty≥1)) (cnd (!decide (c.qty≤1000000)) (∃(a:Unit),c.orderE=24∧True) (cnd (decide (c.least<0)) (∃(a:Unit),c.orderE=28∧True) (cnd (decide (c.least>c.qty)) (∃(a:Unit),c.orderE=28∧True) (cnd (!(sb c.label).toList==(ByteArray.mk #[]).toList) (zHb c) (cnd (decide (c.price≥(-2000000))) (cnd (!decide (c.price≤2000000)) (∃(a:Unit),c.orderE=23∧True) (cnd (decide (c.inst<0)) (∃(a:Unit),c.orderE=20∧True) (cnd (decide (c.inst>255)) (∃(a:Unit),c.orderE=20∧True) (∃(a:Unit),c.orderE=0∧True)))) (∃(a:Unit),c.orderE=23∧True)))))) (∃(a:Unit),c.orderE=24∧True))))
def z5l (c:Cmd):Prop:=
 cnd (decide (c.kind<1)) (∃(a:Unit),c.right=31∧True) (cnd (decide (c.kind>4)) (∃(a:Unit),c.right=31∧True) (cnd (decide (c.id<1)) (∃(a:Unit),c.right=1∧True) (cnd (decide (c.id>1099511627776)) (∃(a:Unit),c.right=1∧True) (cnd (c.kind==1) (∃(a:Cmd),a.kind=c.kind∧a.id=c.id∧a.inst=c.inst∧a.side=c.side∧a.price=c.price∧a.qty=c.qty∧a.least=c.least∧a.time=c.time∧sb a.label=sb c.label∧a.label.length≤140737488355328∧∀(b:Unit),True→∃(d:Unit),c.right=a.orderE∧True) (cnd (c.kind !=2) (cnd (decide (c.qty≥1)) (cnd (!decide (c.qty≤1000000)) (∃(a:Unit),c.right=24∧True) (cnd (c.kind==4) (cnd (decide (c.price≥(-2000000))) (cnd (!decide (c.price≤2000000)) (∃(a:Unit),c.right=23∧True) (∃(a:Unit),c.right=0∧True)) (∃(a:Unit),c.right=23∧True)) (∃(a:Unit),c.right=0∧True))) (∃(a:Unit),c.right=24∧True)) (cnd (c.kind==4) (cnd (decide (c.price≥(-2000000))) (cnd (!decide (c.price≤2000000)) (∃(a:Unit),c.right=23∧True) (∃(a:Unit),c.right=0∧True)) (∃(a:Unit),c.right=23∧True)) (∃(a:Unit),c.right=0∧True)))))))
open Go Cv Go.Proofs
theorem yMy (s:List UInt8) (h:labC.cnd s):yMg s:=by
 have h:s.length≤140737488355328:=h
 have hr:=zJw s
 unfold yMg aM
 refine⟨(0,0),rfl,rfl,rfl,fun x=>x.1≤s.length∧x.2+(hZ s x.1).length=(wR s).length∧(wR s).all zIo=(hZ s x.1).all fun x=>zIo x.2,fun x=>s.length-x.1,⟨by omega,by rw[wR,yOs];simp,by rw[wR,List.all_map];rfl⟩,?_⟩
 rintro⟨p,n⟩ ⟨h1,h2,h3⟩
 dsimp only at h1 h2 h3 ⊢
 refine Cv.cnd.mk (fun hp=> ?_) (fun hp=> ?_)
 ·have hp:p<s.length:=by simpa[yRt]using hp
  have hw:=cY s hp
  rw[gR hp,yOy]at h2
  rw[gR hp,List.all_cons]at h3
  generalize hc:(Utf8.decode (sb s) p).1=c at h2 h3 ⊢
  generalize hww:(Utf8.decode (sb s) p).2=w at h2 h3 hw ⊢
  dsimp only at h3
  have bad:zIo c=false→∃(o:Unit),gL s=false∧True:=fun e=>⟨(),by rw[gL,h3,e];rfl,trivial⟩
  refine zI (fun c1=>bad ?_) (fun c1=>Cv.cnd.mk (fun c2=>bad ?_) (fun c2=>Cv.cnd.mk (fun c3=>bad ?_) (fun c3=> ?_)))
  ·simp[zIo];omega
  ·have c2:(c:Int)=127:=by simpa using c2
   simp[zIo];omega
  ·have c3:(c:Int)=65533:=by simpa using c3
   simp[zIo];omega
  ·have c2:¬(c:Int)=127:=by simpa using c2
   have c3:¬(c:Int)=65533:=by simpa using c3
   have e:zIo c=true:=by simp[zIo];omega
   refine⟨(p+w,n+1),?_,rfl,rfl,⟨hw.2,by(first|omega|(dsimp only;omega)),by rw[h3,e];rfl⟩,by(first|omega|(dsimp only;omega)),trivial⟩
   rw[w64 (by omega)];rfl
 ·have hp:s.length≤p:=by have:=z8c hp;simpa using this
  rw[dC hp]at h2 h3
  have h2:n=(wR s).length:=h2
  have h3:(wR s).all zIo=true:=h3
  refine zI (fun c=>⟨(),?_,trivial⟩) (fun c=>⟨(),?_,trivial⟩)
  ·rw[gL,h3,← h2,yPn (show 1≤n by omega)]
   simp only[yRr]
   congr 1
   simp only[eq_iff_iff];omega
  ·rw[gL,← h2,yPm (show ¬1≤n by omega)];simp
theorem yGq:labC.ok Tryz.prog 149:=okw mixed gok0 0 (fun _=>[]) (fun s=>yNf s) [] Tryz.func149 yMy
theorem yNi (a b:Int):(a==b)=decide (a=b):=by
 by_cases h:a=b
 ·subst h;simp
 ·simp[h]
theorem yKt (a b:Int):(a !=b)=decide (a≠b):=by
 by_cases h:a=b
 ·subst h;simp
 ·simp[h]
theorem eqB (a b:List UInt8):((sb a).toList==(sb b).toList)=decide (a=b):=by
 rw[cT,cT]
 by_cases h:a=b
 ·subst h;simp
 ·simp[h]
theorem yFk:ByteArray.mk #[]=sb []:=rfl
theorem yKm (c:Cmd) (h:cmdOrdC.cnd c):yEm c:=by
 have h:c.label.length≤140737488355328:=h
 unfold yEm zHb
 simp only[yFk,eqB,yKt]
 have tail:¬(c.side≠1∧c.side≠2)→cnd (decide (c.time<1)) (∃(o:Unit),c.orderE=27∧True) (cnd (decide (c.time>3)) (∃(o:Unit),c.orderE=27∧True) (cnd (decide (c.qty≥1)) (cnd (!decide (c.qty≤1000000)) (∃(o:Unit),c.orderE=24∧True) (cnd (decide (c.least<0)) (∃(o:Unit),c.orderE=28∧True) (cnd (decide (c.least>c.qty)) (∃(o:Unit),c.orderE=28∧True) (cnd (!decide (c.label=[])) (∃(i:List UInt8),sb i=sb c.label∧i.length≤140737488355328∧∀(o:Unit),True→cnd (!gL i) (∃(o:Unit),c.orderE=29∧True) (cnd (decide (c.price≥-2000000)) (cnd (!decide (c.price≤2000000)) (∃(o:Unit),c.orderE=23∧True) (cnd (decide (c.inst<0)) (∃(o:Unit),c.orderE=20∧True) (cnd (decide (c.inst>255)) (∃(o:Unit),c.orderE=20∧True) (∃(o:Unit),c.orderE=0∧True)))) (∃(o:Unit),c.orderE=23∧True))) (cnd (decide (c.price≥-2000000)) (cnd (!decide (c.price≤2000000)) (∃(o:Unit),c.orderE=23∧True) (cnd (decide (c.inst<0)) (∃(o:Unit),c.orderE=20∧True) (cnd (decide (c.inst>255)) (∃(o:Unit),c.orderE=20∧True) (∃(o:Unit),c.orderE=0∧True)))) (∃(o:Unit),c.orderE=23∧True)))))) (∃(o:Unit),c.orderE=24∧True))):=by
  intro hs
  have e1:c.orderE=if c.time<1∨3<c.time then 27 else if jR c.qty=false then 24 else if c.least<0∨c.qty<c.least then 28
   else if c.label≠[]∧gL c.label=false then 29 else if gD c.price=false then 23 else if c.inst<0∨255<c.inst then 20 else 0:=by rw[Cmd.orderE,yOr hs]
  refine zI (fun d1=>⟨(),by rw[e1,yOu (.inl d1)],trivial⟩) fun d1=>zI (fun d2=>⟨(),by rw[e1,yOu (.inr d2)],trivial⟩) fun d2=> ?_
  rw[yOr (by omega)]at e1
  have q (hq:jR c.qty=false):∃(o:Unit),c.orderE=24∧True:=⟨(),by rw[e1,yOu hq],trivial⟩
  refine zI (fun d3=>Cv.cnd.mk (fun d4=>q ?_) fun d4=> ?_) fun d3=>q ?_
  ·have d4:¬c.qty≤1000000:=by simpa using d4
   simp[jR,d4]
  ·have d4:c.qty≤1000000:=by simpa using d4
   have hq:¬jR c.qty=false:=by simp[jR,d4];omega
   rw[yOr hq]at e1
   refine zI (fun d5=>⟨(),by rw[e1,yOu (.inl d5)],trivial⟩) fun d5=>zI (fun d6=>⟨(),by rw[e1,yOu (.inr d6)],trivial⟩) fun d6=> ?_
   rw[yOr (by omega)]at e1
   have last:¬(c.label≠[]∧gL c.label=false)→cnd (decide (c.price≥-2000000)) (cnd (!decide (c.price≤2000000)) (∃(o:Unit),c.orderE=23∧True) (cnd (decide (c.inst<0)) (∃(o:Unit),c.orderE=20∧True) (cnd (decide (c.inst>255)) (∃(o:Unit),c.orderE=20∧True) (∃(o:Unit),c.orderE=0∧True)))) (∃(o:Unit),c.orderE=23∧True):=by
    intro hl
    rw[yOr hl]at e1
    have pr (hq:gD c.price=false):∃(o:Unit),c.orderE=23∧True:=⟨(),by rw[e1,yOu hq],trivial⟩
    refine zI (fun g1=>Cv.cnd.mk (fun g2=>pr ?_) fun g2=> ?_) fun g1=>pr ?_
    ·have g2:¬c.price≤2000000:=by simpa using g2
     simp[gD,g2]
    ·have g2:c.price≤2000000:=by simpa using g2
     have hp:¬gD c.price=false:=by simp[gD,g2];omega
     rw[yOr hp]at e1
     refine zI (fun g3=>⟨(),by rw[e1,yOu (.inl g3)],trivial⟩) fun g3=>zI (fun g4=>⟨(),by rw[e1,yOu (.inr g4)],trivial⟩) fun g4=>⟨(),by rw[e1,yOr (by omega)],trivial⟩
    ·simp[gD];omega
   refine Cv.cnd.mk (fun d7=>⟨c.label,rfl,h,fun _ _=>Cv.cnd.mk (fun d8=> ?_) fun d8=>last ?_⟩) fun d7=>last ?_
   ·have d7:¬c.label=[]:=by simpa using d7
    have d8:gL c.label=false:=by simpa using d8
    exact⟨(),by rw[e1,yOu ⟨d7,d8⟩],trivial⟩
   ·have d8:gL c.label=true:=by simpa using d8
    simp[d8]
   ·have d7:c.label=[]:=by simpa using d7
    simp[d7]
  ·simp[jR];omega
 refine zI (fun c1=>zI (fun c2=>⟨(),by rw[Cmd.orderE,yOu ⟨c1,c2⟩],trivial⟩) fun c2=>tail ?_) fun c1=>tail ?_
 ·omega
 ·omega
theorem z8z:cmdOrdC.ok Tryz.prog 106:=okw mixed (gokc yGq gok0) 1 (fun _=>[]) (fun _=>[]) [] Tryz.func106 yKm
theorem yFf (c:Cmd) (h:cmdRtC.cnd c):z5l c:=by
 have h:c.label.length≤140737488355328:=h
 unfold z5l
 simp only[yNi,yKt]
 refine zI (fun c1=>⟨(),by rw[Cmd.right,yOu (.inl c1)],trivial⟩) fun c1=>zI (fun c2=>⟨(),by rw[Cmd.right,yOu (.inr c2)],trivial⟩) fun c2=> ?_
 refine zI (fun c3=>⟨(),by rw[Cmd.right,yOr (by omega),yOu (.inl c3)],trivial⟩) fun c3=>zI (fun c4=>⟨(),by rw[Cmd.right,yOr (by omega),yOu (.inr c4)],trivial⟩) fun c4=> ?_
 have e0:c.right=if c.kind=1 then c.orderE else if c.kind≠2∧jR c.qty=false then 24 else if c.kind=4∧gD c.price=false then 23 else 0:=by rw[Cmd.right,yOr (by omega),yOr (by omega)]
 refine zI (fun c5=>⟨c,?_⟩) fun c5=> ?_
 ·rw[yOu c5]at e0
  exact kp
 rw[yOr c5]at e0
 have last (hn:¬(c.kind≠2∧jR c.qty=false)):cnd (decide (c.kind=4)) (cnd (decide (c.price≥-2000000)) (cnd (!decide (c.price≤2000000)) (∃(o:Unit),c.right=23∧True) (∃(o:Unit),c.right=0∧True)) (∃(o:Unit),c.right=23∧True)) (∃(o:Unit),c.right=0∧True):=by
  rw[yOr hn]at e0
  refine zI (fun d1=>zI (fun d2=>Cv.cnd.mk (fun d3=> ?_) fun d3=> ?_) fun d2=> ?_) fun d1=> ?_
  ·have d3:¬c.price≤2000000:=by simpa using d3
   exact⟨(),by rw[e0,yOu ⟨d1,by simp[gD,d3]⟩],trivial⟩
  ·have d3:c.price≤2000000:=by simpa using d3
   exact⟨(),by rw[e0,yOr (by simp[gD,d3];omega)],trivial⟩
  ·exact⟨(),by rw[e0,yOu ⟨d1,by simp[gD];omega⟩],trivial⟩
  ·exact⟨(),by rw[e0,yOr (by simp[d1])],trivial⟩
 refine zI (fun d1=>zI (fun d2=>Cv.cnd.mk (fun d3=> ?_) fun d3=>last ?_) fun d2=> ?_) fun d1=>last ?_
 ·have d3:¬c.qty≤1000000:=by simpa using d3
  exact⟨(),by rw[e0,yOu ⟨d1,by simp[jR,d3]⟩],trivial⟩
 ·have d3:c.qty≤1000000:=by simpa using d3
  simp[jR,d3];omega
 ·exact⟨(),by rw[e0,yOu ⟨d1,by simp[jR];omega⟩],trivial⟩
 ·omega
theorem z5n:cmdRtC.ok Tryz.prog 57:=okw mixed (gokc z8z gok0) 1 (fun _=>[]) (fun _=>[]) [] Tryz.func57 yFf
open Go Cv Go.Proofs
structure SoI where
 s:MSt
 p:Prd
 B:List (List zG)
 inst:Int
 sd:Bool
@[reducible] def SoI.ok (i:SoI):Prop:=i.s.Rep i.p i.B∧i.B.length≤1000
def atB (B:List (List zG)) (inst:Int):List zG:=if inst<0 then[]else B.getD inst.toNat []
def sladC:Con:=con1 SoI (fun i=>[.nm 0 0,zA i.inst,zA (zC i.sd)]) (fun i=>[zD i.s]) (fun i=>i.ok) (fun _=> .own 1) (fun i=>[zD i.s,.own 76 3 ((g7 (atB i.B i.inst) (zC i.sd)).map lvE)])
open Go Cv Go.Proofs
def fM (a:SoI):=(g7 (atB a.B a.inst) (zC a.sd))
def zHk (a:SoI):Prop:=∃(b:Unit),sb a.s.p.code=sb a.s.p.code∧a.s.p.tick=a.s.p.tick∧a.s.p.low=a.s.p.low∧a.s.p.high=a.s.p.high∧a.s.p.wide=a.s.p.wide∧a.s.p.rule=a.s.p.rule∧a.s.p.top=a.s.p.top∧a.s.p.least=a.s.p.least∧a.s.p.part=a.s.p.part∧AObj.objs 184 Book 6 zO a.s.books none=AObj.objs 184 Book 6 zO a.s.books none∧yM a.s.wh=yM a.s.wh∧AObj.fro 1 (iE a.s.p.months)=AObj.fro 1 (iE a.s.p.months)∧AObj.fro 1 (iE a.s.p.settle)=AObj.fro 1 (iE a.s.p.settle)∧List.map lvE (fM a)=[]∧True
def yEp (i:SoI):Prop:=
 cnd (decide (i.inst≥0)) (cnd (!decide (i.inst<(↑i.s.books.length:Int))) (zHk i) ((0≤i.inst∧i.inst<(↑i.s.books.length:Int))∧i.inst.toNat<i.s.books.length∧∃(a:Book),i.s.books[i.inst.toNat]?=some a∧∃(b:BkT),zC b.s=zC i.sd∧zW b.b=zW a∧b.b.Rep b.L∧∀(c:Unit),True→∃(d:Book),zW b.b=zW d∧i.inst.toNat=i.inst.toNat∧i.inst.toNat<i.s.books.length∧∃(e:Unit),sb i.s.p.code=sb i.s.p.code∧i.s.p.tick=i.s.p.tick∧i.s.p.low=i.s.p.low∧i.s.p.high=i.s.p.high∧i.s.p.wide=i.s.p.wide∧i.s.p.rule=i.s.p.rule∧i.s.p.top=i.s.p.top∧i.s.p.least=i.s.p.least∧i.s.p.part=i.s.p.part∧AObj.objs 184 Book 6 zO i.s.books none=AObj.objs 184 Book 6 zO (i.s.books.set i.inst.toNat d) none∧yM i.s.wh=yM i.s.wh∧AObj.fro 1 (iE i.s.p.months)=AObj.fro 1 (iE i.s.p.months)∧AObj.fro 1 (iE i.s.p.settle)=AObj.fro 1 (iE i.s.p.settle)∧List.map lvE (fM i)=List.map lvE (g7 b.L (zC b.s))∧True)) (zHk i)
open Go Cv Go.Proofs
theorem z9s {B:List (List zG)} {inst:Int} {L:List zG} (h0:0≤inst) (hL:B[inst.toNat]? =some L):atB B inst=L:=by
 rw[atB,yOr (by omega),zQ hL]
theorem yAo {B:List (List zG)} {inst:Int} (h:inst<0∨(B.length:Int)≤inst):atB B inst=[]:=by
 rw[atB]
 split
 ·rfl
 ·rw[yPa,yPt (by omega)];rfl
theorem yLc (i:SoI) (h:sladC.cnd i):yEp i:=by
 obtain⟨hR,hB⟩:i.s.Rep i.p i.B∧i.B.length≤1000:=h
 have hbl:=hR.bl
 have out (hx:i.inst<0∨(i.B.length:Int)≤i.inst):List.map lvE (g7 (atB i.B i.inst) (zC i.sd))=[]:=by
  rw[yAo hx];rfl
 unfold yEp zHk fM
 refine zI (fun c=>Cv.cnd.mk (fun d=> ?_) (fun d=> ?_)) (fun c=> ?_)
 ·have d:¬i.inst<(i.s.books.length:Int):=by simpa using d
  rw[out (.inr (by omega))];exact⟨(),by(repeat'(first|exact trivial|exact rfl|apply And.intro))⟩
 ·have d:i.inst<(i.s.books.length:Int):=by simpa using d
  obtain⟨b,hb⟩:=z8 (l:=i.s.books) (i:=i.inst.toNat) (by omega)
  obtain⟨L,hL⟩:=z8 (l:=i.B) (i:=i.inst.toNat) (by omega)
  refine⟨⟨c,d⟩,by omega,b,hb,⟨b,L,i.sd⟩,rfl,rfl,hR.bk _ b L hb hL,fun _ _=>⟨b,rfl,rfl,by omega,?_⟩⟩
  rw[wO hb,z9s c hL]
  exact⟨(),by(repeat'(first|exact trivial|exact rfl|apply And.intro))⟩
 ·rw[out (.inl (by omega))];exact⟨(),by(repeat'(first|exact trivial|exact rfl|apply And.intro))⟩
theorem yAw:sladC.ok Tryz.prog 117:=okw mixed (gokc yFc gok0) 1 (fun _=>[]) (fun _=>[]) [0] Tryz.func117 yLc
open Go Cv Go.Proofs
def zZj (s:Int) (F:List zG):Prop:=F.Pairwise fun o o'=>btr s o'.price o.price=false
def pA (L:List zG) (s:Int):List zG:=L.filter fun o=>decide (o.side=s)
structure BWf (p:Prd) (B:List (List zG)):Prop where
 ok:BOk p B
 od:z9c B
 ub:((whL 0 B).map (·.1)).Nodup
 srt:∀(k:Nat) (L:List zG),B[k]? =some L→∀s,s=1∨s=2→zZj s (pA L s)
theorem zRa {s:Int} {b:Book} {Q:List (List Nat)}:∀{R:List y3},(R.Pairwise fun r r'=>btr s r.price r'.price=true)→zZj s (R.flatMap (b.rOrds Q s))
 |[],_=>List.Pairwise.nil
 |r::R,h=>by
  rw[yUn]at h
  rw[yQh,zZj,List.pairwise_append]
  refine⟨List.pairwise_of_forall_mem_list fun o ho o' ho'=> ?_,zRa h.2,fun o ho o' ho'=> ?_⟩
  ·rw[(xO ho).2,(xO ho').2];exact pQ _ _
  ·obtain⟨r',hr',ho'⟩:=yRb.1 ho'
   rw[(xO ho).2,(xO ho').2];exact zRo (h.1 r' hr')
theorem Book.Rep.srt {b:Book} {L:List zG} (h:b.Rep L) {s:Int} (hs:s=1∨s=2):zZj s (pA L s):=by
 obtain⟨Q,c,ht,rfl⟩:=h
 rw[pA,zJf hs]
 exact zRa (c.srt s hs)
theorem MSt.Rep.wf {s:MSt} {p:Prd} {B:List (List zG)} (h:s.Rep p B) (hb:BOk p B):BWf p B:=by
 refine⟨hb,h.ords,h.ids,fun k L hL=> ?_⟩
 obtain⟨b,hb⟩:=z8 (l:=s.books) (i:=k) (by rw[h.bl];exact(yOt.1 hL).1)
 exact fun s hs=>(h.bk k b L hb hL).srt hs
theorem z6q {L:List zG} (h:∀o∈L,zEl o) (hn:(L.map (·.id)).Nodup) (id q:Int):∀o∈(xF L id q).1,zEl o:=by
 intro o ho
 rw[xF]at ho
 split at ho
 ·exact h o ho
 split at ho
 ·exact h o ho
 rename_i hb
 obtain⟨o',ho',e⟩:=yTm.1 ho
 have h0:=h o' ho'
 split at e
 ·rename_i e1
  have hg:=mE hn ho'
  rw[e1]at hg
  rw[hg]at hb
  split at e
  ·cases e
  ·rename_i e2
   cases e
   have:=h0.q
   exact⟨h0.s,by dsimp only;omega⟩
 ·cases e;exact h0
theorem z8i (L:List zG) (id q:Int):(xF L id q).1.length≤L.length:=by
 rw[xF]
 split
 ·exact yPy _
 split
 ·exact yPy _
 exact List.length_filterMap_le _ _
theorem z2o {L:List zG} {s:Int} (h:zZj s (pA L s)) (id q:Int):zZj s (pA (xF L id q).1 s):=by
 rw[xF]
 split
 ·exact h
 split
 ·exact h
 have e:pA (wS L id q) s=wS (pA L s) id q:=by
  rw[pA,pA,wS,wS,List.filter_filterMap,List.filterMap_filter]
  refine dH fun o _=> ?_
  by_cases e1:o.id=id
  ·rw[yOu e1]
   by_cases e2:o.qty=q
   ·rw[yOu e2];simp
   ·rw[yOr e2];by_cases e3:o.side=s<;>simp[Option.filter,e3]
  ·rw[yOr e1];by_cases e3:o.side=s<;>simp[Option.filter,e3]
 rw[e,wS]
 refine List.Pairwise.filterMap _ (fun a a' haa b hb b' hb'=> ?_) h
 have g:∀{a b:zG},(if a.id=id then(if a.qty=q then none else some {a with qty:=a.qty-q})else some a)=some b→b.price=a.price:=by
  intro a b e
  split at e
  ·split at e
   ·cases e
   ·cases e;rfl
  ·cases e;rfl
 rw[g hb,g hb'];exact haa
theorem z9z {B:List (List zG)} (h:((whL 0 B).map (·.1)).Nodup) {k:Nat} {L L':List zG} (hL:B[k]? =some L) (hs:(L'.map (·.id)).Sublist (L.map (·.id))):((whL 0 (B.set k L')).map (·.1)).Nodup:=by
 have hk:=(yOt.1 hL).1
 obtain⟨rest,hr⟩:=zDv (B:=B) 0 k hk
 have h0:=hr L
 rw[wO hL]at h0
 have h1:=(h0.map (·.1)).nodup_iff.1 h
 refine((hr L').map (·.1)).nodup_iff.2 ?_
 rw[yPc,yRe]at h1 ⊢
 exact h1.sublist (List.Sublist.append hs (List.Sublist.refl _))
theorem BWf.take {p:Prd} {B:List (List zG)} (h:BWf p B) (id q:Int):BWf p (qC B id q).1:=by
 refine⟨h.ok.take id q,?_,?_,?_⟩
 all_goals
  rw[qC]
  cases hi:dE B id with
  |none=>first|exact h.od|exact h.ub|exact h.srt
  |some k=>
   obtain⟨L,hL,hh⟩:=vL hi
   have ho:=h.od k L hL
   dsimp only
   rw[zQ hL]
   first
   |(intro j M hM
     rcases g8 hM with⟨rfl,rfl⟩|⟨_,hM⟩
     ·refine⟨z6q ho.1 ho.2.1 id q,?_,yRw (z8i L id q) ho.2.2⟩
      rcases zIl ho.2.1 id q with⟨e,_⟩|⟨e,_⟩
      ·rw[e];exact ho.2.1
      ·rw[e];exact ho.2.1.sublist (List.Sublist.map _ yUf)
     ·exact h.od j M hM)
   |(refine z9z h.ub hL ?_
     rcases zIl ho.2.1 id q with⟨e,_⟩|⟨e,_⟩
     ·rw[e];exact List.Sublist.refl _
     ·rw[e];exact List.Sublist.map _ yUf)
   |(intro j M hM s hs
     rcases g8 hM with⟨rfl,rfl⟩|⟨_,hM⟩
     ·exact z2o (h.srt _ L hL s hs) id q
     ·exact h.srt j M hM s hs)
theorem BWf.takes {p:Prd}:∀{fs:List gV} {B:List (List zG)},BWf p B→BWf p (qD B fs)
 |[],B,h=>h
 |f::fs,B,h=>BWf.takes (fs:=fs) (h.take f.id f.qty)
open Go Cv Go.Proofs
theorem zLq {p:Prd} {B:List (List zG)} (h:BWf p B) {inst:Int} {sd:Bool} {price q:Int} {t:kT} {B':List (List zG)} (e:dQ p B inst sd price q=some (t,B')):BWf p B'∧B'.length=B.length:=by
 rw[dQ]at e
 dsimp only at e
 split at e
 ·split at e
  ·cases e;exact⟨h.takes.takes,by rw[wN,wN]⟩
  ·cases e;exact⟨h.takes,by rw[wN]⟩
 ·cases e
theorem cR {p:Prd} {inst:Int} {sd:Bool} {price:Int}:∀(m:Nat) (q:Int) (B:List (List zG)),q.toNat≤m→BWf p B→BWf p (kP p B inst sd price q).B∧(kP p B inst sd price q).B.length=B.length∧(0≤q→0≤(kP p B inst sd price q).left∧(kP p B inst sd price q).left≤q)
 |m,q,B,hm,h=>by
  by_cases hq:q≤0
  ·rw[nT (.inl hq)]
   exact⟨h,rfl,fun x=>⟨x,yTl _⟩⟩
  cases hs:dQ p B inst sd price q with
  |none=>
   rw[nT (.inr hs)]
   exact⟨h,rfl,fun x=>⟨x,yTl _⟩⟩
  |some x=>
   obtain⟨t,C⟩:=x
   obtain⟨k1,k2⟩:=zLq h hs
   have hq2:=zGp (by omega) hs
   cases m with
   |zero=>omega
   |succ m=>
   obtain⟨i1,i2,i3⟩:=cR (p:=p) (inst:=inst) (sd:=sd) (price:=price) m (q-t.qty) C (by omega) k1
   rw[zGw (by omega) hs]
   exact⟨i1,i2.trans k2,fun _=>⟨(i3 (by omega)).1,by dsimp only;have:=(i3 (by omega)).2;omega⟩⟩
open Go Cv Go.Proofs
@[reducible] def RunI.ok (i:RunI):Prop:=i.s.Rep i.p i.B∧BOk i.p i.B∧(0≤i.inst∧i.inst<i.B.length)∧1≤i.q∧i.q≤1000000
def scouldC:Con:=con1 RunI (fun i=>[.nm 0 0,zA i.inst,zA (zC i.sd),zA i.price,zA i.q]) (fun i=>[zD i.s]) (fun i=>i.ok) (fun i=>zA (i.q-i.r.left)) (fun i=>[zD i.s])
def fW (p:Prd) (B:List (List zG)) (inst:Int) (sd:Bool) (price q:Int):Bool:=
 decide ((kP p B inst sd price q).left≠0) && (x5 ⟨p,(kP p B inst sd price q).B.map kB,inst⟩ (zC (!sd))).any fun x=>gY sd price x.price
def stuckC:Con:=con1 RunI (fun i=>[.nm 0 0,zA i.inst,zA (zC i.sd),zA i.price,zA i.q]) (fun i=>[zD i.s]) (fun i=>i.ok) (fun i=>yB (fW i.p i.B i.inst i.sd i.price i.q)) (fun i=>[zD i.s])
def zNx (B:List (List zG)):Nat:=(whL 0 B).length
def countC16:Con:=con1 SoI (fun i=>[.nm 0 0]) (fun i=>[zD i.s]) (fun i=>i.ok) (fun i=>zA (zNx i.B)) (fun i=>[zD i.s])
def uC (p:Prd) (inst price:Int):Int×Int×Int:=
 if(p.legs inst).2.2=false then(0,0,20)else if p.price inst price≠0 then(0,0,p.price inst price)else
 let far:=p.settle.getD (p.legs inst).2.1.toNat 0
 let a:=if p.high<far+price then(p.high,p.high-price)else(far+price,far)
 if a.1<p.low then(p.low,p.low-price,0)else(a.1,a.2,0)
structure LpI where
 p:Prd
 inst:Int
 price:Int
def lpricesC:Con:=con1 LpI (fun i=>[tA i.p,zA i.inst,zA i.price]) (fun _=>[]) (fun i=>i.p.check=0∧i.p.small∧i64r i.price) (fun i=> .tup [zA (uC i.p i.inst i.price).1,zA (uC i.p i.inst i.price).2.1,zA (uC i.p i.inst i.price).2.2]) (fun _=>[])
def ijj (t u:Nat):SAnn:={ι:=Int×Int,slots:=fun n=>[(t,zA n.1),(u,zA n.2)],rows:=fun _=>[]}
def lpJ:List (Nat×SAnn):=[(50,ijj 15 14),(58,ijj 15 14)]
def yGn:List SAnn:=[{ι:=Nat,slots:=fun j=>[(40,zA j)],rows:=fun _=>[]}]
def yHz:List (Nat×SAnn):=[(8,{ι:=Unit,slots:=fun _=>[],rows:=fun _=>[],opn:=[11]})]
open Go Cv Go.Proofs
def wJ (a:Book):Prop:=(a.a.slots.length≤1000000∧a.a.queues.length≤1000000)∧a.buys.length≤1000000∧a.sells.length≤1000000∧a.spare.length≤1000000
def vW (a:MSt):Prop:=a.books.length≤1000000∧∀(b:Book),b∈a.books→wJ b
def xQ (a:RunI):Prop:=a.s.Rep a.p a.B∧BOk a.p a.B∧(0≤a.inst∧a.inst<(↑a.B.length:Int))∧1≤a.q∧a.q≤1000000
def tL (a:RunI):Prop:=∃(b:MSt),sb b.p.code=sb a.s.p.code∧b.p.tick=a.s.p.tick∧b.p.low=a.s.p.low∧b.p.high=a.s.p.high∧b.p.wide=a.s.p.wide∧b.p.rule=a.s.p.rule∧b.p.top=a.s.p.top∧b.p.least=a.s.p.least∧b.p.part=a.s.p.part∧AObj.objs 184 Book 6 zO b.books none=AObj.objs 184 Book 6 zO a.s.books none∧yM b.wh=yM a.s.wh∧AObj.fro 1 (iE b.p.months)=AObj.fro 1 (iE a.s.p.months)∧AObj.fro 1 (iE b.p.settle)=AObj.fro 1 (iE a.s.p.settle)∧(vW b)∧∀(c:Unit),True→∃(d:RunI),d.inst=a.inst∧zC d.sd=zC a.sd∧d.price=a.price∧d.q=a.q∧zD d.s=zD b∧(xQ d)∧∀(e:MSt),e.Rep d.p d.r.B→∃(f:Unit),a.q-a.r.left=IntKind.i64.wrap (a.q-d.r.left)∧zD a.s=zD b∧True
def jZ (a:RunI):Prop:=∃(b:Unit),a.q-a.r.left=0∧sb a.s.p.code=sb a.s.p.code∧a.s.p.tick=a.s.p.tick∧a.s.p.low=a.s.p.low∧a.s.p.high=a.s.p.high∧a.s.p.wide=a.s.p.wide∧a.s.p.rule=a.s.p.rule∧a.s.p.top=a.s.p.top∧a.s.p.least=a.s.p.least∧a.s.p.part=a.s.p.part∧AObj.objs 184 Book 6 zO a.s.books none=AObj.objs 184 Book 6 zO a.s.books none∧yM a.s.wh=yM a.s.wh∧AObj.fro 1 (iE a.s.p.months)=AObj.fro 1 (iE a.s.p.months)∧AObj.fro 1 (iE a.s.p.settle)=AObj.fro 1 (iE a.s.p.settle)∧True
def zXp (i:RunI):Prop:=
 cnd (decide (i.inst≥0)) (cnd (decide (i.inst<(↑i.s.books.length:Int))) (cnd (zC i.sd==1) (cnd (decide (i.q≥1)) (cnd (!decide (i.q≤1000000)) (jZ i) (tL i)) (jZ i)) (cnd (zC i.sd==2) (cnd (decide (i.q≥1)) (cnd (!decide (i.q≤1000000)) (jZ i) (tL i)) (jZ i)) (jZ i))) (jZ i)) (jZ i)
def zPl (i:SoI):Prop:=
 ∃(a:Unit),(↑(zNx i.B):Int)=(↑(yM i.s.wh).length:Int)∧sb i.s.p.code=sb i.s.p.code∧i.s.p.tick=i.s.p.tick∧i.s.p.low=i.s.p.low∧i.s.p.high=i.s.p.high∧i.s.p.wide=i.s.p.wide∧i.s.p.rule=i.s.p.rule∧i.s.p.top=i.s.p.top∧i.s.p.least=i.s.p.least∧i.s.p.part=i.s.p.part∧AObj.objs 184 Book 6 zO i.s.books none=AObj.objs 184 Book 6 zO i.s.books none∧yM i.s.wh=yM i.s.wh∧AObj.fro 1 (iE i.s.p.months)=AObj.fro 1 (iE i.s.p.months)∧AObj.fro 1 (iE i.s.p.settle)=AObj.fro 1 (iE i.s.p.settle)∧True
def gN (a:Int×Int→Prop) (b:Int×Int) (c:LpI):Prop:=a b∧Sx.AObj.cells [V.d (D.v (Value.string (sb c.p.code))),V.own 0,V.d (dI c.p.tick),V.d (dI c.p.low),V.d (dI c.p.high),V.d (dI c.p.wide),V.d (dI c.p.rule),V.d (dI c.p.top),V.d (dI c.p.least),V.d (dI c.p.part),V.own ((0:Nat)+(1:Nat))] 26=Sx.AObj.cells [V.d (D.v (Value.string (sb c.p.code))),V.own 0,V.d (dI c.p.tick),V.d (dI c.p.low),V.d (dI c.p.high),V.d (dI c.p.wide),V.d (dI c.p.rule),V.d (dI c.p.top),V.d (dI c.p.least),V.d (dI c.p.part),V.own ((0:Nat)+(1:Nat))] 26∧AObj.fro 1 (iE c.p.settle)=AObj.fro 1 (iE c.p.settle)∧AObj.fro 1 (iE c.p.months)=AObj.fro 1 (iE c.p.months)
def yO (a:LpI):=(uC a.p a.inst a.price)
def zRd (i:LpI):Prop:=
 ∃(a:Prd),sb a.code=sb i.p.code∧iE a.months=iE i.p.months∧a.tick=i.p.tick∧a.low=i.p.low∧a.high=i.p.high∧a.wide=i.p.wide∧a.rule=i.p.rule∧a.top=i.p.top∧a.least=i.p.least∧a.part=i.p.part∧iE a.settle=iE i.p.settle∧(yC a)∧∀(b:Unit),True→cnd (a.check !=0) (∃(c:Unit),(yO i).fst=0∧(yO i).snd.fst=0∧(yO i).snd.snd=1∧True) (∃(c:tZ),sb c.p.code=sb i.p.code∧iE c.p.months=iE i.p.months∧c.p.tick=i.p.tick∧c.p.low=i.p.low∧c.p.high=i.p.high∧c.p.wide=i.p.wide∧c.p.rule=i.p.rule∧c.p.top=i.p.top∧c.p.least=i.p.least∧c.p.part=i.p.part∧iE c.p.settle=iE i.p.settle∧c.n=i.inst∧(jK c)∧∀(d:Unit),True→cnd (!(c.p.legs c.n).snd.snd) (∃(e:Unit),(yO i).fst=0∧(yO i).snd.fst=0∧(yO i).snd.snd=20∧True) (∃(e:mY),sb e.p.code=sb i.p.code∧iE e.p.months=iE i.p.months∧e.p.tick=i.p.tick∧e.p.low=i.p.low∧e.p.high=i.p.high∧e.p.wide=i.p.wide∧e.p.rule=i.p.rule∧e.p.top=i.p.top∧e.p.least=i.p.least∧e.p.part=i.p.part∧iE e.p.settle=iE i.p.settle∧e.a=i.inst∧e.b=i.price∧(xH e)∧∀(f:Unit),True→cnd (e.p.price e.a e.b !=0) (∃(g:Unit),(yO i).fst=0∧(yO i).snd.fst=0∧(yO i).snd.snd=e.p.price e.a e.b∧True) ((0≤(c.p.legs c.n).snd.fst∧(c.p.legs c.n).snd.fst<(↑(iE i.p.settle).length:Int))∧∃(g:Int),zF (iE i.p.settle) (c.p.legs c.n).snd.fst.toNat 0 1=some [dI g]∧∃(h:Int×Int),∃(j:Int×Int→Prop),cnd (decide (IntKind.i64.wrap (g+i.price)>i.p.high)) (∃(k:Int×Int),k.fst=i.p.high∧k.snd=IntKind.i64.wrap (i.p.high-i.price)∧gN j k i) (∃(k:Int×Int),k.fst=IntKind.i64.wrap (g+i.price)∧k.snd=g∧gN j k i)∧∀(k:Int×Int),j k→∃(l:Int×Int),∃(m:Int×Int→Prop),cnd (decide (k.fst<i.p.low)) (∃(n:Int×Int),n.fst=i.p.low∧n.snd=IntKind.i64.wrap (i.p.low-i.price)∧gN m n i) (∃(n:Int×Int),n.fst=k.fst∧n.snd=k.snd∧gN m n i)∧∀(n:Int×Int),m n→∃(p:Unit),(yO i).fst=n.fst∧(yO i).snd.fst=n.snd∧(yO i).snd.snd=0∧True)))
def tE (a:MSt) (b:MSt):Prop:=sb a.p.code=sb b.p.code∧True∧a.p.tick=b.p.tick∧a.p.low=b.p.low∧a.p.high=b.p.high∧a.p.wide=b.p.wide∧a.p.rule=b.p.rule∧a.p.top=b.p.top∧a.p.least=b.p.least∧a.p.part=b.p.part∧True∧True
def z7l (i:RunI):Prop:=
 ∃(a:MSt),zD a=zD i.s∧(vW a)∧∀(b:Unit),True→∃(c:RunI),c.inst=i.inst∧zC c.sd=zC i.sd∧c.price=i.price∧c.q=i.q∧zD c.s=zD a∧(xQ c)∧∀(d:MSt),d.Rep c.p c.r.B→cnd (c.r.left==0) (∃(e:Unit),fW i.p i.B i.inst i.sd i.price i.q=false∧zD i.s=zD a∧True) (∃(e:MSt),sb e.p.code=sb d.p.code∧e.p.tick=d.p.tick∧e.p.low=d.p.low∧e.p.high=d.p.high∧e.p.wide=d.p.wide∧e.p.rule=d.p.rule∧e.p.top=d.p.top∧e.p.least=d.p.least∧e.p.part=d.p.part∧AObj.objs 184 Book 6 zO e.books none=AObj.objs 184 Book 6 zO d.books none∧yM e.wh=yM d.wh∧AObj.fro 1 (iE e.p.months)=AObj.fro 1 (iE d.p.months)∧AObj.fro 1 (iE e.p.settle)=AObj.fro 1 (iE d.p.settle)∧(u0 e)∧∀(f:Unit),True→(tE e d)∧∃(g:Bool),zC g=zC i.sd∧True∧∀(h:Unit),True→(tE e d)∧∃(j:nK),sb j.i.p.code=sb d.p.code∧iE j.i.p.months=iE e.p.months∧j.i.p.tick=d.p.tick∧j.i.p.low=d.p.low∧j.i.p.high=d.p.high∧j.i.p.wide=d.p.wide∧j.i.p.rule=d.p.rule∧j.i.p.top=d.p.top∧j.i.p.least=d.p.least∧j.i.p.part=d.p.part∧iE j.i.p.settle=iE e.p.settle∧List.map zU j.i.tops=List.map zU e.tops∧j.i.inst=i.inst∧zC j.s=zC !g∧(qZ j)∧∀(k:Unit),True→∃(l:Nat),(↑l:Int)=0∧∃(m:Nat→Prop),∃(n:Nat→Nat),m l∧∀(p:Nat),m p→cnd (decide ((↑p:Int)<(uA j))) ((0≤(↑p:Int)∧(↑p:Int)<(uA j))∧∃(q:Int),∃(r:Int),∃(s:Int),∃(t:Int),∃(u:Int),∃(v:Int),zF (qU j) (↑p:Int).toNat 0 6=some [dI q,dI r,dI s,dI t,dI u,dI v]∧∃(w:GoI),zC w.s=zC i.sd∧w.p=i.price∧w.x=q∧True∧∀(x:Unit),True→cnd (gY w.s w.p w.x) (∃(y:Unit),fW i.p i.B i.inst i.sd i.price i.q=true∧zD i.s=zD a∧True) (∃(y:Nat),(↑y:Int)=IntKind.i64.wrap ((↑p:Int)+1)∧m y∧n y<n p∧AObj.own 257 6 (qU j)=AObj.own 257 6 (qU j)∧Sx.AObj.cells (wT (dO 5 (1+((2:Nat)-(1:Nat))+((2:Nat)-(1:Nat))+((5:Nat)-(1:Nat))) ((6:Nat)-(5:Nat)) [((2:Nat),1+((2:Nat)-(1:Nat))+((2:Nat)-(1:Nat))+nat_lit 1),((1:Nat),1+((2:Nat)-(1:Nat))+((2:Nat)-(1:Nat))+nat_lit 0),((4:Nat),1+((2:Nat)-(1:Nat))+((2:Nat)-(1:Nat))+nat_lit 3),((3:Nat),1+((2:Nat)-(1:Nat))+((2:Nat)-(1:Nat))+nat_lit 2),((0:Nat),1+nat_lit 0)]) [sV e.p.code,V.own 3,zA e.p.tick,zA e.p.low,zA e.p.high,zA e.p.wide,zA e.p.rule,zA e.p.top,zA e.p.least,zA e.p.part,V.own 4,V.own 1,V.mp 2]) (182:TypeId)=Sx.AObj.cells (wT (dO 5 (1+((2:Nat)-(1:Nat))+((2:Nat)-(1:Nat))+((5:Nat)-(1:Nat))) ((6:Nat)-(5:Nat)) [((2:Nat),1+((2:Nat)-(1:Nat))+((2:Nat)-(1:Nat))+nat_lit 1),((1:Nat),1+((2:Nat)-(1:Nat))+((2:Nat)-(1:Nat))+nat_lit 0),((4:Nat),1+((2:Nat)-(1:Nat))+((2:Nat)-(1:Nat))+nat_lit 3),((3:Nat),1+((2:Nat)-(1:Nat))+((2:Nat)-(1:Nat))+nat_lit 2),((0:Nat),1+nat_lit 0)]) [sV e.p.code,V.own 3,zA e.p.tick,zA e.p.low,zA e.p.high,zA e.p.wide,zA e.p.rule,zA e.p.top,zA e.p.least,zA e.p.part,V.own 4,V.own 1,V.mp 2]) (182:TypeId)∧AObj.objs 184 Book 6 zO e.books none=AObj.objs 184 Book 6 zO e.books none∧Sx.AObj.map (yM e.wh)=Sx.AObj.map (yM e.wh)∧AObj.fro 1 (iE e.p.months)=AObj.fro 1 (iE e.p.months)∧AObj.fro 1 (iE e.p.settle)=AObj.fro 1 (iE e.p.settle)∧AObj.fro 6 (List.map zU e.tops)=AObj.fro 6 (List.map zU e.tops)∧AObj.fro 1 (iE d.p.months)=AObj.fro 1 (iE d.p.months)∧AObj.fro 1 (iE d.p.settle)=AObj.fro 1 (iE d.p.settle)∧AObj.own 260 4 (List.map kE c.r.steps)=AObj.own 260 4 (List.map kE c.r.steps)∧zD a=zD a)) (∃(q:Unit),fW i.p i.B i.inst i.sd i.price i.q=false∧zD i.s=zD a∧True))
open Go Cv Go.Proofs
theorem MSt.Rep.small {s:MSt} {p:Prd} {B:List (List zG)} (h:s.Rep p B) (hb:BOk p B):s.small:=by
 have:=xR p
 refine⟨by rw[h.bl,hb.bl];omega,fun b hm=> ?_⟩
 obtain⟨k,hk⟩:=yRg.1 hm
 have hlt:=(yOt.1 hk).1
 rw[h.bl]at hlt
 obtain⟨L,hL⟩:=z8 hlt
 obtain⟨Q,c,_⟩:=h.bk k b L hk hL
 exact c.small
theorem yAp (i:RunI) (h:scouldC.cnd i):zXp i:=by
 have h':i.ok:=h
 obtain⟨hR,hB,⟨h0,h1⟩,hq1,hq2⟩:=h'
 have hbl:=hR.bl
 have hl:=(cR (inst:=i.inst) (sd:=i.sd) (price:=i.price) _ i.q i.B (yPy _) (hR.wf hB)).2.2 (by omega)
 have er:i.r=kP i.p i.B i.inst i.sd i.price i.q:=rfl
 unfold zXp jZ tL xQ vW wJ
 refine(fun hT=>zI (fun c=>zI (fun c2=>Cv.cnd.mk (fun _=>zI (fun _=>Cv.cnd.mk (fun e=>absurd hq2 (by simpa using e)) (fun _=>hT)) (fun e=>absurd hq1 e)) (fun e1=>Cv.cnd.mk (fun _=>zI (fun _=>Cv.cnd.mk (fun e=>absurd hq2 (by simpa using e)) (fun _=>hT)) (fun e=>absurd hq1 e)) (fun e2=>by
  rcases lP i.sd with e|e
  ·rw[e]at e1;cases e1
  ·rw[e]at e2;cases e2))) (fun c2=>absurd (by omega) c2)) (fun c=>absurd h0 c)) ?_
 refine⟨i.s,rfl,rfl,rfl,rfl,rfl,rfl,rfl,rfl,rfl,rfl,rfl,rfl,rfl,hR.small hB,fun _ _=>⟨i,rfl,rfl,rfl,rfl,rfl,h,fun o ho=>⟨(),?_,rfl,trivial⟩⟩⟩
 rw[w64 (by rw[er];omega)]
theorem z0l:scouldC.ok Tryz.prog 110:=okw mixed (gokc eI (gokc zUe gok0)) 2 (fun _=>[]) (fun _=>[]) [0] Tryz.func110 yAp
theorem z5b (i:SoI) (h:countC16.cnd i):zPl i:=by
 obtain⟨hR,hB⟩:i.s.Rep i.p i.B∧i.B.length≤1000:=h
 unfold zPl
 have e:(yM i.s.wh).length=zNx i.B:=by rw[yM,yOs,hR.wh.length_eq,zNx]
 exact⟨(),by rw[e],by(repeat'(first|exact trivial|exact rfl|apply And.intro))⟩
theorem zEt:countC16.ok Tryz.prog 56:=okw mixed gok0 0 (fun _=>[]) (fun _=>[]) [0] Tryz.func56 z5b
theorem zOv {p:Prd} {i n:Int} (h:p.price i n=0):0≤i∧i<p.count:=by
 rw[Prd.price]at h
 split at h
 ·cases h
 split at h
 ·cases h
 omega
theorem z8n (i:LpI) (h:lpricesC.cnd i):zRd i:=by
 obtain⟨hc,hp,hpr⟩:i.p.check=0∧i.p.small∧i64r i.price:=h
 unfold zRd gN yO yC jK xH dI
 refine⟨i.p,rfl,rfl,rfl,rfl,rfl,rfl,rfl,rfl,rfl,rfl,rfl,hp,fun _ _=>Cv.cnd.mk (fun e=>by rw[hc]at e;cases e) (fun _=> ?_)⟩
 refine⟨⟨i.p,i.inst⟩,rfl,rfl,rfl,rfl,rfl,rfl,rfl,rfl,rfl,rfl,rfl,rfl,hp,fun _ _=>Cv.cnd.mk (fun e=> ?_) (fun e=> ?_)⟩
 ·have e:(i.p.legs i.inst).2.2=false:=by simpa using e
  have h0:uC i.p i.inst i.price=(0,0,20):=by rw[uC,yOu e]
  rw[h0];exact⟨(),rfl,rfl,rfl,trivial⟩
 have e:(i.p.legs i.inst).2.2=true:=by simpa using e
 refine⟨⟨i.p,i.inst,i.price⟩,rfl,rfl,rfl,rfl,rfl,rfl,rfl,rfl,rfl,rfl,rfl,rfl,rfl,hp,fun _ _=>Cv.cnd.mk (fun e2=> ?_) (fun e2=> ?_)⟩
 ·have e2:¬i.p.price i.inst i.price=0:=by simpa using e2
  have h0:uC i.p i.inst i.price=(0,0,i.p.price i.inst i.price):=by rw[uC,yOr (by rw[e];decide),yOu e2]
  rw[h0];exact⟨(),rfl,rfl,rfl,trivial⟩
 have e2:i.p.price i.inst i.price=0:=by simpa using e2
 have hin:=zOv e2
 have hbd:=lJ hc e2
 have ok:=wX hc
 have b1:=ok.b1
 have b2:=ok.b2
 have b3:=ok.b3
 have s1:=ok.s1
 have s2:=ok.s2
 have s3:=ok.s3
 obtain⟨k,hk⟩:∃k:Nat,i.inst=k:=⟨i.inst.toNat,by omega⟩
 have hl:=gO hc (k:=k) (by omega)
 rw[← hk]at hl
 rcases hl with⟨_,_,_,l3,l4⟩|⟨x,_⟩
 rotate_left
 ·rw[e]at x;cases x
 have hsl:(iE i.p.settle).length=i.p.settle.length:=y6 _
 obtain⟨n,hn⟩:=z8 (l:=i.p.settle) (i:=(i.p.legs i.inst).2.1.toNat) (by omega)
 have hm:=yPe hn
 have m1:=z9u hm
 have m2:=yCs hm
 have hg:i.p.settle.getD (i.p.legs i.inst).2.1.toNat 0=n:=zQ hn
 have h0:uC i.p i.inst i.price=(if(if i.p.high<n+i.price then(i.p.high,i.p.high-i.price)else(n+i.price,n)).1<i.p.low then(i.p.low,i.p.low-i.price,0)else((if i.p.high<n+i.price then(i.p.high,i.p.high-i.price)else(n+i.price,n)).1,(if i.p.high<n+i.price then(i.p.high,i.p.high-i.price)else(n+i.price,n)).2,0)):=by
  rw[uC,yOr (by rw[e];decide),yOr (by rw[e2];decide)]
  dsimp only
  rw[hg]
 dsimp only
 refine⟨⟨l3,by omega⟩,n,elI hn,(0,0),fun a=>a=if i.p.high<n+i.price then(i.p.high,i.p.high-i.price)else(n+i.price,n),zI (fun c=>⟨(i.p.high,i.p.high-i.price),rfl,(w64 (by omega)).symm,?_,by(repeat'(first|exact trivial|exact rfl|apply And.intro))⟩) (fun c=>⟨(n+i.price,n),(w64 (by omega)).symm,rfl,?_,by(repeat'(first|exact trivial|exact rfl|apply And.intro))⟩),?_⟩
 ·rw[w64 (by omega)]at c;rw[yOu c]
 ·rw[w64 (by omega)]at c;rw[yOr c]
 rintro _ rfl
 generalize (if i.p.high<n+i.price then(i.p.high,i.p.high-i.price)else(n+i.price,n))=a at h0 ⊢
 refine⟨(0,0),fun b=>b=if a.1<i.p.low then(i.p.low,i.p.low-i.price)else a,zI (fun c=>⟨(i.p.low,i.p.low-i.price),rfl,(w64 (by omega)).symm,by rw[yOu c],by(repeat'(first|exact trivial|exact rfl|apply And.intro))⟩) (fun c=>⟨a,rfl,rfl,by rw[yOr c],by(repeat'(first|exact trivial|exact rfl|apply And.intro))⟩),?_⟩
 rintro _ rfl
 rw[h0]
 by_cases c:a.1<i.p.low
 ·rw[yOu c,yOu c];exact⟨(),rfl,rfl,rfl,trivial⟩
 ·rw[yOr c,yOr c];exact⟨(),rfl,rfl,rfl,trivial⟩
theorem zUw:lpricesC.ok Tryz.prog 222:=okw mixed (gokc nG (gokc pI (gokc nU gok0))) 0 (fun _=>lpJ) (fun _=>[]) [] Tryz.func222 z8n
theorem yBl {l:List Quote} {k:Nat} {q:Quote} (h:l[k]? =some q):zF (l.map zH) k 0 6=some [D.v (.int .i64 q.price),D.v (.int .i64 q.qty),D.v (.int .i64 q.a.inst),D.v (.int .i64 q.a.side),D.v (.int .i64 q.b.inst),D.v (.int .i64 q.b.side)]:=elA h (by simp[zH]) rfl
theorem yJd (i:RunI) (h:stuckC.cnd i):z7l i:=by
 have h':i.ok:=h
 obtain⟨hR,hB,⟨h0,h1⟩,hq1,hq2⟩:=h'
 have hwf:=hR.wf hB
 obtain⟨k1,k2,k3⟩:=cR (inst:=i.inst) (sd:=i.sd) (price:=i.price) _ i.q i.B (yPy _) hwf
 have hcl:=xR i.p
 unfold z7l tE xQ vW wJ qZ vT uA qU u0 dI
 refine⟨i.s,rfl,hR.small hB,fun _ _=>⟨i,rfl,rfl,rfl,rfl,rfl,h,fun o ho=> ?_⟩⟩
 have er:i.r=kP i.p i.B i.inst i.sd i.price i.q:=rfl
 have es:fW i.p i.B i.inst i.sd i.price i.q=(decide ((kP i.p i.B i.inst i.sd i.price i.q).left≠0) && (x5 ⟨i.p,(kP i.p i.B i.inst i.sd i.price i.q).B.map kB,i.inst⟩ (zC (!i.sd))).any fun x=>gY i.sd i.price x.price):=rfl
 rw[er]at ho ⊢
 rw[es]
 generalize kP i.p i.B i.inst i.sd i.price i.q=R at*
 obtain⟨ts,lf,RB⟩:=R
 dsimp only at*
 refine Cv.cnd.mk (fun e=>⟨(),?_,rfl,trivial⟩) (fun e=> ?_)
 ·have e:lf=0:=by simpa using e
  rw[e];rfl
 have e:lf≠0:=by simpa using e
 rw[yPn e,yRr]
 have ep:=ho.ep
 have hB':=k1.ok
 have hbl:=hB'.bl
 have hcnt:o.cntOk:=ho.cnt (by omega)
 have hps:o.p.small:=by rw[ep];exact hB'.ps
 have hto:jN (RB.map kB):=hB'.tops
 have hle:=eJ ⟨o.p,RB.map kB,i.inst⟩ (zC (!i.sd))
 refine⟨o,rfl,rfl,rfl,rfl,rfl,rfl,rfl,rfl,rfl,rfl,rfl,rfl,rfl,hcnt,fun _ _=>⟨⟨rfl,trivial,rfl,rfl,rfl,rfl,rfl,rfl,rfl,rfl,trivial,trivial⟩,i.sd,rfl,trivial,fun _ _=>⟨⟨rfl,trivial,rfl,rfl,rfl,rfl,rfl,rfl,rfl,rfl,trivial,trivial⟩,⟨⟨o.p,RB.map kB,i.inst⟩,!i.sd⟩,rfl,rfl,rfl,rfl,rfl,rfl,rfl,rfl,rfl,rfl,rfl,by rw[ho.tops],rfl,rfl,⟨hps,hto⟩,fun _ _=> ?_⟩⟩⟩
 dsimp only
 rw[← ep]
 generalize x5 ⟨o.p,RB.map kB,i.inst⟩ (zC (!i.sd))=Q at*
 have e4:(Q.map zH).length=Q.length:=yOs ..
 refine⟨0,rfl,fun j=>j≤Q.length∧(Q.take j).any (fun x=>gY i.sd i.price x.price)=false,fun j=>Q.length-j,⟨yQn _,rfl⟩,?_⟩
 rintro j ⟨j1,j2⟩
 refine zI (fun c=> ?_) (fun c=>⟨(),?_,rfl,trivial⟩)
 ·obtain⟨q,hq⟩:=z8 (l:=Q) (i:=j) (by omega)
  refine⟨⟨by omega,by omega⟩,_,_,_,_,_,_,yBl hq,⟨i.sd,i.price,q.price⟩,rfl,rfl,rfl,trivial,fun _ _=>Cv.cnd.mk (fun g=>⟨(),?_,rfl,trivial⟩) (fun g=>⟨j+1,wjn (by omega),⟨by omega,?_⟩,by dsimp only;omega,by(repeat'(first|exact trivial|exact rfl|apply And.intro))⟩)⟩
  ·rw[List.any_eq_true];exact⟨q,yPe hq,g⟩
  ·rw[yQb,hq,List.any_append,j2]
   show(false||([q].any fun x=>gY i.sd i.price x.price))=false
   simp only[List.any_cons,List.any_nil,Bool.or_false,Bool.false_or]
   exact g
 ·have:j=Q.length:=by omega
  rw[this,yPf (yPy _)]at j2
  exact j2
theorem zQn:stuckC.ok Tryz.prog 111:=okw mixed (gokc eI (gokc zUe (gokc zSe (gokc z2y (gokc zKk (gokc zPe gok0)))))) 0 (fun _=>yHz) (fun _=>yGn) [] Tryz.func111 yJd
open Go Cv Go.Proofs
def aS (c:Cmd) (why:Int):List Rep:=[⟨2,c.id,0,0,0,0,0,why⟩]
def ofF (x:kT) (k:Int):Int:=match x.fills.find? fun f=>decide (f.inst=k)with
 |some f=>f.price
 |none=>x.price
def kX (p:Prd) (inst:Int) (x:kT):Int×Int:=if x.implied=false then((uC p inst x.price).1,(uC p inst x.price).2.1)else(ofF x (p.legs inst).1,ofF x (p.legs inst).2.1)
def zEe (p:Prd) (r:Rep) (near far:Int):List Rep:=[{r with inst:=(p.legs r.inst).1,price:=near},{r with inst:=(p.legs r.inst).2.1,side:=3-r.side,price:=far}]
def mU (p:Prd) (x:kT) (r:Rep):List Rep:=r::if(p.legs r.inst).2.2=true then zEe p r (kX p r.inst x).1 (kX p r.inst x).2 else[]
def lH (f:gV):Rep:=⟨3,f.id,f.inst,f.side,f.price,f.qty,f.left,0⟩
def bK (p:Prd) (c:Cmd) (x:kT) (left:Int):List Rep:=x.fills.flatMap (fun f=>mU p x (lH f))++mU p x ⟨3,c.id,c.inst,c.side,x.price,x.qty,left,0⟩
def aZ (p:Prd) (c:Cmd):List kT→Int→List Rep
 |[],_=>[]
 |x::l,left=>bK p c x (left-x.qty)++aZ p c l (left-x.qty)
structure MkX where
 B:List (List zG)
 U:List Int
 R:List Rep
def zIu (U:List Int) (id:Int):List Int:=if id∈U then U else U++[id]
def cJ (p:Prd) (B:List (List zG)) (U:List Int) (c:Cmd):MkX:=match kP p B c.inst (decide (c.side=2)) c.price c.qty with
 |⟨ts,left,B'⟩=>⟨if left≠0∧c.time=1 then(zVd p B' c.inst c.id c.side c.price left).1 else B',zIu U c.id,
  (⟨1,c.id,c.inst,c.side,c.price,c.qty,c.qty,0⟩::aZ p c ts c.qty)++if left≠0∧c.time≠1 then[⟨4,c.id,c.inst,c.side,c.price,left,0,0⟩]else[]⟩
def Cmd.lst (c:Cmd):Int:=if c.time=3 then c.qty else c.least
def nW (p:Prd) (B:List (List zG)) (U:List Int) (c:Cmd):MkX:=
 if p.price c.inst c.price≠0 then⟨B,U,aS c (p.price c.inst c.price)⟩
 else if c.id∈U then⟨B,U,aS c 25⟩
 else if 250≤zNx B then⟨B,U,aS c 13⟩
 else if 0<c.lst∧c.qty-(kP p B c.inst (decide (c.side=2)) c.price c.qty).left<c.lst then⟨B,U,aS c 28⟩
 else if c.time=1∧fW p B c.inst (decide (c.side=2)) c.price c.qty=true then⟨B,U,aS c 23⟩
 else cJ p B U c
def cH (B:List (List zG)) (U:List Int) (id inst:Int) (o:zG):MkX:=⟨(qC B id o.qty).1,U,[⟨4,id,inst,o.side,o.price,o.qty,0,0⟩]⟩
def lN (B:List (List zG)) (U:List Int) (id q inst:Int) (o:zG):MkX:=⟨(qC B id q).1,U,[⟨5,id,inst,o.side,o.price,q,o.qty-q,0⟩]⟩
def dK (p:Prd) (B:List (List zG)) (U:List Int) (c:Cmd) (inst:Int) (o:zG):MkX:=
 if p.price inst c.price≠0 then⟨B,U,aS c (p.price inst c.price)⟩
 else if c.price=o.price∧c.qty≤o.qty then lN B U c.id (o.qty-c.qty) inst o
 else if fW p (qC B c.id o.qty).1 inst (decide (o.side=2)) c.price c.qty=true then⟨B,U,aS c 23⟩
 else
  let x:=cH B U c.id inst o
  let y:=cJ p x.B U ⟨1,c.id,inst,o.side,c.price,c.qty,0,1,[]⟩
  ⟨y.B,y.U,x.R++y.R⟩
def doF (p:Prd) (B:List (List zG)) (U:List Int) (c:Cmd):MkX:=
 if c.right≠0 then⟨B,U,aS c c.right⟩
 else if c.kind=1 then nW p B U c
 else if(z9 B c.id).2.2=false then⟨B,U,aS c 26⟩
 else if c.kind=4 then dK p B U c (z9 B c.id).1 (z9 B c.id).2.1
 else if c.kind=2∨(z9 B c.id).2.1.qty≤c.qty then cH B U c.id (z9 B c.id).1 (z9 B c.id).2.1
 else lN B U c.id c.qty (z9 B c.id).1 (z9 B c.id).2.1
structure Mkt.Rep (m:Mkt) (p:Prd) (B:List (List zG)) (U:List Int):Prop where
 ep:m.p=p
 s:m.s.Rep p B
 u:m.used=U
@[reducible] def eT (m:Mkt):List AObj:=[yR m 0,yR m 1,yR m 2,yR m 3,yR m 4]
@[reducible] def yDf (x:kT):V:= .agg [zA x.price,zA x.qty,yB x.implied,roV 6 (x.fills.map yL)]
@[reducible] def tRp:Nat:=40
@[reducible] def zUp (l:List Rep):AObj:= .own tRp 8 (l.map xL)
structure RjI where
 c:Cmd
 why:Int
def rejC:Con:=con1 RjI (fun i=>[zPv i.c,zA i.why]) (fun _=>[]) (fun _=>True) (fun _=> .own 0) (fun i=>[zUp (aS i.c i.why)])
structure MsI where
 m:Mkt
 r:Rep
 near:Int
 far:Int
@[reducible] def Mkt.fine (m:Mkt):Prop:=m.p.check=0∧m.p.small
def mspreadC:Con:=con1 MsI (fun i=>[.nm 0 0,yNm i.r,zA i.near,zA i.far]) (fun i=>eT i.m) (fun i=>i.m.fine∧(i.r.side=1∨i.r.side=2)) (fun _=> .own 5) (fun i=>eT i.m++[zUp (zEe i.m.p i.r i.near i.far)])
structure MiN where
 m:Mkt
 inst:Int
def misC:Con:=con1 MiN (fun i=>[.nm 0 0,zA i.inst]) (fun i=>eT i.m) (fun i=>i.m.fine) (fun i=>yB (i.m.p.legs i.inst).2.2) (fun i=>eT i.m)
structure OfI where
 x:kT
 k:Int
@[reducible] def zRg (x:kT) (n:Nat):List AObj:=[.cells [zA x.price,zA x.qty,yB x.implied,.own n] 260,.fro 6 (x.fills.map yL)]
def ofC:Con:=con1 OfI (fun i=>[zA i.k,.nm 0 0]) (fun i=>zRg i.x 1) (fun i=>i.x.fills.length≤1000000) (fun i=>zA (ofF i.x i.k)) (fun i=>zRg i.x 1)
def ofA:List SAnn:=[{ι:=Nat,slots:=fun j=>[(9,zA j)],rows:=fun _=>[]}]
structure MpI where
 m:Mkt
 inst:Int
 x:kT
def mpricesC:Con:=con1 MpI (fun i=>[.nm 0 0,zA i.inst,yDf i.x]) (fun i=>eT i.m) (fun i=>i.m.fine∧i64r i.x.price∧i.x.fills.length≤1000000) (fun i=> .tup [zA (kX i.m.p i.inst i.x).1,zA (kX i.m.p i.inst i.x).2]) (fun i=>eT i.m)
structure StI' where
 m:Mkt
 c:Cmd
 x:kT
 left:Int
def StI'.out (i:StI') (j:Nat):List Rep:=(i.x.fills.take j).flatMap fun f=>mU i.m.p i.x (lH f)
def mstepC:Con:=con1 StI' (fun i=>[.nm 0 0,zPv i.c,yDf i.x,zA i.left]) (fun i=>eT i.m) (fun i=>i.m.fine∧i64r i.x.price∧i.x.fills.length≤1000000∧(i.c.side=1∨i.c.side=2)∧∀f∈i.x.fills,f.side=1∨f.side=2) (fun _=> .own 5) (fun i=>eT i.m++[zUp (bK i.m.p i.c i.x i.left)])
def yIa (i:StI'):List SAnn:=[{ι:=Nat,slots:=fun j=>[(9,.nm 0 0),(17,zA j)],rows:=fun j=>[.cells [.own 1] 61,zUp (i.out j)]}]
end Sx
