/- Texts of ours, one behind the other: a walk that the kernel reckons, and contracts of functions. No condition. -/
import Derived.Test.YthkofaanekmpmaaGreatU7
namespace Sx
set_option linter.unusedVariables false
set_option maxRecDepth 100000
open Go Cv Go.Proofs
def zCt (a:Nat→Prop) (b:Nat) (c:Nat→Nat) (d:Nat) (e:BkL) (f:ArN):Prop:=a b∧c b<c d∧Sx.AObj.cells (gX (jG 0 1 6) [V.nm 1 0,V.own 2,V.own 3,V.mp 4,zA e.b.top1,zA e.b.top2,V.own 5,yF e.b.has1,yF e.b.has2]) (299:TypeId)=Sx.AObj.cells (gX (jG 0 1 6) [V.nm 1 0,V.own 2,V.own 3,V.mp 4,zA e.b.top1,zA e.b.top2,V.own 5,yF e.b.has1,yF e.b.has2]) (299:TypeId)∧AObj.adt Arena 3 zF f.a=AObj.adt Arena 3 zF e.b.a∧AObj.own 304 2 (List.map zB e.b.buys)=AObj.own 304 2 (List.map zB e.b.buys)∧AObj.own 304 2 (List.map zB e.b.sells)=AObj.own 304 2 (List.map zB e.b.sells)∧Sx.AObj.map (atE e.b.at_)=Sx.AObj.map (atE e.b.at_)∧AObj.own 3 1 (iE e.b.spare)=AObj.own 3 1 (iE e.b.spare)
def cB (a:Nat) (b:BkL):=(List.take a (uM b.L (zC false)))
def yJe (i:BkL):Prop:=
 ∃(a:Int),a=zC false∧True∧∀(b:Unit),True→cnd (qQ a) (∃(c:Unit),i.b.top1=i.b.top1∧i.b.top2=i.b.top2∧i.b.has1=i.b.has1∧i.b.has2=i.b.has2∧AObj.adt Arena 3 zF i.b.a=AObj.adt Arena 3 zF i.b.a∧List.map zB i.b.buys=List.map zB i.b.buys∧List.map zB i.b.sells=List.map zB i.b.sells∧atE i.b.at_=atE i.b.at_∧iE i.b.spare=iE i.b.spare∧List.map lvE (uM i.L (zC false))=[]∧True) (∃(c:Nat),(↑c:Int)=0∧List.map lvE (cB c i)=[]∧∃(d:Nat→Prop),∃(e:Nat→Nat),d c∧∀(f:Nat),d f→cnd (decide ((↑f:Int)<(↑(List.map zB i.b.buys).length:Int))) ((0≤(↑f:Int)∧(↑f:Int)<(↑(List.map zB i.b.buys).length:Int))∧∃(g:Int),∃(h:Int),zE (List.map zB i.b.buys) (↑f:Int).toNat 0 2=some [dI g,dI h]∧∃(j:ArN),j.n=h∧AObj.adt Arena 3 zF j.a=AObj.adt Arena 3 zF i.b.a∧True∧∀(k:Unit),True→h=h∧True∧g=g∧∃(l:ArN),l.n=h∧AObj.adt Arena 3 zF l.a=AObj.adt Arena 3 zF j.a∧True∧∀(m:Unit),True→g=g∧((List.map lvE (cB f i)).length+1)*(24:Nat)≤(140737488355328:Nat)∧∃(n:Nat),(↑n:Int)=IntKind.i64.wrap ((↑f:Int)+1)∧List.map lvE (cB n i)=List.map lvE (cB f i)++[[dI g,dI ((j.a.qAt j.n).total),dI ((l.a.qAt l.n).count)]]∧zCt d n e f i l) (∃(g:Unit),i.b.top1=i.b.top1∧i.b.top2=i.b.top2∧i.b.has1=i.b.has1∧i.b.has2=i.b.has2∧AObj.adt Arena 3 zF i.b.a=AObj.adt Arena 3 zF i.b.a∧List.map zB i.b.buys=List.map zB i.b.buys∧List.map zB i.b.sells=List.map zB i.b.sells∧atE i.b.at_=atE i.b.at_∧iE i.b.spare=iE i.b.spare∧List.map lvE (uM i.L (zC false))=List.map lvE (cB f i)∧True))
def cE (a:Nat) (b:BkL):=(List.take a (uM b.L (zC true)))
def yJc (i:BkL):Prop:=
 ∃(a:Int),a=zC true∧True∧∀(b:Unit),True→cnd (qQ a) (∃(c:Unit),i.b.top1=i.b.top1∧i.b.top2=i.b.top2∧i.b.has1=i.b.has1∧i.b.has2=i.b.has2∧AObj.adt Arena 3 zF i.b.a=AObj.adt Arena 3 zF i.b.a∧List.map zB i.b.buys=List.map zB i.b.buys∧List.map zB i.b.sells=List.map zB i.b.sells∧atE i.b.at_=atE i.b.at_∧iE i.b.spare=iE i.b.spare∧List.map lvE (uM i.L (zC true))=[]∧True) (∃(c:Nat),(↑c:Int)=0∧List.map lvE (cE c i)=[]∧∃(d:Nat→Prop),∃(e:Nat→Nat),d c∧∀(f:Nat),d f→cnd (decide ((↑f:Int)<(↑(List.map zB i.b.sells).length:Int))) ((0≤(↑f:Int)∧(↑f:Int)<(↑(List.map zB i.b.sells).length:Int))∧∃(g:Int),∃(h:Int),zE (List.map zB i.b.sells) (↑f:Int).toNat 0 2=some [dI g,dI h]∧∃(j:ArN),j.n=h∧AObj.adt Arena 3 zF j.a=AObj.adt Arena 3 zF i.b.a∧True∧∀(k:Unit),True→h=h∧True∧g=g∧∃(l:ArN),l.n=h∧AObj.adt Arena 3 zF l.a=AObj.adt Arena 3 zF j.a∧True∧∀(m:Unit),True→g=g∧((List.map lvE (cE f i)).length+1)*(24:Nat)≤(140737488355328:Nat)∧∃(n:Nat),(↑n:Int)=IntKind.i64.wrap ((↑f:Int)+1)∧List.map lvE (cE n i)=List.map lvE (cE f i)++[[dI g,dI ((j.a.qAt j.n).total),dI ((l.a.qAt l.n).count)]]∧zCt d n e f i l) (∃(g:Unit),i.b.top1=i.b.top1∧i.b.top2=i.b.top2∧i.b.has1=i.b.has1∧i.b.has2=i.b.has2∧AObj.adt Arena 3 zF i.b.a=AObj.adt Arena 3 zF i.b.a∧List.map zB i.b.buys=List.map zB i.b.buys∧List.map zB i.b.sells=List.map zB i.b.sells∧atE i.b.at_=atE i.b.at_∧iE i.b.spare=iE i.b.spare∧List.map lvE (uM i.L (zC true))=List.map lvE (cE f i)∧True))
def tF (a:Nat×Top→Prop) (b:Nat×Top) (c:MSt) (d:Nat) (e:Book):Prop:=a b∧AObj.own 3 1 [[dI 1],[dI 2]]=AObj.own 3 1 [[dI 1],[dI 2]]∧xL c 0=xL c 0∧AObj.objs 241 Book 6 zQ (c.books.set (↑d:Int).toNat e) none=xL c 1∧xL c 2=xL c 2∧xL c 3=xL c 3∧xL c 4=xL c 4
def zEy (a:MSt) (b:Nat×Top) (c:Nat×Top→Prop) (d:Nat) (e:Book):Prop:=∃(f:Nat×Top),List.map zX (xN a f.fst f.snd)=List.map zX (xN a b.fst b.snd)∧tF c f a d e
def yCz (s:MSt):Prop:=
 (eY s)∧∃(a:Nat),(↑a:Int)=0∧List.map zX (xU s a)=List.replicate (↑s.books.length:Int).toNat [D.v (.bool false),D.v (.bool false),dI 0,dI 0,dI 0,dI 0]∧∃(b:Nat→Prop),∃(c:Nat→Nat),b a∧∀(d:Nat),b d→cnd (decide ((↑d:Int)<(↑s.books.length:Int))) ((0≤(↑d:Int)∧(↑d:Int)<(↑s.books.length:Int))∧(↑d:Int).toNat<s.books.length∧∃(e:Nat×Top),List.map zX (xN s e.fst e.snd)=List.map zX (xU s d)∧∃(f:Nat×Top→Prop),(((0:Int)≤(0:Int)∧0<(↑(2:Nat):Int))∧∃(g:Int),zE [[dI 1],[dI 2]] (Int.toNat 0) 0 1=some [dI g]∧∃(h:Book),s.books[(↑d:Int).toNat]?=some h∧∃(j:BkS),zC j.side=g∧z5 j.b=z5 h∧(wU j)∧∀(k:Unit),True→∃(l:Book),z5 j.b=z5 l∧(↑d:Int).toNat=(↑d:Int).toNat∧(↑d:Int).toNat<s.books.length∧cnd (zU j).snd ((qN d s e)∧(qN d s e)∧(qN d s e)∧(↑d:Int).toNat<(vS s e).length∧(cI d s e)∧(cI d s e)∧(zU j).fst.qty=(zU j).fst.qty∧(zU j).fst.price=(zU j).fst.price∧(↑d:Int).toNat<(cH s e d).length∧(eB d s e j)∧(zU j).fst.qty=(zU j).fst.qty∧(↑d:Int).toNat<(fK s e d j).length∧∃(m:Nat×Top),List.map zX (xN s m.fst m.snd)=zT (fK s e d j) (↑d:Int).toNat ((0:Nat)+(4:Nat)+nat_lit 0*1) [dI (vW j)]∧tF f m s d l) (zEy s e f d l))∧∀(g:Nat×Top),f g→∃(h:Nat×Top),List.map zX (xN s h.fst h.snd)=List.map zX (xN s g.fst g.snd)∧∃(j:Nat×Top→Prop),((cC)∧∃(k:Int),zE [[dI 1],[dI 2]] (IntKind.i64.wrap ((0:Int)+(1:Int))).toNat 0 1=some [dI k]∧∃(l:Book),s.books[(↑d:Int).toNat]?=some l∧∃(m:BkS),zC m.side=k∧z5 m.b=z5 l∧(wU m)∧∀(n:Unit),True→∃(p:Book),z5 m.b=z5 p∧(↑d:Int).toNat=(↑d:Int).toNat∧(↑d:Int).toNat<s.books.length∧cnd (zU m).snd ((qN d s h)∧(qN d s h)∧(qN d s h)∧(↑d:Int).toNat<(vS s h).length∧(cL d s h)∧(cL d s h)∧(zU m).fst.qty=(zU m).fst.qty∧(zU m).fst.price=(zU m).fst.price∧(↑d:Int).toNat<(cN s h d).length∧(zCf d s h m)∧(zU m).fst.qty=(zU m).fst.qty∧(↑d:Int).toNat<(fH s h d m).length∧∃(q:Nat×Top),List.map zX (xN s q.fst q.snd)=zT (fH s h d m) (↑d:Int).toNat ((0:Nat)+(4:Nat)+(nat_lit 0+nat_lit 1) % ((2:Int) ^ IntKind.i64.bits).natAbs*1) [dI (vW m)]∧tF j q s d p) (zEy s h j d p))∧∀(k:Nat×Top),j k→∃(l:Nat),(↑l:Int)=IntKind.i64.wrap ((↑d:Int)+1)∧List.map zX (xU s l)=List.map zX (xN s k.fst k.snd)∧b l∧c l<c d∧xL s 0=xL s 0∧xL s 1=xL s 1∧xL s 2=xL s 2∧xL s 3=xL s 3∧xL s 4=xL s 4) (∃(e:Unit),sb s.p.code=sb s.p.code∧s.p.tick=s.p.tick∧s.p.low=s.p.low∧s.p.high=s.p.high∧s.p.wide=s.p.wide∧s.p.rule=s.p.rule∧s.p.top=s.p.top∧s.p.least=s.p.least∧s.p.part=s.p.part∧AObj.objs 241 Book 6 zQ s.books none=xL s 1∧yW s.wh=yW s.wh∧AObj.fro 1 (iE s.p.months)=xL s 3∧AObj.fro 1 (iE s.p.settle)=xL s 4∧List.map zX s.tops=List.map zX (xU s d)∧True)
def lQ (a:MSt) (b:StI):Prop:=AObj.fro 1 (iE a.p.months)=AObj.fro 1 (iE b.s.p.months)∧AObj.fro 1 (iE a.p.settle)=AObj.fro 1 (iE b.s.p.settle)∧a.Rep b.p (kE b.B b.id b.q).fst
def zAh (a:MSt) (b:StI):Prop:=yW a.wh=yW b.s.wh∧lQ a b
def pH (a:StI) (b:Int) (c:Bool):Prop:=vT (Value.int IntKind.i64 a.id) (yW a.s.wh)=some [dI b]∧c=true∨vT (Value.int IntKind.i64 a.id) (yW a.s.wh)=none∧[dI b]=[dI 0]∧c=false
def bP (a:StI):Prop:=∀(b:Value×List D),b∈yW a.s.wh→like (Value.int IntKind.i64 a.id) b.fst=true
def yDf (i:StI):Prop:=
 (bP i)∧∃(a:Bool),∃(b:Int),(pH i b a)∧cnd (!a) (∃(c:MSt),(kE i.B i.id i.q).snd=26∧sb c.p.code=sb i.s.p.code∧c.p.tick=i.s.p.tick∧c.p.low=i.s.p.low∧c.p.high=i.s.p.high∧c.p.wide=i.s.p.wide∧c.p.rule=i.s.p.rule∧c.p.top=i.s.p.top∧c.p.least=i.s.p.least∧c.p.part=i.s.p.part∧AObj.objs 241 Book 6 zQ c.books none=AObj.objs 241 Book 6 zQ i.s.books none∧zAh c i) ((0≤b∧b<(↑i.s.books.length:Int))∧b.toNat<i.s.books.length∧∃(c:Book),i.s.books[b.toNat]?=some c∧∃(d:FlI),d.id=i.id∧d.qty=i.q∧z5 d.b=z5 c∧d.b.Rep d.L∧∀(e:Book),e.Rep (xY d.L d.id d.qty).fst→∃(f:Book),z5 e=z5 f∧b.toNat=b.toNat∧b.toNat<i.s.books.length∧(0≤b∧b<(↑(i.s.books.set b.toNat f).length:Int))∧b.toNat<(i.s.books.set b.toNat f).length∧∃(g:Book),(i.s.books.set b.toNat f)[b.toNat]?=some g∧∃(h:FlI),h.id=i.id∧z5 h.b=z5 g∧h.b.Rep h.L∧∀(j:Unit),True→∃(k:Book),z5 h.b=z5 k∧b.toNat=b.toNat∧b.toNat<(i.s.books.set b.toNat f).length∧cnd (!wC h.L h.id) ((bP i)∧∃(l:MSt),(kE i.B i.id i.q).snd=(xY d.L d.id d.qty).snd∧sb l.p.code=sb i.s.p.code∧l.p.tick=i.s.p.tick∧l.p.low=i.s.p.low∧l.p.high=i.s.p.high∧l.p.wide=i.s.p.wide∧l.p.rule=i.s.p.rule∧l.p.top=i.s.p.top∧l.p.least=i.s.p.least∧l.p.part=i.s.p.part∧AObj.objs 241 Book 6 zQ l.books none=AObj.objs 241 Book 6 zQ ((i.s.books.set b.toNat f).set b.toNat k) none∧yW l.wh=eZ (Value.int IntKind.i64 i.id) (yW i.s.wh)∧lQ l i) (∃(l:MSt),(kE i.B i.id i.q).snd=(xY d.L d.id d.qty).snd∧sb l.p.code=sb i.s.p.code∧l.p.tick=i.s.p.tick∧l.p.low=i.s.p.low∧l.p.high=i.s.p.high∧l.p.wide=i.s.p.wide∧l.p.rule=i.s.p.rule∧l.p.top=i.s.p.top∧l.p.least=i.s.p.least∧l.p.part=i.s.p.part∧AObj.objs 241 Book 6 zQ l.books none=AObj.objs 241 Book 6 zQ ((i.s.books.set b.toNat f).set b.toNat k) none∧zAh l i))
set_option linter.unusedSimpArgs false
open Go Cv Go.Proofs
theorem yUd (i:BkL) (h:lad1C.cnd i):yJe i:=by
 obtain⟨Q,c,ht,hL⟩:i.b.Rep i.L:=h
 have hsm:=c.small
 obtain⟨⟨ha1,ha2⟩,hb1,hb2,hsp⟩:=id hsm
 have hlad:=c.lad (.inl rfl)
 rw[← hL]at hlad
 have hlad:uM i.L (zC false)=i.b.buys.map i.b.told:=hlad
 unfold yJe zCt cB qQ dI
 simp only[hlad,yWk]
 refine⟨1,rfl,trivial,fun _ _=>Cv.cnd.mk (fun e=>absurd e (by decide)) fun _=>⟨0,by(first|exact rfl|exact trivial),by(first|exact rfl|exact trivial),fun j=>j≤i.b.buys.length,fun j=>i.b.buys.length-j,yYh _,fun j hj=>zI (fun e=> ?_) (fun e=> ?_)⟩⟩
 ·obtain⟨r,hr⟩:=yD (l:=i.b.buys) (i:=j) (by omega)
  have hi:=c.cnt
  refine⟨⟨by omega,by omega⟩,r.price,r.queue,elA hr (by simp[zB]) rfl,⟨i.b.a,r.queue⟩,by(first|exact rfl|exact trivial),by(first|exact rfl|exact trivial),trivial,fun _ _=>⟨by(first|exact rfl|exact trivial),by(first|exact rfl|exact trivial),by(first|exact rfl|exact trivial),⟨i.b.a,r.queue⟩,by(first|exact rfl|exact trivial),by(first|exact rfl|exact trivial),by(first|exact rfl|exact trivial),fun _ _=>⟨by(first|exact rfl|exact trivial),by simp only[yXd,yWk];omega,j+1,wjn (by omega),?_,by omega,by dsimp only;omega,k0q⟩⟩⟩
  have hrt:(i.b.buys.map i.b.told)[j]? =some (i.b.told r):=by rw[yXr,hr];rfl
  rw[yXt,hrt];simp[lvE,Book.told]
 ·rw[yWu (by rw[yWk];omega)]
  exact⟨(),k0q⟩
theorem yHo:lad1C.ok Tryz.prog 158:=okw mixed (gokc rQ (gokc zFn (gokc mD gok0))) 1 (fun _=>[]) (fun i=>yTi false i) [0] Tryz.func158 yUd
theorem ySc (i:BkL) (h:lad2C.cnd i):yJc i:=by
 obtain⟨Q,c,ht,hL⟩:i.b.Rep i.L:=h
 have hsm:=c.small
 obtain⟨⟨ha1,ha2⟩,hb1,hb2,hsp⟩:=id hsm
 have hlad:=c.lad (.inr rfl)
 rw[← hL]at hlad
 have hlad:uM i.L (zC true)=i.b.sells.map i.b.told:=hlad
 unfold yJc cE zCt qQ dI
 simp only[hlad,yWk]
 refine⟨2,rfl,trivial,fun _ _=>Cv.cnd.mk (fun e=>absurd e (by decide)) fun _=>⟨0,by(first|exact rfl|exact trivial),by(first|exact rfl|exact trivial),fun j=>j≤i.b.sells.length,fun j=>i.b.sells.length-j,yYh _,fun j hj=>zI (fun e=> ?_) (fun e=> ?_)⟩⟩
 ·obtain⟨r,hr⟩:=yD (l:=i.b.sells) (i:=j) (by omega)
  have hi:=c.cnt
  refine⟨⟨by omega,by omega⟩,r.price,r.queue,elA hr (by simp[zB]) rfl,⟨i.b.a,r.queue⟩,by(first|exact rfl|exact trivial),by(first|exact rfl|exact trivial),trivial,fun _ _=>⟨by(first|exact rfl|exact trivial),by(first|exact rfl|exact trivial),by(first|exact rfl|exact trivial),⟨i.b.a,r.queue⟩,by(first|exact rfl|exact trivial),by(first|exact rfl|exact trivial),by(first|exact rfl|exact trivial),fun _ _=>⟨by(first|exact rfl|exact trivial),by simp only[yXd,yWk];omega,j+1,wjn (by omega),?_,by omega,by dsimp only;omega,k0q⟩⟩⟩
  have hrt:(i.b.sells.map i.b.told)[j]? =some (i.b.told r):=by rw[yXr,hr];rfl
  rw[yXt,hrt];simp[lvE,Book.told]
 ·rw[yWu (by rw[yWk];omega)]
  exact⟨(),k0q⟩
theorem yGf:lad2C.ok Tryz.prog 158:=okw mixed (gokc rQ (gokc zFn (gokc mD gok0))) 1 (fun _=>[]) (fun i=>yTi true i) [0] Tryz.func158 ySc
theorem yQa:ladC.ok Tryz.prog 158:=fun j=>match j with
 |⟨b,L,false⟩=>yHo ⟨b,L⟩
 |⟨b,L,true⟩=>yGf ⟨b,L⟩
theorem yMy (s:MSt) (h:topsOC.cnd s):yCz s:=by
 obtain⟨h1,h2⟩:s.cntOk:=h
 unfold yCz zCf vW qN wU cC eY cI cL eB fK cH fH fC zU cN vS zEy tF dI
 have p48:(2:Int) ^ (48:Nat)=281474976710656:=by decide
 refine⟨⟨by omega,by omega,by omega,by rw[p48];omega⟩,0,rfl,?_,fun j=>j≤s.books.length,fun j=>s.books.length-j,by omega,fun j hj=>zI (fun hlt=> ?_) (fun hlt=> ?_)⟩
 ·rw[xU,yWv,List.map_replicate];rfl
 ·have hj':j<s.books.length:=by omega
  obtain⟨b,hb⟩:=yD hj'
  have hc:=h2 b (yWt hb)
  simp only[yXa]
  have ha:∀x,(List.map zX (xN s j x)).length=s.books.length:=fun x=>by rw[yWk,zLi hj']
  have w1:IntKind.i64.wrap (0+1)=1:=by decide
  have w2:(0+1) % ((2:Int) ^ IntKind.i64.bits).natAbs=1:=by decide
  refine⟨⟨by omega,by omega⟩,by omega,(j,top0),by rw[zFt hj'],fun x=>x=(j,top0.buy (b.best b.buys)),⟨⟨by decide,by decide⟩,1,rfl,b,hb,⟨false,b⟩,rfl,rfl,hc,fun _ _=>⟨b,rfl,kp,by omega,?_⟩⟩,?_⟩
  ·refine Cv.cnd.mk (fun c=> ?_) (fun c=> ?_)
   ·have c:(b.best b.buys).2=true:=c
    have e1:=qR (s:=s) hj' (x:=top0) (y:={top0 with has1:=true}) (f:=0+0+0*1) (ds:=[D.v (.bool true)]) rfl
    have e2:=qR (s:=s) hj' (x:={top0 with has1:=true}) (y:={top0 with has1:=true,p1:=(b.best b.buys).1.price}) (f:=0+2+0*1) (ds:=[D.v (.int .i64 (b.best b.buys).1.price)]) rfl
    have e3:=qR (s:=s) hj' (x:={top0 with has1:=true,p1:=(b.best b.buys).1.price}) (y:={top0 with has1:=true,p1:=(b.best b.buys).1.price,q1:=(b.best b.buys).1.qty}) (f:=0+4+0*1) (ds:=[D.v (.int .i64 (b.best b.buys).1.qty)]) rfl
    dsimp only
    simp only[show b.side false=b.buys from rfl,e1,e2,e3,ha]
    (repeat'(first|exact rfl|exact trivial|assumption|apply And.intro|refine fun(_:Unit) (_:True)=>?_|refine Exists.intro () ?_|omega|(dsimp only;omega)))
    refine⟨(j,{top0 with has1:=true,p1:=(b.best b.buys).1.price,q1:=(b.best b.buys).1.qty}),rfl,?_,?_⟩
    ·rw[Top.buy,yWl c]
    ·(repeat'(first|exact rfl|exact trivial|assumption|apply And.intro|refine fun(_:Unit) (_:True)=>?_|refine Exists.intro () ?_|omega|(dsimp only;omega)))
     rw[gM hb];rfl
   ·have c:(b.best b.buys).2=false:=c
    refine⟨(j,top0),rfl,?_,?_⟩
    ·rw[Top.buy,yWj (by rw[c];simp)]
    ·(repeat'(first|exact rfl|exact trivial|assumption|apply And.intro|refine fun(_:Unit) (_:True)=>?_|refine Exists.intro () ?_|omega|(dsimp only;omega)))
     rw[gM hb];rfl
  ·rintro _ rfl
   rw[w1]
   generalize hx:top0.buy (b.best b.buys)=x
   have hx2:b.top=x.sell (b.best b.sells):=by rw[Book.top,hx]
   refine⟨(j,x),rfl,fun y=>y=(j,b.top),⟨⟨by decide,by decide⟩,2,rfl,b,hb,⟨true,b⟩,rfl,rfl,hc,fun _ _=>⟨b,rfl,kp,by omega,?_⟩⟩,?_⟩
   ·refine Cv.cnd.mk (fun c=> ?_) (fun c=> ?_)
    ·have c:(b.best b.sells).2=true:=c
     have e1:=qR (s:=s) hj' (x:=x) (y:={x with has2:=true}) (f:=0+0+1*1) (ds:=[D.v (.bool true)]) rfl
     have e2:=qR (s:=s) hj' (x:={x with has2:=true}) (y:={x with has2:=true,p2:=(b.best b.sells).1.price}) (f:=0+2+1*1) (ds:=[D.v (.int .i64 (b.best b.sells).1.price)]) rfl
     have e3:=qR (s:=s) hj' (x:={x with has2:=true,p2:=(b.best b.sells).1.price}) (y:={x with has2:=true,p2:=(b.best b.sells).1.price,q2:=(b.best b.sells).1.qty}) (f:=0+4+1*1) (ds:=[D.v (.int .i64 (b.best b.sells).1.qty)]) rfl
     dsimp only
     simp only[w2,show b.side true=b.sells from rfl,e1,e2,e3,ha]
     (repeat'(first|exact rfl|exact trivial|assumption|apply And.intro|refine fun(_:Unit) (_:True)=>?_|refine Exists.intro () ?_|omega|(dsimp only;omega)))
     refine⟨(j,{x with has2:=true,p2:=(b.best b.sells).1.price,q2:=(b.best b.sells).1.qty}),rfl,?_,?_⟩
     ·rw[hx2,Top.sell,yWl c]
     ·(repeat'(first|exact rfl|exact trivial|assumption|apply And.intro|refine fun(_:Unit) (_:True)=>?_|refine Exists.intro () ?_|omega|(dsimp only;omega)))
      rw[gM hb];rfl
    ·have c:(b.best b.sells).2=false:=c
     refine⟨(j,x),rfl,?_,?_⟩
     ·rw[hx2,Top.sell,yWj (by rw[c];simp)]
     ·(repeat'(first|exact rfl|exact trivial|assumption|apply And.intro|refine fun(_:Unit) (_:True)=>?_|refine Exists.intro () ?_|omega|(dsimp only;omega)))
      rw[gM hb];rfl
   ·rintro _ rfl
    refine⟨j+1,by rw[w64 (by omega)];rfl,?_⟩
    refine⟨by dsimp only;rw[zGg hb],?_⟩
    exact kp
 ·have hj:j≤s.books.length:=hj
  obtain rfl:j=s.books.length:=by omega
  have e:xU s s.books.length=s.tops:=by
   rw[xU,y2f,List.replicate_zero,yXi,yWu (by rw[MSt.tops,yWk];omega)]
  rw[e]
  exact kp
theorem zUg:topsOC.ok Tryz.prog 105:=okw mixed (gokc zHc gok0) 0 (fun s=>yKw s) (fun s=>yKe s) [] Tryz.func105 yMy
theorem yMd (i:StI) (h:stakeC.cnd i):yDf i:=by
 obtain⟨hR,hB⟩:i.s.Rep i.p i.B∧i.B.length≤1000:=h
 have hat:=hR.at_ i.id
 unfold yDf bP pH zAh lQ dI
 cases hi:bS i.B i.id with
 |none=>
  rw[hi]at hat
  refine⟨fW _ _,false,0,.inr ⟨by rw[mM,hat];rfl,rfl,rfl⟩,Cv.cnd.mk (fun _=>⟨i.s,?_⟩) (fun e=>absurd e (by decide))⟩
  have ht:kE i.B i.id i.q=(i.B,26):=by rw[kE,hi]
  rw[ht]
  exact⟨rfl,rfl,rfl,rfl,rfl,rfl,rfl,rfl,rfl,rfl,rfl,rfl,rfl,rfl,hR⟩
 |some k=>
  rw[hi]at hat
  obtain⟨L,hL,hh⟩:=uW hi
  have hk:=(yWn.1 hL).1
  obtain⟨b,hb⟩:=yD (l:=i.s.books) (i:=k) (by rw[hR.bl];exact hk)
  have hbR:=hR.bk k b L hb hL
  have hbl:=hR.bl
  have hnd:=hbR.ords.2.1
  refine⟨fW _ _,true,k,.inl ⟨by rw[mM,hat];rfl,rfl⟩,Cv.cnd.mk (fun e=>absurd e (by decide)) (fun _=> ?_)⟩
  rw[yXa]
  refine⟨⟨by omega,by omega⟩,by omega,b,hb,⟨b,L,i.id,i.q⟩,rfl,rfl,rfl,hbR,fun b' hb'=> ?_⟩
  have hT:=hR.take (q:=i.q) hi hL hnd hb'
  have hk2:(kE i.B i.id i.q).2=(xY L i.id i.q).2:=by simp only[kE,hi,zR hL]
  refine⟨b',rfl,rfl,by omega,by rw[yXf];omega,by rw[yXf];omega,b',gW (by omega),⟨b',(xY L i.id i.q).1,i.id,0⟩,rfl,rfl,hb',fun _ _=>⟨b',rfl,rfl,by rw[yXf];omega,Cv.cnd.mk (fun e=>⟨fW _ _,?_⟩) (fun e=> ?_)⟩⟩
  ·have e:wC (xY L i.id i.q).1 i.id=false:=by simpa using e
   rw[e,yWj (by decide)]at hT
   refine⟨{i.s with books:=i.s.books.set k b',wh:=zXx i.id i.s.wh},hk2,rfl,rfl,rfl,rfl,rfl,rfl,rfl,rfl,rfl,?_,(zVx _ _).symm,rfl,rfl,hT⟩
   rw[y0m]
  ·have e:wC (xY L i.id i.q).1 i.id=true:=by simpa using e
   rw[e,yWl rfl]at hT
   refine⟨{i.s with books:=i.s.books.set k b',wh:=i.s.wh},hk2,rfl,rfl,rfl,rfl,rfl,rfl,rfl,rfl,rfl,?_,rfl,rfl,rfl,hT⟩
   rw[y0m]
theorem zDf:stakeC.ok Tryz.prog 171:=okw mixed (gokc yFt (gokc zVl gok0)) 0 (fun _=>[]) (fun _=>[]) [0] Tryz.func171 yMd
open Go Cv Go.Proofs
structure BOk (p:Prd) (B:List (List zH)):Prop where
 pc:p.check=0
 ps:p.small
 bl:B.length=p.count
 pr:∀(k:Nat) (L:List zH),B[k]? =some L→∀o∈L,p.price k o.price=0
def motherC:Con:=con1 Bool (fun b=>[zA (zC b)]) (fun _=>[]) (fun _=>True) (fun b=>zA (zC (!b))) (fun _=>[])
def dP (s:Bool) (p x:Int):Bool:=if s then decide (p≤x)else decide (x≤p)
structure GoI where
 s:Bool
 p:Int
 x:Int
def mgoodC:Con:=con1 GoI (fun i=>[zA (zC i.s),zA i.p,zA i.x]) (fun _=>[]) (fun _=>True) (fun i=>yF (dP i.s i.p i.x)) (fun _=>[])
def yR (p:Prd) (B:List (List zH)) (inst:Int) (s:Int):Quote×Bool×Bool:=
 let bq:=zS (xR ⟨p,B.map qU,inst⟩ s) s
 let l:=bestL (B.getD inst.toNat []) s
 if(l.2 && !(bq.2 && btr s bq.1.price l.1.price))=true then(⟨l.1.price,l.1.qty,⟨0,0⟩,⟨0,0⟩⟩,false,true)else(bq.1,bq.2,bq.2)
structure NxI where
 s:MSt
 p:Prd
 B:List (List zH)
 inst:Int
 sd:Bool
def nextC:Con:=con1 NxI (fun i=>[.nm 0 0,zA i.inst,zA (zC i.sd)]) (fun i=>[zD i.s]) (fun i=>i.s.Rep i.p i.B∧BOk i.p i.B∧0≤i.inst∧i.inst<i.B.length)
 (fun i=> .tup [zPy (yR i.p i.B i.inst (zC i.sd)).1,yF (yR i.p i.B i.inst (zC i.sd)).2.1,yF (yR i.p i.B i.inst (zC i.sd)).2.2]) (fun i=>[zD i.s])
structure dK where
 id:Int
 inst:Int
 side:Int
 price:Int
 qty:Int
 left:Int
 deriving DecidableEq
def yT (f:dK):List D:=[.v (.int .i64 f.id),.v (.int .i64 f.inst),.v (.int .i64 f.side),.v (.int .i64 f.price),.v (.int .i64 f.qty),.v (.int .i64 f.left)]
def xS (inst s:Int):List zH→List Int→List dK
 |o::os,k::ks=>if 0<k then⟨o.id,inst,s,o.price,k,o.qty-k⟩::xS inst s os ks else xS inst s os ks
 |_,_=>[]
def kG (B:List (List zH)) (fs:List dK):List (List zH):=fs.foldl (fun B f=>(kE B f.id f.qty).1) B
def zSq (B:List (List zH)) (inst s:Int):List zH:=atL (B.getD inst.toNat []) s (bestL (B.getD inst.toNat []) s).1.price
def qK (p:Prd) (B:List (List zH)) (inst s q:Int):List dK:=xS inst s (zSq B inst s) (qX ⟨p,zSq B inst s,q⟩)
structure TrI where
 s:MSt
 p:Prd
 B:List (List zH)
 inst:Int
 sd:Bool
 q:Int
def TrI.os (i:TrI):List zH:=zSq i.B i.inst (zC i.sd)
def TrI.sh (i:TrI):List Int:=qX ⟨i.p,i.os,i.q⟩
def TrI.fs (i:TrI) (j:Nat):List dK:=xS i.inst (zC i.sd) (i.os.take j) (i.sh.take j)
def tradeC:Con where
 ι:=TrI
 pat:=fun i=>[.nm 0 0,.agg [zA i.inst,zA (zC i.sd)],zA i.q]
 pre:=fun i=>[zD i.s]
 cnd:=fun i=>i.s.Rep i.p i.B∧BOk i.p i.B∧0≤i.inst∧i.inst<i.B.length∧yU i.q
 alts:=fun i=>[{o:=MSt,res:=fun _=> .own 1,post:=fun s=>[zD s,.own 374 6 ((qK i.p i.B i.inst (zC i.sd) i.q).map yT)],rel:=fun s=>s.Rep i.p (kG i.B (qK i.p i.B i.inst (zC i.sd) i.q))}]
def yPn (i:TrI):List SAnn:=[{ι:=Nat×MSt,slots:=fun j=>[(0,.nm 0 0),(11,.own 1),(44,zA j.1)],rows:=fun j=>[zD j.2,.own 374 6 ((i.fs j.1).map yT)]}]
open Go Cv Go.Proofs
def z3z (b:Bool):Prop:=
 ∃(a:Unit),(zC !b)=IntKind.i64.wrap (3-zC b)∧True
def yDb (i:GoI):Prop:=
 cnd (zC i.s==1) (cnd (decide (i.x≤i.p)) (∃(a:Unit),dP i.s i.p i.x=true∧True) (cnd (zC i.s==2) (∃(a:Unit),dP i.s i.p i.x=decide (i.x≥i.p)∧True) (∃(a:Unit),dP i.s i.p i.x=false∧True))) (cnd (zC i.s==2) (∃(a:Unit),dP i.s i.p i.x=decide (i.x≥i.p)∧True) (∃(a:Unit),dP i.s i.p i.x=false∧True))
def zDj (a:MSt) (b:NxI):Prop:=sb a.p.code=sb b.s.p.code∧True∧a.p.tick=b.s.p.tick∧a.p.low=b.s.p.low∧a.p.high=b.s.p.high∧a.p.wide=b.s.p.wide∧a.p.rule=b.s.p.rule∧a.p.top=b.s.p.top∧a.p.least=b.s.p.least∧a.p.part=b.s.p.part∧True∧True
def fD (a:BsI):Prop:=(a.s=1∨a.s=2)∧a.l.length≤1000000
def zZ (a:NxI):=(yR a.p a.B a.inst (zC a.sd))
def zLn (a:NxI) (b:MSt) (c:Book):Prop:=sb a.s.p.code=sb b.p.code∧a.s.p.tick=b.p.tick∧a.s.p.low=b.p.low∧a.s.p.high=b.p.high∧a.s.p.wide=b.p.wide∧a.s.p.rule=b.p.rule∧a.s.p.top=b.p.top∧a.s.p.least=b.p.least∧a.s.p.part=b.p.part∧AObj.objs 241 Book 6 zQ a.s.books none=AObj.objs 241 Book 6 zQ (b.books.set a.inst.toNat c) none∧yW a.s.wh=yW b.wh∧AObj.fro 1 (iE a.s.p.months)=AObj.fro 1 (iE b.p.months)∧AObj.fro 1 (iE a.s.p.settle)=AObj.fro 1 (iE b.p.settle)∧True
def zIg (a:NxI) (b:BsI) (c:MSt) (d:Book):Prop:=∃(e:Unit),(zZ a).fst.price=(zS b.l b.s).fst.price∧(zZ a).fst.qty=(zS b.l b.s).fst.qty∧(zZ a).fst.a.inst=(zS b.l b.s).fst.a.inst∧(zZ a).fst.a.side=(zS b.l b.s).fst.a.side∧(zZ a).fst.b.inst=(zS b.l b.s).fst.b.inst∧(zZ a).fst.b.side=(zS b.l b.s).fst.b.side∧(zZ a).snd.fst=(zS b.l b.s).snd∧(zZ a).snd.snd=(zS b.l b.s).snd∧zLn a c d
def zKx (a:NxI) (b:BkS) (c:MSt) (d:Book):Prop:=∃(e:Unit),(zZ a).fst.price=(zU b).fst.price∧(zZ a).fst.qty=(zU b).fst.qty∧(zZ a).fst.a.inst=0∧(zZ a).fst.a.side=0∧(zZ a).fst.b.inst=0∧(zZ a).fst.b.side=0∧(zZ a).snd.fst=false∧(zZ a).snd.snd=true∧zLn a c d
def zHl (a:rS) (b:NxI) (c:MSt):Prop:=∃(d:BsI),List.map zJ d.l=List.map zJ (xR a.i (zC a.s))∧d.s=zC b.sd∧(fD d)∧∀(e:Unit),True→(0≤b.inst∧b.inst<(↑c.books.length:Int))∧b.inst.toNat<c.books.length∧∃(f:Book),c.books[b.inst.toNat]?=some f∧∃(g:BkS),zC g.side=zC b.sd∧z5 g.b=z5 f∧(wU g)∧∀(h:Unit),True→∃(j:Book),z5 g.b=z5 j∧b.inst.toNat=b.inst.toNat∧b.inst.toNat<c.books.length∧cnd (zU g).snd (cnd (zS d.l d.s).snd (∃(k:I3'),k.side=zC b.sd∧k.x=(zS d.l d.s).fst.price∧k.y=(zU g).fst.price∧True∧∀(l:Unit),True→cnd (!btr k.side k.x k.y) (zKx b g c j) (zIg b d c j)) (zKx b g c j)) (zIg b d c j)
def zRd (a:MSt) (b:NxI):Prop:=(zDj a b)∧∃(c:rS),sb c.i.p.code=sb b.s.p.code∧iE c.i.p.months=iE a.p.months∧c.i.p.tick=b.s.p.tick∧c.i.p.low=b.s.p.low∧c.i.p.high=b.s.p.high∧c.i.p.wide=b.s.p.wide∧c.i.p.rule=b.s.p.rule∧c.i.p.top=b.s.p.top∧c.i.p.least=b.s.p.least∧c.i.p.part=b.s.p.part∧iE c.i.p.settle=iE a.p.settle∧List.map zX c.i.tops=List.map zX a.tops∧c.i.inst=b.inst∧zC c.s=zC b.sd∧(kA c)∧∀(d:Unit),True→zHl c b a
def fM (a:MSt):Prop:=a.books.length≤1000000∧∀(b:Book),b∈a.books→∀(c:dL),c∈b.a.queues→(-9223372036854775808)≤c.count∧c.count≤9223372036854775807
def yKd (i:NxI):Prop:=
 (∃(a:MSt),sb a.p.code=sb i.s.p.code∧a.p.tick=i.s.p.tick∧a.p.low=i.s.p.low∧a.p.high=i.s.p.high∧a.p.wide=i.s.p.wide∧a.p.rule=i.s.p.rule∧a.p.top=i.s.p.top∧a.p.least=i.s.p.least∧a.p.part=i.s.p.part∧AObj.objs 241 Book 6 zQ a.books none=AObj.objs 241 Book 6 zQ i.s.books none∧yW a.wh=yW i.s.wh∧AObj.fro 1 (iE a.p.months)=AObj.fro 1 (iE i.s.p.months)∧AObj.fro 1 (iE a.p.settle)=AObj.fro 1 (iE i.s.p.settle)∧(fM a)∧∀(b:Unit),True→(zDj a i)∧(∃(c:rS),sb c.i.p.code=sb i.s.p.code∧iE c.i.p.months=iE a.p.months∧c.i.p.tick=i.s.p.tick∧c.i.p.low=i.s.p.low∧c.i.p.high=i.s.p.high∧c.i.p.wide=i.s.p.wide∧c.i.p.rule=i.s.p.rule∧c.i.p.top=i.s.p.top∧c.i.p.least=i.s.p.least∧c.i.p.part=i.s.p.part∧iE c.i.p.settle=iE a.p.settle∧List.map zX c.i.tops=List.map zX a.tops∧c.i.inst=i.inst∧zC c.s=zC i.sd∧(kA c)∧∀(d:Unit),True→(zHl c i a)∧zHl c i a)∧zRd a i)∧(sb i.s.p.code=sb i.s.p.code∧True∧i.s.p.tick=i.s.p.tick∧i.s.p.low=i.s.p.low∧i.s.p.high=i.s.p.high∧i.s.p.wide=i.s.p.wide∧i.s.p.rule=i.s.p.rule∧i.s.p.top=i.s.p.top∧i.s.p.least=i.s.p.least∧i.s.p.part=i.s.p.part∧True∧True)∧∃(a:MSt),sb a.p.code=sb i.s.p.code∧a.p.tick=i.s.p.tick∧a.p.low=i.s.p.low∧a.p.high=i.s.p.high∧a.p.wide=i.s.p.wide∧a.p.rule=i.s.p.rule∧a.p.top=i.s.p.top∧a.p.least=i.s.p.least∧a.p.part=i.s.p.part∧AObj.objs 241 Book 6 zQ a.books none=AObj.objs 241 Book 6 zQ i.s.books none∧yW a.wh=yW i.s.wh∧AObj.fro 1 (iE a.p.months)=AObj.fro 1 (iE i.s.p.months)∧AObj.fro 1 (iE a.p.settle)=AObj.fro 1 (iE i.s.p.settle)∧(fM a)∧∀(b:Unit),True→zRd a i
def bV (a:AtI):=(List.map wP (atL a.L (zC a.s) a.price))
def zDu (a:Nat×MSt→Prop) (b:Nat×MSt) (c:Nat×MSt→Nat) (d:Nat×MSt) (e:AlI) (f:AtI) (g:BkS) (h:TrI):Prop:=a b∧c b<c d∧AObj.own 2 1 (iE (qX e))=AObj.own 2 1 (iE (qX e))∧AObj.fro 5 (bV f)=AObj.fro 5 (bV f)∧Sx.AObj.cells [V.d (dI (fC g)),V.d (dI (vW g)),V.d (dI ((zU g).fst.count))] 41=Sx.AObj.cells [V.d (dI (fC g)),V.d (dI (vW g)),V.d (dI ((zU g).fst.count))] 41∧Sx.AObj.cells [V.d (dI h.inst),V.d (dI (zC h.sd))] 256=Sx.AObj.cells [V.d (dI h.inst),V.d (dI (zC h.sd))] 256∧AObj.fro 1 (iE h.s.p.months)=AObj.fro 1 (iE h.s.p.months)∧AObj.fro 1 (iE h.s.p.settle)=AObj.fro 1 (iE h.s.p.settle)
def uV (a:TrI):=(qK a.p a.B a.inst (zC a.sd) a.q)
def fT (a:TrI):=(kG a.B (uV a))
def z9r (i:TrI):Prop:=
 (0≤i.inst∧i.inst<(↑i.s.books.length:Int))∧i.inst.toNat<i.s.books.length∧∃(a:Book),i.s.books[i.inst.toNat]?=some a∧∃(b:BkS),zC b.side=zC i.sd∧z5 b.b=z5 a∧(wU b)∧∀(c:Unit),True→∃(d:Book),z5 b.b=z5 d∧i.inst.toNat=i.inst.toNat∧i.inst.toNat<i.s.books.length∧∃(e:Book),(i.s.books.set i.inst.toNat d)[i.inst.toNat]?=some e∧∃(f:AtI),zC f.s=zC i.sd∧f.price=(zU b).fst.price∧z5 f.b=z5 e∧f.b.Rep f.L∧∀(g:Unit),True→∃(h:Book),z5 f.b=z5 h∧i.inst.toNat=i.inst.toNat∧i.inst.toNat<(i.s.books.set i.inst.toNat d).length∧∃(j:AlI),sb j.p.code=sb i.s.p.code∧iE j.p.months=iE i.s.p.months∧j.p.tick=i.s.p.tick∧j.p.low=i.s.p.low∧j.p.high=i.s.p.high∧j.p.wide=i.s.p.wide∧j.p.rule=i.s.p.rule∧j.p.top=i.s.p.top∧j.p.least=i.s.p.least∧j.p.part=i.s.p.part∧iE j.p.settle=iE i.s.p.settle∧List.map wP j.l=List.map wP (atL f.L (zC f.s) f.price)∧j.q=i.q∧(j.l.length≤1000∧((-9223372036854775808)≤j.q∧j.q≤9223372036854775807)∧((-9223372036854775808)≤j.p.least∧j.p.least≤9223372036854775807)∧((-9223372036854775808)≤j.p.top∧j.p.top≤9223372036854775807)∧(-9223372036854775808)≤j.p.part∧j.p.part≤9223372036854775807)∧∀(k:Unit),True→∃(l:Nat×MSt),(↑l.fst:Int)=0∧sb l.snd.p.code=sb i.s.p.code∧l.snd.p.tick=i.s.p.tick∧l.snd.p.low=i.s.p.low∧l.snd.p.high=i.s.p.high∧l.snd.p.wide=i.s.p.wide∧l.snd.p.rule=i.s.p.rule∧l.snd.p.top=i.s.p.top∧l.snd.p.least=i.s.p.least∧l.snd.p.part=i.s.p.part∧AObj.objs 241 Book 6 zQ l.snd.books none=AObj.objs 241 Book 6 zQ ((i.s.books.set i.inst.toNat d).set i.inst.toNat h) none∧yW l.snd.wh=yW i.s.wh∧AObj.fro 1 (iE l.snd.p.months)=AObj.fro 1 (iE i.s.p.months)∧AObj.fro 1 (iE l.snd.p.settle)=AObj.fro 1 (iE i.s.p.settle)∧List.map yT (i.fs l.fst)=[]∧∃(m:Nat×MSt→Prop),∃(n:Nat×MSt→Nat),m l∧∀(p:Nat×MSt),m p→cnd (decide ((↑p.fst:Int)<(↑(iE (qX j)).length:Int))) ((0≤(↑p.fst:Int)∧(↑p.fst:Int)<(↑(iE (qX j)).length:Int))∧∃(q:Int),zE (iE (qX j)) (↑p.fst:Int).toNat 0 1=some [dI q]∧cnd (decide (q>0)) ((0≤(↑p.fst:Int)∧(↑p.fst:Int)<(↑(bV f).length:Int))∧∃(r:Int),∃(s:Int),∃(t:Int),∃(u:Int),∃(v:Bool),zE (bV f) (↑p.fst:Int).toNat 0 5=some [dI r,dI s,dI t,dI u,D.v (.bool v)]∧∃(w:StI),w.id=r∧w.q=q∧zD w.s=zD p.snd∧(w.s.Rep w.p w.B∧w.B.length≤1000)∧∀(x:MSt),x.Rep w.p (kE w.B w.id w.q).fst→((List.map yT (i.fs p.fst)).length+1)*(48:Nat)≤(140737488355328:Nat)∧∃(y:Nat×MSt),(↑y.fst:Int)=IntKind.i64.wrap ((↑p.fst:Int)+1)∧zD y.snd=zD x∧List.map yT (i.fs y.fst)=List.map yT (i.fs p.fst)++[[dI r,dI i.inst,dI (zC i.sd),dI t,dI q,dI (IntKind.i64.wrap (u-q))]]∧zDu m y n p j f b i) (∃(r:Nat×MSt),(↑r.fst:Int)=IntKind.i64.wrap ((↑p.fst:Int)+1)∧zD r.snd=zD p.snd∧List.map yT (i.fs r.fst)=List.map yT (i.fs p.fst)∧zDu m r n p j f b i)) (∃(q:MSt),zD q=zD p.snd∧List.map yT (uV i)=List.map yT (i.fs p.fst)∧q.Rep i.p (fT i))
open Go Cv Go.Proofs
theorem rR {p:Prd} (hc:p.check=0) {k v:Int} (h:p.price k v=0): -2000000≤v∧v≤2000000:=by
 have ok:=jP hc
 have:=ok.b1
 have:=ok.b2
 have:=ok.b3
 have:=ok.b4
 have:=ok.b5
 rw[Prd.price]at h
 by_cases c1:p.count=0
 ·rw[yWl c1]at h;cases h
 by_cases c2:k<0∨(p.count:Int)≤k
 ·rw[yWj c1,yWl c2]at h;cases h
 cases c3:qH p.tick v with
 |true=>rw[yWj c1,yWj c2,yWl c3]at h;cases h
 |false=>
  rw[yWj c1,yWj c2,yWj (by rw[c3];decide)]at h
  by_cases c4:(p.months.length:Int)≤k
  ·simp only[yWl c4]at h
   by_cases c5:v< -p.wide∨p.wide<v
   ·rw[yWl c5]at h;cases h
   ·omega
  ·simp only[yWj c4]at h
   by_cases c5:v<p.low∨p.high<v
   ·rw[yWl c5]at h;cases h
   ·omega
theorem zHo {t:Int} (k:Int):qH t (t*k)=false:=by
 simp[qH,Int.mul_tmod_right]
theorem zWs (x:Prd):(jQ x).small:=by
 have:=yEf x
 refine⟨by simp[jQ],?_,?_⟩
 ·show(qF _).length≤_
  rw[rI];omega
 ·show(kM _ _).length≤_
  rw[b8];omega
theorem zSw (x:Prd):(jQ x).check=0:=by
 have ht:=zVg x
 have hn:=yEf x
 have hw:=xI (n:=x.wide) (lo:=0) (hi:=60) (by omega)
 have hr:=xI (n:=x.rule) (lo:=0) (hi:=2) (by omega)
 have ho:=xI (n:=x.top) (lo:=0) (hi:=9) (by omega)
 have hl:=xI (n:=x.least) (lo:=0) (hi:=4) (by omega)
 have hp:=xI (n:=x.part) (lo:=0) (hi:=100) (by omega)
 have h1:j7 (jQ x).code=true:=by show j7 [206,169]=true;decide+kernel
 obtain⟨k,hk,hk1⟩:∃k:Nat,(kN x).toNat=k∧(2≤k∧k≤5):=⟨_,rfl,by omega⟩
 have h2:xD (jQ x).months=true:=by
  show xD (qF (kN x).toNat)=true
  rw[hk]
  have:k=2∨k=3∨k=4∨k=5:=by omega
  rcases this with rfl|rfl|rfl|rfl<;>decide
 have h3:qD (jQ x)=true:=by
  have a:qH (zV x) (-20*zV x)=false:=by rw[y1w];exact zHo _
  have b:qH (zV x) (100*zV x)=false:=by rw[y1w];exact zHo _
  have c:(kM (zV x) (kN x).toNat).any (qH (zV x))=false:=by
   rw[y2r]
   intro y hy
   obtain⟨j,_,rfl⟩:=yYa.1 hy
   rw[zHo];decide
  simp only[qD,jQ,a,b,c,zHo,y1p,Bool.and_true,yWw]
  exact⟨yXc (by omega),yXc (by omega)⟩
 have mw:=zMd (a:=zV x) (b:=5+zG x.wide 0 60) (m:=zV x) (n:=65) (by omega) (by omega)
 have h4:qE (jQ x)=false:=by
  simp only[qE,jQ,y0p]
  exact⟨⟨⟨⟨yWx (by omega),yWx (by omega)⟩,yWx (by omega)⟩,yWx (by omega)⟩,yWx (by omega)⟩
 have h5:xG (jQ x)=false:=by
  have e:(kM (zV x) (kN x).toNat).length=(qF (kN x).toNat).length:=by rw[b8,rI]
  have ne:kM (zV x) (kN x).toNat≠[]:=by
   intro hc
   have:=b8 (zV x) (kN x).toNat
   rw[hc]at this
   simp at this
   omega
  have bd:∀y∈kM (zV x) (kN x).toNat,0≤y∧y≤zV x*15:=by
   intro y hy
   obtain⟨j,hj,rfl⟩:=yYa.1 hy
   have:=yZl.1 hj
   exact zMd (by omega) (by omega)
  have m1:=bd _ (zUm ne)
  have m2:=bd _ (zTo ne)
  simp only[xG,jQ,e,ne_eq,not_true_eq_false,decide_false,y2m,y0p]
  exact⟨yWx (by omega),yWx (by omega)⟩
 have h6:qY (jQ x)=false:=by
  simp only[qY,jQ,y0p]
  exact⟨yWx (by omega),yWx (by omega)⟩
 have h7:xV (jQ x)=false:=by
  simp only[xV,jQ,y0p]
  exact⟨⟨⟨⟨⟨yWx (by omega),yWx (by omega)⟩,yWx (by omega)⟩,yWx (by omega)⟩,yWx (by omega)⟩,yWx (by omega)⟩
 rw[Prd.check,h1,h2,h3,h4,h5,h6,h7]
 rfl
open Go Cv Go.Proofs
structure zQm (qs sh:List Int) (q:Int):Prop where
 len:sh.length=qs.length
 bd:∀n,0≤sh.getD n 0∧sh.getD n 0≤qs.getD n 0
 sum:sh.sum=q
theorem z9n:∀{l:List Int},(∀x∈l,0≤x)→0≤l.sum
 |[],_=>y1f 0
 |a::l,h=>by
  have:=z9n (l:=l) fun x hx=>h x (yWq _ hx)
  have:=h a yWp
  rw[yXx];omega
theorem z0t:∀{z:List (Int×Int)},(∀y∈z,0≤y.2∧y.2≤y.1)→(z.map (·.2)).sum≤(z.map (·.1)).sum
 |[],_=>y1f 0
 |a::l,h=>by
  have:=z0t (z:=l) fun x hx=>h x (yWq _ hx)
  have:=h a yWp
  rw[yWz,yWz,yXx,yXx];omega
theorem sY:∀(l:List Int) (q:Int),(∀x∈l,0≤x)→0≤q→q≤l.sum→zQm l (uD l q) q
 |[],q,_,h0,h1=>⟨rfl,fun n=>by simp[uD],by simp at h1;simp[uD];omega⟩
 |n::l,q,h,h0,h1=>by
  have hn:=h n yWp
  rw[yXx]at h1
  have:=z9n fun x hx=>h x (yWq _ hx)
  have ih:=sY l (q-min n q) (fun x hx=>h x (yWq _ hx)) (by omega) (by omega)
  refine⟨by rw[uD,yWr,yWr,ih.len],fun k=> ?_,by rw[uD,yXx,ih.sum];omega⟩
  cases k with
  |zero=>exact⟨by show 0≤min n q;omega,by show min n q≤n;omega⟩
  |succ k=>exact ih.bd k
theorem lC:∀(z:List (Int×Int)) (q:Int),(∀y∈z,0≤y.2∧y.2≤y.1)→0≤q→q≤(z.map (·.1)).sum-(z.map (·.2)).sum→(j6 z q).length=z.length∧(∀n,0≤(j6 z q).getD n 0∧(j6 z q).getD n 0≤(z.map (·.1)).getD n 0)∧(j6 z q).sum=(z.map (·.2)).sum+q
 |[],q,_,h0,h1=>⟨rfl,fun n=>by simp[j6],by simp at h1;simp[j6];omega⟩
 |(n,x)::r,q,h,h0,h1=>by
  have hn:=h (n,x) yWp
  simp only[yWz,yXx]at h1
  have:=z0t fun y hy=>h y (yWq _ hy)
  have ih:=lC r (q-min (n-x) q) (fun y hy=>h y (yWq _ hy)) (by omega) (by omega)
  refine⟨by rw[j6,yWr,yWr,ih.1],fun k=> ?_,by rw[j6,yXx,ih.2.2,yWz,yXx];omega⟩
  cases k with
  |zero=>exact⟨by show 0≤x+min (n-x) q;have:=hn.1;have:=hn.2;dsimp only at*;omega,by show x+min (n-x) q≤n;have:=hn.2;dsimp only at*;omega⟩
  |succ k=>exact ih.2.1 k
theorem z9l {l:List Int} {q:Int} (h1:l.length≤250) (h2:0≤q) (h3:∀x∈l,1≤x∧x≤1000000) (h4:q≤l.sum):yS l q=true:=by
 rw[yS,yXc h1,yXc h2,yXc h4]
 simp only[yZe,Bool.and_true,yZn,yWw,yYe]
 exact h3
theorem zRa {i:PlI} (h:yS i.l i.q=true) (hl:1≤i.least):zQm i.l (kR i) i.q:=by
 obtain⟨r1,r2,r3,r4⟩:=kW h
 rw[kR,yWl ⟨h,hl⟩]
 by_cases hne:i.l.length=0
 ·have e:i.l=[]:=yXn hne
  have hq:i.q=0:=by rw[e]at r4;simp at r4;omega
  have e0:i.p1=[]:=by rw[PlI.p1,e];rfl
  rw[e0,e,hq]
  exact⟨rfl,fun n=>by simp,rfl⟩
 ·obtain⟨_,_,f1,f2⟩:=zCm h (by omega)
  have hpl:=zYm i
  have m1:(i.l.zip i.p0).map (·.1)=i.l:=List.map_fst_zip (by omega)
  have m2:(i.l.zip i.p0).map (·.2)=i.p0:=List.map_snd_zip (by omega)
  have hp:=lC (i.l.zip i.p0) (i.q-i.p0.sum) (fun y hy=>by
   obtain⟨j,hj⟩:=yZd.1 hy
   rw[y1d]at hj
   exact f1 j _ _ hj.1 hj.2) (by omega) (by rw[m1,m2];omega)
  rw[m1,m2]at hp
  refine⟨?_,hp.2.1,?_⟩
  ·rw[PlI.p1,hp.1,List.length_zip,hpl,Nat.min_self]
  ·rw[PlI.p1,hp.2.2];omega
theorem zQa:∀{l:List Int} {k:Nat} {x:Int},k<l.length→(l.set k x).sum=l.sum+(x-l.getD k 0)
 |[],k,x,h=>absurd h (by simp)
 |a::l,0,x,_=>by
  show x+l.sum=a+l.sum+(x-a);omega
 |a::l,k+1,x,h=>by
  have:=zQa (l:=l) (k:=k) (x:=x) (by simpa using h)
  show a+(l.set k x).sum=a+l.sum+(x-l.getD k 0)
  omega
theorem zLq {l:List Int} {k n:Nat} {x:Int} (h:k<l.length):(l.set k x).getD n 0=if n=k then x else l.getD n 0:=by
 rw[yWs,yZt]
 by_cases e:k=n
 ·subst e;rw[yWl rfl,yWl h,yWl rfl];rfl
 ·rw[yWj e,yWj (fun e2=>e e2.symm),yWs]
theorem zVk {l:List Int}:∀(z:List (Nat×Int)) (o:List Int),(z.map (·.1)).Nodup→(∀y∈z,y.1<o.length∧0≤y.2∧o.getD y.1 0+y.2≤l.getD y.1 0)→(∀n,0≤o.getD n 0∧o.getD n 0≤l.getD n 0∧l.getD n 0≤1000000)→
 (z.foldl (fun o y=>o.set y.1 (IntKind.i64.wrap (o.getD y.1 0+y.2))) o).length=o.length∧(z.foldl (fun o y=>o.set y.1 (IntKind.i64.wrap (o.getD y.1 0+y.2))) o).sum=o.sum+(z.map (·.2)).sum∧∀n,0≤(z.foldl (fun o y=>o.set y.1 (IntKind.i64.wrap (o.getD y.1 0+y.2))) o).getD n 0∧(z.foldl (fun o y=>o.set y.1 (IntKind.i64.wrap (o.getD y.1 0+y.2))) o).getD n 0≤l.getD n 0
 |[],o,_,_,h=>⟨rfl,by simp,fun n=>⟨(h n).1,(h n).2.1⟩⟩
 |y::z,o,hn,hz,h=>by
  obtain⟨h1,h2,h3⟩:=hz y yWp
  rw[yWz,yZb]at hn
  have hw:IntKind.i64.wrap (o.getD y.1 0+y.2)=o.getD y.1 0+y.2:=by
   have:=h y.1
   exact w64 (by omega)
  rw[yZw,hw]
  have ih:=zVk (l:=l) z (o.set y.1 (o.getD y.1 0+y.2)) hn.2 (fun x hx=>by
   obtain⟨g1,g2,g3⟩:=hz x (yWq _ hx)
   have hne:x.1≠y.1:=fun e=>hn.1 (e▸yXq (f:=(·.1)) hx)
   rw[yXf,zLq h1,yWj hne]
   exact⟨g1,g2,g3⟩) (fun n=>by
   rw[zLq h1]
   split
   ·rename_i e
    rw[e]
    exact⟨by have:=h y.1;omega,h3,(h y.1).2.2⟩
   ·exact h n)
  refine⟨by rw[ih.1,yXf],?_,ih.2.2⟩
  rw[ih.2.1,zQa h1,yWz,yXx];omega
theorem zIw (l:List Int):(List.range l.length).map (fun n=>l.getD n 0)=l:=by
 apply y0b
 intro n
 rw[yXr]
 by_cases h:n<l.length
 ·rw[y0t h,yXj h,yYk,yWs,yXj h];rfl
 ·rw[yXm (by simpa using h),yXm (by omega)];rfl
theorem z0j {f g:Nat→Int}:∀l:List Nat,(l.map fun n=>f n-g n).sum=(l.map f).sum-(l.map g).sum
 |[]=>rfl
 |a::l=>by rw[yWz,yWz,yWz,yXx,yXx,yXx,z0j l];omega
theorem zJo {f:Nat→Int} {p:Nat→Bool}:∀{l:List Nat},(∀n∈l,p n=false→f n=0)→((l.filter p).map f).sum=(l.map f).sum
 |[],_=>rfl
 |a::l,h=>by
  have ih:=zJo (l:=l) fun n hn=>h n (yWq _ hn)
  rw[yWz,yXx]
  by_cases e:p a=true
  ·rw[y1l e,yWz,yXx,ih]
  ·rw[y1m e,ih,h a yWp (by simpa using e)];omega
theorem rU {i:RsI} (hl:i.l.length≤250) (ho:i.out.length=i.l.length) (hn:∀n,0≤i.out.getD n 0∧i.out.getD n 0≤i.l.getD n 0∧i.l.getD n 0≤1000000) (hq:0≤i.q∧i.q≤i.l.sum-i.out.sum) (hle:1≤i.least):
 zQm i.l (aP i) (i.out.sum+i.q):=by
 have hidx:(i.idx i.l.length).length≤250:=yZq (yZr _ _) (by simpa using hl)
 have hmem:∀n∈i.idx i.l.length,n<i.l.length∧i.out.getD n 0<i.l.getD n 0:=by
  intro n hn
  obtain⟨a,b⟩:=yYn.1 hn
  exact⟨yZl.1 a,yYx b⟩
 have hls:(i.left i.l.length).sum=i.l.sum-i.out.sum:=by
  rw[RsI.left,RsI.idx,zJo,z0j,zIw]
  ·rw[← ho,zIw]
  ·intro n _ e
   have:=y0z e
   have:=hn n
   omega
 have hr:yS (i.left i.l.length) i.q=true:=by
  refine z9l (by rw[RsI.left,yWk];exact hidx) hq.1 (fun x hx=> ?_) (by omega)
  obtain⟨n,hm,rfl⟩:=yYa.1 hx
  have:=hmem n hm
  have:=hn n
  omega
 have hp:=zRa (i:=⟨i.left i.l.length,i.least,i.q⟩) hr hle
 have hpl:i.pl.length=(i.idx i.l.length).length:=by
  have:=hp.len
  rw[RsI.pl,this,RsI.left,yWk]
 have hnd:(i.idx i.l.length).Nodup:=List.nodup_range.sublist y2k
 have z1:((i.idx i.l.length).zip i.pl).map (·.1)=i.idx i.l.length:=List.map_fst_zip (by omega)
 have z2:((i.idx i.l.length).zip i.pl).map (·.2)=i.pl:=List.map_snd_zip (by omega)
 have hf:=zVk (l:=i.l) ((i.idx i.l.length).zip i.pl) i.out (by rw[z1];exact hnd) (fun y hy=>by
  obtain⟨j,hj⟩:=yZd.1 hy
  rw[y1d]at hj
  have hm:=hmem y.1 (yWt hj.1)
  have hb:=hp.bd j
  have e1:(kR ⟨i.left i.l.length,i.least,i.q⟩).getD j 0=y.2:=by
   rw[yWs]
   have:(kR ⟨i.left i.l.length,i.least,i.q⟩)[j]? =some y.2:=hj.2
   rw[this];rfl
  have e2:(i.left i.l.length).getD j 0=i.l.getD y.1 0-i.out.getD y.1 0:=by
   rw[yWs,RsI.left,yXr,hj.1];rfl
  dsimp only at hb
  rw[e1,e2]at hb
  exact⟨by omega,hb.1,by omega⟩) hn
 have hall:aP i=((i.idx i.l.length).zip i.pl).foldl (fun o y=>o.set y.1 (IntKind.i64.wrap (o.getD y.1 0+y.2))) i.out:=by
  rw[aP,RsI.add,yWu (by rw[List.length_zip];omega)]
 rw[hall]
 refine⟨by rw[hf.1,ho],hf.2.2,?_⟩
 rw[hf.2.1,z2]
 have:=hp.sum
 rw[RsI.pl,this]
theorem z2n {l:List Int} (h:∀x∈l,1≤x∧x≤1000000) (n:Nat):0≤l.getD n 0∧l.getD n 0≤1000000:=by
 by_cases hn:n<l.length
 ·obtain⟨x,hx⟩:=yD hn
  have:=h x (yWt hx)
  rw[zR hx];omega
 ·rw[yWs,yXm (by omega)];decide
theorem yPh (n k:Nat):(List.replicate n (0:Int)).getD k 0=0:=by
 rw[yWs,List.getElem?_replicate]
 split<;>rfl
theorem zLo (n:Nat):(List.replicate n (0:Int)).sum=0:=by
 induction n with
 |zero=>rfl
 |succ n ih=>rw[y0s,yXx,ih];rfl
theorem yOb {q part:Int} (hq:0≤q) (h0:0≤part) (h1:part≤100):0≤q*part / 100∧q*part / 100≤q:=by
 have h2:0≤q*part:=y2u hq h0
 have h3:q*part≤q*100:=y1k h1 hq
 constructor<;>omega
theorem zPt {p:Prd} (hc:p.check=0) {l:List zH} {q:Int} (hr:yS (l.map (·.qty)) q=true):zQm (l.map (·.qty)) (qX ⟨p,l,q⟩) q:=by
 have ok:=jP hc
 obtain⟨r1,r2,r3,r4⟩:=kW hr
 have q1:=ok.q1
 have q3:=ok.q3
 have q5:=ok.q5
 have q6:=ok.q6
 have r5:=ok.r1
 have r6:=ok.r2
 have gb:=z2n r3
 have eqs:(AlI.qs ⟨p,l,q⟩)=l.map (·.qty):=rfl
 rw[qX]
 simp only[eqs]
 generalize l.map (·.qty)=qs at*
 by_cases c1:p.rule=1
 ·rw[yWl c1,uK,yWl hr]
  exact sY _ _ (fun x hx=>by have:=r3 x hx;omega) r2 r4
 by_cases c2:p.rule=2
 ·rw[yWj c1,yWl c2,zBf,yWl ⟨hr,q3,q1⟩]
  rw[PsI.rs]
  dsimp only
  split
  ·rename_i ht
   have hk:(topI l).toNat<(List.replicate qs.length (0:Int)).length:=by simp;omega
   have hf:0≤PsI.first ⟨qs,topI l,p.top,p.least,q⟩∧PsI.first ⟨qs,topI l,p.top,p.least,q⟩≤qs.getD (topI l).toNat 0∧PsI.first ⟨qs,topI l,p.top,p.least,q⟩≤q:=by
    have:=gb (topI l).toNat
    simp only[PsI.first]
    omega
   have hs:((List.replicate qs.length (0:Int)).set (topI l).toNat (PsI.first ⟨qs,topI l,p.top,p.least,q⟩)).sum=PsI.first ⟨qs,topI l,p.top,p.least,q⟩:=by
    rw[zQa hk,zLo,yPh];omega
   have:=rU (i:=⟨qs,(List.replicate qs.length 0).set (topI l).toNat (PsI.first ⟨qs,topI l,p.top,p.least,q⟩),p.least,q-PsI.first ⟨qs,topI l,p.top,p.least,q⟩⟩) r1 (by simp) (fun n=>by
    dsimp only
    rw[zLq hk,yPh]
    have:=gb n
    split
    ·rename_i e;rw[e];exact⟨hf.1,hf.2.1,(gb _).2⟩
    ·omega) (by dsimp only;rw[hs];omega) q3
   dsimp only at this
   rw[hs]at this
   have e:PsI.first ⟨qs,topI l,p.top,p.least,q⟩+(q-PsI.first ⟨qs,topI l,p.top,p.least,q⟩)=q:=by omega
   rw[e]at this
   exact this
  ·have:=rU (i:=⟨qs,List.replicate qs.length 0,p.least,q⟩) r1 (by simp) (fun n=>by
    dsimp only
    rw[yPh]
    have:=gb n
    omega) (by dsimp only;rw[zLo];omega) q3
   dsimp only at this
   rw[zLo,Int.zero_add]at this
   exact this
 ·have c3:p.rule=3:=by omega
  rw[yWj c1,yWj c2,yWl c3,lU,yWl ⟨hr,q5,q6,q3⟩]
  rw[SpI.rs]
  dsimp only
  obtain⟨d1,d2⟩:=yOb r2 q5 q6
  have hr2:yS qs (q*p.part / 100)=true:=z9l r1 d1 r3 (by omega)
  have hfs:=sY qs (q*p.part / 100) (fun x hx=>by have:=r3 x hx;omega) d1 (by omega)
  have e0:uK qs (q*p.part / 100)=uD qs (q*p.part / 100):=by rw[uK,yWl hr2]
  have:=rU (i:=⟨qs,uK qs (q*p.part / 100),p.least,q-q*p.part / 100⟩) r1 (by dsimp only;rw[e0];exact hfs.len) (fun n=>by
   dsimp only
   rw[e0]
   exact⟨(hfs.bd n).1,(hfs.bd n).2,(gb n).2⟩) (by dsimp only;rw[e0,hfs.sum];omega) q3
  dsimp only at this
  rw[e0,hfs.sum]at this
  rw[e0]
  have e:q*p.part / 100+(q-q*p.part / 100)=q:=by omega
  rw[e]at this
  exact this
theorem zXz {p:Prd} {l:List zH} {q:Int} (hr:yS (l.map (·.qty)) q=false):qX ⟨p,l,q⟩=[]:=by
 have eqs:(AlI.qs ⟨p,l,q⟩)=l.map (·.qty):=rfl
 rw[qX]
 simp only[eqs,uK,zBf,lU,hr]
 simp
open Go Cv Go.Proofs
theorem zOi:motherC.ok Tryz.prog 206:=okw (V:=z3z) mixed gok0 0 (fun _=>[]) (fun _=>[]) [] Tryz.func206 fun(b:Bool) _=>by
 unfold z3z
 cases b<;>exact⟨(),by decide,trivial⟩
theorem zUp:mgoodC.ok Tryz.prog 207:=okw (V:=yDb) mixed gok0 0 (fun _=>[]) (fun _=>[]) [] Tryz.func207 fun(i:GoI) _=>by
 obtain⟨s,p,x⟩:=i
 unfold yDb
 cases s
 ·refine Cv.cnd.mk (fun _=>zI (fun c=>⟨(),?_,trivial⟩) (fun c=>Cv.cnd.mk (fun e=>by simp[zC]at e) (fun _=>⟨(),?_,trivial⟩))) (fun e=>by simp[zC]at e)
  ·exact yXc c
  ·exact yWx c
 ·exact Cv.cnd.mk (fun e=>by simp[zC]at e) (fun _=>Cv.cnd.mk (fun _=>⟨(),rfl,trivial⟩) (fun e=>by simp[zC]at e))
theorem zTn {L:List zH} {s:Int}:((bestL L s).2=true∧∃o∈L,o.side=s∧o.price=(bestL L s).1.price)∨(bestL L s=(⟨0,0,0⟩,false)∧∀o∈L,o.side≠s):=by
 rw[bestL]
 cases hl:uM L s with
 |nil=>
  refine .inr ⟨rfl,fun o ho e=> ?_⟩
  rw[uM]at hl
  cases hf:L.filter fun o=>decide (o.side=s)with
  |nil=>
   rw[List.filter_eq_nil_iff]at hf
   have:=hf o ho
   simp[e]at this
  |cons x y=>
   rw[hf,grp]at hl
   split at hl
   ·cases hl
   ·split at hl<;>cases hl
 |cons v vs=>
  refine .inl ⟨rfl,?_⟩
  rw[uM]at hl
  obtain⟨o,r,e1,e2⟩:=zKe hl
  have:o∈L.filter fun o=>decide (o.side=s):=by rw[e1];exact yWp
  rw[yYn]at this
  exact⟨o,this.1,by simpa using this.2,e2⟩
theorem zQb {L:List zH} {s:Int} (h:∀o∈L,-2000000≤o.price∧o.price≤2000000): -2000000≤(bestL L s).1.price∧(bestL L s).1.price≤2000000:=by
 rcases zTn (L:=L) (s:=s)with⟨_,o,ho,_,e⟩|⟨e,_⟩
 ·rw[← e];exact h o ho
 ·rw[e];constructor<;>decide
theorem zHu (L:List zH):(qU L).p1=(bestL L 1).1.price∧(qU L).q1=(bestL L 1).1.qty∧(qU L).has1=(bestL L 1).2∧(qU L).p2=(bestL L 2).1.price∧(qU L).q2=(bestL L 2).1.qty∧(qU L).has2=(bestL L 2).2:=by
 have h:∀s,(bestL L s).2=true∨bestL L s=(⟨0,0,0⟩,false):=fun s=>by
  rcases zTn (L:=L) (s:=s)with⟨h,_⟩|⟨h,_⟩
  ·exact .inl h
  ·exact .inr h
 rw[qU,Top.sell,Top.buy]
 rcases h 1 with h1|h1<;>rcases h 2 with h2|h2<;>simp[h1,h2,top0]
theorem BOk.prices {p:Prd} {B:List (List zH)} (h:BOk p B) {k:Nat} {L:List zH} (hL:B[k]? =some L):∀o∈L,-2000000≤o.price∧o.price≤2000000:=fun o ho=>rR h.pc (h.pr k L hL o ho)
theorem BOk.tops {p:Prd} {B:List (List zH)} (h:BOk p B):wY (B.map qU):=by
 have:=x5 p
 refine⟨by rw[yWk,h.bl];omega,fun t ht=> ?_⟩
 obtain⟨L,hL,rfl⟩:=yYa.1 ht
 obtain⟨k,hk⟩:=yZd.1 hL
 have b1:=zQb (s:=1) (h.prices hk)
 have b2:=zQb (s:=2) (h.prices hk)
 rw[(zHu L).1,(zHu L).2.2.2.1]
 exact⟨by constructor<;>omega,by constructor<;>omega⟩
theorem MSt.Rep.tops {s:MSt} {p:Prd} {B:List (List zH)} (h:s.Rep p B):s.tops=B.map qU:=by
 rw[MSt.tops]
 apply y0b
 intro k
 rw[yXr,yXr]
 by_cases hk:k<B.length
 ·obtain⟨L,hL⟩:=yD hk
  obtain⟨b,hb⟩:=yD (l:=s.books) (i:=k) (by rw[h.bl];exact hk)
  rw[hL,hb,yYk,yYk,(h.bk k b L hb hL).top]
 ·rw[yXm (by rw[h.bl];omega),yXm (by omega)];rfl
theorem MSt.Rep.cnt {s:MSt} {p:Prd} {B:List (List zH)} (h:s.Rep p B) (hB:B.length≤1000000):s.cntOk:=by
 refine⟨by rw[h.bl];exact hB,fun b hb=> ?_⟩
 obtain⟨k,hk⟩:=yZd.1 hb
 have hlt:=(yWn.1 hk).1
 rw[h.bl]at hlt
 obtain⟨L,hL⟩:=yD hlt
 exact(h.bk k b L hk hL).cnt
theorem zVs {b:Book} {L:List zH} (h:b.Rep L) (sd:Bool):b.best (b.side sd)=bestL L (zC sd):=by
 obtain⟨Q,c,ht,rfl⟩:=h
 cases sd
 ·exact c.bestL (.inl rfl)
 ·exact c.bestL (.inr rfl)
theorem zCr (sd:Bool):zC sd=1∨zC sd=2:=by cases sd;exact .inl rfl;exact .inr rfl
theorem yQt (i:NxI) (h:nextC.cnd i):yKd i:=by
 obtain⟨hR,hB,h0,h1⟩:i.s.Rep i.p i.B∧BOk i.p i.B∧0≤i.inst∧i.inst<i.B.length:=h
 have hcl:=x5 i.p
 have hbl:=hB.bl
 have hsl:=hR.bl
 obtain⟨k,hk⟩:∃k:Nat,i.inst=k:=⟨i.inst.toNat,by omega⟩
 obtain⟨L,hL⟩:=yD (l:=i.B) (i:=k) (by omega)
 obtain⟨b,hb⟩:=yD (l:=i.s.books) (i:=k) (by omega)
 have hbR:=hR.bk k b L hb hL
 have hps:i.s.p.small:=by rw[hR.ep];exact hB.ps
 have hto:wY i.s.tops:=by rw[hR.tops];exact hB.tops
 have hnx:yR i.p i.B i.inst (zC i.sd)=if((bestL L (zC i.sd)).2 && !((zS (xR ⟨i.s.p,i.s.tops,i.inst⟩ (zC i.sd)) (zC i.sd)).2 && btr (zC i.sd) (zS (xR ⟨i.s.p,i.s.tops,i.inst⟩ (zC i.sd)) (zC i.sd)).1.price (bestL L (zC i.sd)).1.price))=true then(⟨(bestL L (zC i.sd)).1.price,(bestL L (zC i.sd)).1.qty,⟨0,0⟩,⟨0,0⟩⟩,false,true)else((zS (xR ⟨i.s.p,i.s.tops,i.inst⟩ (zC i.sd)) (zC i.sd)).1,(zS (xR ⟨i.s.p,i.s.tops,i.inst⟩ (zC i.sd)) (zC i.sd)).2,(zS (xR ⟨i.s.p,i.s.tops,i.inst⟩ (zC i.sd)) (zC i.sd)).2):=by
  rw[yR,hR.tops,hR.ep,hk,yXa,zR hL]
 have hbest:=zVs hbR i.sd
 unfold yKd zRd kA gC zHl wU zKx zU zIg zLn zZ fD fM zDj
 have hcnt:i.s.cntOk:=hR.cnt (by omega)
 have hql:(xR ⟨i.s.p,i.s.tops,i.inst⟩ (zC i.sd)).length≤1000000:=by
  have:=yZq (yZr (fun q=>decide (i.s.p.price i.inst q.price=0)) _) (zBb ⟨i.s.p,i.s.tops,i.inst⟩ (zC i.sd))
  exact yZq this (by decide)
 refine(fun hT=>⟨⟨i.s,rfl,rfl,rfl,rfl,rfl,rfl,rfl,rfl,rfl,rfl,rfl,rfl,rfl,hcnt,fun _ _=>⟨⟨rfl,trivial,rfl,rfl,rfl,rfl,rfl,rfl,rfl,rfl,trivial,trivial⟩,⟨⟨⟨i.s.p,i.s.tops,i.inst⟩,i.sd⟩,rfl,rfl,rfl,rfl,rfl,rfl,rfl,rfl,rfl,rfl,rfl,rfl,rfl,rfl,⟨hps,hto⟩,fun _ _=>⟨hT,hT⟩⟩,⟨rfl,trivial,rfl,rfl,rfl,rfl,rfl,rfl,rfl,rfl,trivial,trivial⟩,⟨⟨⟨i.s.p,i.s.tops,i.inst⟩,i.sd⟩,rfl,rfl,rfl,rfl,rfl,rfl,rfl,rfl,rfl,rfl,rfl,rfl,rfl,rfl,⟨hps,hto⟩,fun _ _=>hT⟩⟩⟩,
  ⟨rfl,trivial,rfl,rfl,rfl,rfl,rfl,rfl,rfl,rfl,trivial,trivial⟩,⟨i.s,rfl,rfl,rfl,rfl,rfl,rfl,rfl,rfl,rfl,rfl,rfl,rfl,rfl,hcnt,fun _ _=>⟨⟨rfl,trivial,rfl,rfl,rfl,rfl,rfl,rfl,rfl,rfl,trivial,trivial⟩,⟨⟨⟨i.s.p,i.s.tops,i.inst⟩,i.sd⟩,rfl,rfl,rfl,rfl,rfl,rfl,rfl,rfl,rfl,rfl,rfl,rfl,rfl,rfl,⟨hps,hto⟩,fun _ _=>hT⟩⟩⟩⟩) ?_
 refine⟨⟨xR ⟨i.s.p,i.s.tops,i.inst⟩ (zC i.sd),zC i.sd⟩,rfl,rfl,⟨zCr _,hql⟩,fun _ _=>⟨⟨h0,by omega⟩,by omega,b,by rw[hk];exact hb,⟨i.sd,b⟩,rfl,rfl,hbR.cnt,fun _ _=>⟨b,rfl,rfl,by omega,?_⟩⟩⟩
 dsimp only
 rw[hbest]
 generalize bestL L (zC i.sd)=l at*
 generalize zS (xR ⟨i.s.p,i.s.tops,i.inst⟩ (zC i.sd)) (zC i.sd)=bq at*
 have hset:i.s.books.set i.inst.toNat b=i.s.books:=vU (by rw[hk];exact hb)
 rw[hset]
 refine Cv.cnd.mk (fun c1=>Cv.cnd.mk (fun c2=>⟨⟨zC i.sd,bq.1.price,l.1.price⟩,rfl,rfl,rfl,trivial,fun _ _=>Cv.cnd.mk (fun c3=> ?_) (fun c3=> ?_)⟩) (fun c2=> ?_)) (fun c1=> ?_)
 ·dsimp only at c3
  rw[yWl (by rw[c1,c2];simpa using c3)]at hnx
  rw[hnx];exact⟨(),k0q⟩
 ·dsimp only at c3
  rw[yWj (by rw[c1,c2];simpa using c3)]at hnx
  rw[hnx];exact⟨(),k0q⟩
 ·rw[yWl (by rw[c1,c2];rfl)]at hnx
  rw[hnx];exact⟨(),k0q⟩
 ·rw[yWj (by rw[c1];simp)]at hnx
  rw[hnx];exact⟨(),k0q⟩
theorem yFh:nextC.ok Tryz.prog 234:=okw mixed (gokc zUg (gokc zPd (gokc zTc (gokc zHc (gokc cY gok0))))) 0 (fun _=>[]) (fun _=>[]) [0] Tryz.func234 yQt
theorem z1l (i:RsI) (k:Nat):(i.add k).length=i.out.length:=by
 have:∀(l:List (Nat×Int)) (o:List Int),(l.foldl (fun o y=>o.set y.1 (IntKind.i64.wrap (o.getD y.1 0+y.2))) o).length=o.length:=by
  intro l
  induction l with
  |nil=>intro o;rfl
  |cons x l ih=>intro o;rw[yZw,ih,yXf]
 exact this _ _
theorem zWh (l:List Int) (q:Int):(uK l q).length≤l.length:=by
 rw[uK];split
 ·rw[rN];exact yXl _
 ·exact yYh _
theorem z5q (i:AlI):(qX i).length≤i.l.length:=by
 have hq:i.qs.length=i.l.length:=by simp[AlI.qs]
 rw[qX,← hq]
 repeat' split
 ·exact zWh _ _
 ·rw[zBf];split
  ·rw[aP,z1l,PsI.rs]
   split
   ·simp
   ·simp
  ·exact yYh _
 ·rw[lU];split
  ·rw[aP,z1l];exact zWh _ _
  ·exact yYh _
 ·exact yYh _
theorem zJx {inst s:Int}:∀{os:List zH} {sh:List Int} {j:Nat} {o:zH} {k:Int},os[j]? =some o→sh[j]? =some k→xS inst s (os.take (j+1)) (sh.take (j+1))=xS inst s (os.take j) (sh.take j)++(if 0<k then[⟨o.id,inst,s,o.price,k,o.qty-k⟩]else[])
 |[],_,_,_,_,h,_=>by simp at h
 |_::_,[],_,_,_,_,h=>by simp at h
 |o::os,k::sh,0,_,_,h,h2=>by
  cases h;cases h2
  rw[yXw,yXw,y1r,y1r,y1r,y1r,xS]
  split<;>rfl
 |o::os,k::sh,j+1,o',k',h,h2=>by
  rw[yXw,yXw,xS,yXw,yXw,xS,zJx (os:=os) (sh:=sh) (j:=j) h h2]
  split<;>rfl
theorem zNt {inst s:Int}:∀(os:List zH) (sh:List Int),xS inst s (os.take sh.length) (sh.take sh.length)=xS inst s os sh
 |[],sh=>by simp
 |_::_,[]=>by simp[xS]
 |o::os,k::sh=>by
  rw[yWr,yXw,yXw,xS,xS,zNt os sh]
theorem z4p (B:List (List zH)) (a b:List dK):kG B (a++b)=kG (kG B a) b:=y0r
theorem rF (B:List (List zH)) (id q:Int):(kE B id q).1.length=B.length:=by
 rw[kE];split
 ·rfl
 ·simp
theorem vV:∀(fs:List dK) (B:List (List zH)),(kG B fs).length=B.length
 |[],B=>rfl
 |f::fs,B=>by
  show(kG (kE B f.id f.qty).1 fs).length=_
  rw[vV fs,rF]
theorem yOh {p:Prd} (h:p.check=0):yU p.least∧yU p.top∧yU p.part:=by
 have ok:=jP h
 have:=ok.q1
 have:=ok.q2
 have:=ok.q3
 have:=ok.q4
 have:=ok.q5
 have:=ok.q6
 exact⟨⟨by omega,by omega⟩,⟨by omega,by omega⟩,⟨by omega,by omega⟩⟩
theorem yMn (i:TrI) (h:tradeC.cnd i):z9r i:=by
 obtain⟨hR,hB,h0,h1,hq⟩:i.s.Rep i.p i.B∧BOk i.p i.B∧0≤i.inst∧i.inst<i.B.length∧yU i.q:=h
 have hcl:=x5 i.p
 have hbl:=hB.bl
 have hsl:=hR.bl
 have ep:=hR.ep
 obtain⟨k,hk⟩:∃k:Nat,i.inst=k:=⟨i.inst.toNat,by omega⟩
 obtain⟨L,hL⟩:=yD (l:=i.B) (i:=k) (by omega)
 obtain⟨b,hb⟩:=yD (l:=i.s.books) (i:=k) (by omega)
 have hbR:=hR.bk k b L hb hL
 have hbest:=zVs hbR i.sd
 have hos:atL L (zC i.sd) (bestL L (zC i.sd)).1.price=i.os:=by rw[TrI.os,zSq,hk,yXa,zR hL]
 have hset:i.s.books.set i.inst.toNat b=i.s.books:=vU (by rw[hk];exact hb)
 have hosl:i.os.length≤250:=by
  rw[← hos];exact yZq (yZr _ _) hbR.ords.2.2
 have hsh:i.sh.length≤i.os.length:=z5q _
 obtain⟨k1,k2,k3⟩:=yOh hB.pc
 have hsb:∀(j:Nat) (n:Int),i.sh[j]? =some n→n≤1000000:=by
  intro j n hn
  cases hr:yS (i.os.map (·.qty)) i.q with
  |false=>
   have:i.sh=[]:=zXz hr
   rw[this]at hn;cases hn
  |true=>
   have:=(zPt hB.pc hr).bd j
   have e:(qX ⟨i.p,i.os,i.q⟩).getD j 0=n:=zR hn
   rw[e]at this
   have:=(z2n (kW hr).2.2.1 j).2
   omega
 unfold z9r zDu vW fC bV fT uV zU wU dI
 refine⟨⟨h0,by omega⟩,by omega,b,by rw[hk];exact hb,⟨i.sd,b⟩,rfl,rfl,hbR.cnt,fun _ _=> ?_⟩
 refine⟨b,rfl,rfl,by omega,b,by rw[hset,hk];exact hb,⟨b,L,i.sd,(bestL L (zC i.sd)).1.price⟩,rfl,by dsimp only;rw[hbest],rfl,hbR,fun _ _=> ?_⟩
 dsimp only
 try rw[hbest]
 rw[hset,hos]
 refine⟨b,rfl,rfl,by omega,⟨i.p,i.os,i.q⟩,by rw[ep],by rw[ep],by rw[ep],by rw[ep],by rw[ep],by rw[ep],by rw[ep],by rw[ep],by rw[ep],by rw[ep],by rw[ep],rfl,rfl,⟨by dsimp only;omega,hq,k1,k2,k3⟩,fun _ _=> ?_⟩
 have esh:qX ⟨i.p,i.os,i.q⟩=i.sh:=rfl
 rw[esh,hset,xF,yWk]
 refine⟨(0,i.s),rfl,rfl,rfl,rfl,rfl,rfl,rfl,rfl,rfl,rfl,rfl,rfl,rfl,rfl,rfl,fun j=>j.2.Rep i.p (kG i.B (i.fs j.1))∧j.1≤i.sh.length,fun j=>i.sh.length-j.1,⟨hR,yYh _⟩,fun j hj=> ?_⟩
 obtain⟨hjR,hjl⟩:=hj
 obtain⟨j,sj⟩:=j
 dsimp only at hjR hjl ⊢
 refine zI (fun c=> ?_) (fun c=> ?_)
 ·obtain⟨n,hn⟩:=yD (l:=i.sh) (i:=j) (by omega)
  obtain⟨o,ho⟩:=yD (l:=i.os) (i:=j) (by omega)
  have hst:=zJx (inst:=i.inst) (s:=zC i.sd) ho hn
  have hoL:o∈L:=by
   have:=yWt ho
   rw[← hos]at this
   exact(yYn.1 this).1
  have hoq:=(hbR.ords.1 o hoL).q
  have hnb:=hsb j n hn
  refine⟨⟨by omega,by omega⟩,n,elI hn,zI (fun c2=> ?_) (fun c2=> ?_)⟩
  ·rw[yWl (show 0<n from c2)]at hst
   have hfl:(i.fs j).length≤j:=by
    have:∀(os:List zH) (sh:List Int),(xS i.inst (zC i.sd) os sh).length≤os.length:=by
     intro os
     induction os with
     |nil=>intro sh;exact yXl 0
     |cons o os ih=>
      intro sh
      cases sh with
      |nil=>exact yYh _
      |cons k sh=>
       have:=ih sh
       rw[xS]
       split
       ·simp only[yWr];omega
       ·simp only[yWr];omega
    exact yZq (this _ _) (by rw[yXd];omega)
   refine⟨⟨by omega,by omega⟩,o.id,o.side,o.price,o.qty,o.top,yMj ho,⟨sj,i.p,kG i.B (i.fs j),o.id,n⟩,rfl,rfl,rfl,⟨hjR,by dsimp only;rw[vV];omega⟩,fun s' hs'=>⟨by rw[yWk];omega,(j+1,s'),wjn (by omega),rfl,?_,⟨?_,by dsimp only;omega⟩,by dsimp only;omega,k0q⟩⟩
   ·show List.map yT (xS i.inst (zC i.sd) (i.os.take (j+1)) (i.sh.take (j+1)))=_
    rw[hst,yWv,w64 (by omega)];rfl
   ·show s'.Rep i.p (kG i.B (xS i.inst (zC i.sd) (i.os.take (j+1)) (i.sh.take (j+1))))
    rw[hst,z4p];exact hs'
  ·rw[yWj (show ¬0<n from c2),yXi]at hst
   refine⟨(j+1,sj),wjn (by omega),rfl,?_,⟨?_,by dsimp only;omega⟩,by dsimp only;omega,k0q⟩
   ·show List.map yT (xS i.inst (zC i.sd) (i.os.take (j+1)) (i.sh.take (j+1)))=_
    rw[hst];rfl
   ·show sj.Rep i.p (kG i.B (xS i.inst (zC i.sd) (i.os.take (j+1)) (i.sh.take (j+1))))
    rw[hst];exact hjR
 ·have hje:j=i.sh.length:=by omega
  subst hje
  have hfa:i.fs i.sh.length=qK i.p i.B i.inst (zC i.sd) i.q:=zNt _ _
  rw[hfa]at hjR ⊢
  exact⟨sj,rfl,rfl,hjR⟩
theorem z9s:tradeC.ok Tryz.prog 235:=okw mixed (gokc zHc (gokc yRh (gokc yDz (gokc zDf gok0)))) 0 (fun _=>[]) (fun i=>yPn i) [0] Tryz.func235 yMn
open Go Cv Go.Proofs
structure wB where
 price:Int
 qty:Int
 implied:Bool
 fills:List dK
 deriving DecidableEq
def j8 (t:wB):List D:=[.v (.int .i64 t.price),.v (.int .i64 t.qty),.v (.bool t.implied),.ro 6 (t.fills.map yT)]
def bI (p:Prd) (B:List (List zH)) (inst:Int) (sd:Bool) (price qty:Int):Option (wB×List (List zH)):=
 let n:=yR p B inst (zC (!sd))
 if(n.2.2 && (dP sd price n.1.price && decide (1≤n.1.qty)))=true then
  if n.2.1=true then
   let f1:=qK p B n.1.a.inst n.1.a.side (min qty n.1.qty)
   let f2:=qK p (kG B f1) n.1.b.inst n.1.b.side (min qty n.1.qty)
   some (⟨n.1.price,min qty n.1.qty,true,f1++f2⟩,kG (kG B f1) f2)
  else
   let f:=qK p B inst (zC (!sd)) (min qty n.1.qty)
   some (⟨n.1.price,min qty n.1.qty,false,f⟩,kG B f)
 else none
structure yOk where
 steps:List wB
 left:Int
 B:List (List zH)
def zGu (p:Prd) (inst:Int) (sd:Bool) (price:Int):Nat→List (List zH)→Int→yOk
 |0,B,q=>⟨[],q,B⟩
 |n+1,B,q=>if q≤0 then⟨[],q,B⟩else match bI p B inst sd price q with
  |none=>⟨[],q,B⟩
  |some (t,B')=>let r:=zGu p inst sd price n B' (q-t.qty);⟨t::r.steps,r.left,r.B⟩
def j9 (p:Prd) (B:List (List zH)) (inst:Int) (sd:Bool) (price q:Int):yOk:=zGu p inst sd price q.toNat B q
structure RunI where
 s:MSt
 p:Prd
 B:List (List zH)
 inst:Int
 sd:Bool
 price:Int
 q:Int
def RunI.r (i:RunI):yOk:=j9 i.p i.B i.inst i.sd i.price i.q
def runC:Con where
 ι:=RunI
 pat:=fun i=>[.nm 0 0,zA i.inst,zA (zC i.sd),zA i.price,zA i.q]
 pre:=fun i=>[zD i.s]
 cnd:=fun i=>i.s.Rep i.p i.B∧BOk i.p i.B∧(0≤i.inst∧i.inst<i.B.length)∧1≤i.q∧i.q≤1000000
 alts:=fun i=>[{o:=MSt,res:=fun _=> .tup [.own 1,zA i.r.left],post:=fun s=>[zD s,.own 321 4 (i.r.steps.map j8)],rel:=fun s=>s.Rep i.p i.r.B}]
structure zLf where
 s:MSt
 B:List (List zH)
 steps:List wB
 q:Int
def yVs:List SAnn:=[
 {ι:=zLf,slots:=fun j=>[(0,.nm 0 0),(12,.own 1),(4,zA j.q)],rows:=fun j=>[zD j.s,.own 321 4 (j.steps.map j8)]},
 {ι:=Unit,slots:=fun _=>[],rows:=fun _=>[],un:=3}]
open Go Cv Go.Proofs
def zJm (a:zLf→Nat) (b:zLf) (c:zLf) (d:RunI):Prop:=a b<a c∧AObj.fro 1 (iE d.s.p.months)=AObj.fro 1 (iE d.s.p.months)∧AObj.fro 1 (iE d.s.p.settle)=AObj.fro 1 (iE d.s.p.settle)
def zBr (a:TrI):Prop:=a.s.Rep a.p a.B∧BOk a.p a.B∧0≤a.inst∧a.inst<(↑a.B.length:Int)∧(-9223372036854775808)≤a.q∧a.q≤9223372036854775807
def zIk (a:RunI) (b:zLf) (c:NxI):Prop:=∃(d:MSt),a.r.left=b.q∧zD d=zD c.s∧List.map j8 a.r.steps=List.map j8 b.steps∧d.Rep a.p a.r.B
def sQ (a:TrI):=(List.map yT (uV a))
def zXt (a:RunI):Prop:=∃(b:zLf),b.q=a.q∧sb b.s.p.code=sb a.s.p.code∧b.s.p.tick=a.s.p.tick∧b.s.p.low=a.s.p.low∧b.s.p.high=a.s.p.high∧b.s.p.wide=a.s.p.wide∧b.s.p.rule=a.s.p.rule∧b.s.p.top=a.s.p.top∧b.s.p.least=a.s.p.least∧b.s.p.part=a.s.p.part∧AObj.objs 241 Book 6 zQ b.s.books none=AObj.objs 241 Book 6 zQ a.s.books none∧yW b.s.wh=yW a.s.wh∧AObj.fro 1 (iE b.s.p.months)=AObj.fro 1 (iE a.s.p.months)∧AObj.fro 1 (iE b.s.p.settle)=AObj.fro 1 (iE a.s.p.settle)∧List.map j8 b.steps=[]∧∃(c:zLf→Prop),∃(d:zLf→Nat),c b∧∀(e:zLf),c e→cnd (decide (e.q>0)) (∃(f:Bool),zC f=zC a.sd∧True∧∀(g:Unit),True→∃(h:NxI),h.inst=a.inst∧zC h.sd=zC !f∧zD h.s=zD e.s∧(h.s.Rep h.p h.B∧BOk h.p h.B∧0≤h.inst∧h.inst<(↑h.B.length:Int))∧∀(j:Unit),True→cnd (!(zZ h).snd.snd) (zIk a e h) (∃(k:GoI),zC k.s=zC a.sd∧k.p=a.price∧k.x=(zZ h).fst.price∧True∧∀(l:Unit),True→cnd (!dP k.s k.p k.x) (zIk a e h) (cnd (zZ h).snd.fst (∃(m:TrI),m.inst=(zZ h).fst.a.inst∧zC m.sd=(zZ h).fst.a.side∧m.q=min e.q (zZ h).fst.qty∧zD m.s=zD h.s∧(zBr m)∧∀(n:MSt),n.Rep m.p (fT m)→True∧(sQ m).length*(48:Nat)≤(140737488355328:Nat)∧∃(p:TrI),p.inst=(zZ h).fst.b.inst∧zC p.sd=(zZ h).fst.b.side∧p.q=min e.q (zZ h).fst.qty∧zD p.s=zD n∧(zBr p)∧∀(q:MSt),q.Rep p.p (fT p)→True∧((sQ m).length+(sQ p).length)*(48:Nat)≤(140737488355328:Nat)∧((List.map j8 e.steps).length+1)*(48:Nat)≤(140737488355328:Nat)∧∃(r:zLf),r.q=IntKind.i64.wrap (e.q-min e.q (zZ h).fst.qty)∧zD r.s=zD q∧List.map j8 r.steps=List.map j8 e.steps++[[dI ((zZ h).fst.price),dI (min e.q (zZ h).fst.qty),D.v (.bool (zZ h).snd.fst),D.ro 6 (List.map yT (uV m)++List.map yT (uV p))]]∧c r∧zJm d r e a) (∃(m:Bool),zC m=zC a.sd∧True∧∀(n:Unit),True→min e.q (zZ h).fst.qty=min e.q (zZ h).fst.qty∧∃(p:TrI),p.inst=a.inst∧zC p.sd=zC !m∧p.q=min e.q (zZ h).fst.qty∧zD p.s=zD h.s∧(zBr p)∧∀(q:MSt),q.Rep p.p (fT p)→((List.map j8 e.steps).length+1)*(48:Nat)≤(140737488355328:Nat)∧∃(r:zLf),r.q=IntKind.i64.wrap (e.q-min e.q (zZ h).fst.qty)∧zD r.s=zD q∧List.map j8 r.steps=List.map j8 e.steps++[[dI ((zZ h).fst.price),dI (min e.q (zZ h).fst.qty),D.v (.bool (zZ h).snd.fst),D.ro 6 (sQ p)]]∧c r∧zJm d r e a)))) (∃(f:MSt),a.r.left=e.q∧zD f=zD e.s∧List.map j8 a.r.steps=List.map j8 e.steps∧f.Rep a.p a.r.B)
def aD (a:RunI):Prop:=∃(b:MSt),a.r.left=a.q∧sb b.p.code=sb a.s.p.code∧b.p.tick=a.s.p.tick∧b.p.low=a.s.p.low∧b.p.high=a.s.p.high∧b.p.wide=a.s.p.wide∧b.p.rule=a.s.p.rule∧b.p.top=a.s.p.top∧b.p.least=a.s.p.least∧b.p.part=a.s.p.part∧AObj.objs 241 Book 6 zQ b.books none=AObj.objs 241 Book 6 zQ a.s.books none∧yW b.wh=yW a.s.wh∧AObj.fro 1 (iE b.p.months)=AObj.fro 1 (iE a.s.p.months)∧AObj.fro 1 (iE b.p.settle)=AObj.fro 1 (iE a.s.p.settle)∧List.map j8 a.r.steps=[]∧b.Rep a.p a.r.B
def yTb (i:RunI):Prop:=
 cnd (decide (i.inst≥0)) (cnd (decide (i.inst<(↑i.s.books.length:Int))) (cnd (zC i.sd==1) (cnd (decide (i.q≥1)) (cnd (!decide (i.q≤1000000)) (aD i) (zXt i)) (aD i)) (cnd (zC i.sd==2) (cnd (decide (i.q≥1)) (cnd (!decide (i.q≤1000000)) (aD i) (zXt i)) (aD i)) (aD i))) (aD i)) (aD i)
open Go Cv Go.Proofs
structure QOk (T:List Top) (q:Quote):Prop where
 a:0≤q.a.inst∧q.a.inst<T.length
 b:0≤q.b.inst∧q.b.inst<T.length
 sa:q.a.side=1∨q.a.side=2
 sb:q.b.side=1∨q.b.side=2
 ne:q.a.inst≠q.b.inst
 ha:(T.getD q.a.inst.toNat top0).has q.a.side=true
 hb:(T.getD q.b.inst.toNat top0).has q.b.side=true
 qty:q.qty=min ((T.getD q.a.inst.toNat top0).qty q.a.side) ((T.getD q.b.inst.toNat top0).qty q.b.side)
theorem z0c {T:List Top} {a b:Leg} {less:Bool} {q:Quote} (h:q∈mkq T a b less) (h1:0≤a.inst∧a.inst<T.length) (h2:0≤b.inst∧b.inst<T.length) (h3:a.side=1∨a.side=2) (h4:b.side=1∨b.side=2) (hne:a.inst≠b.inst):QOk T q∧q.a=a∧q.b=b:=by
 cases less
 all_goals
  simp only[mkq,yXb,↓reduceIte]at h
  split at h
  ·rename_i hc
   simp only[yWw]at hc
   rw[yYc]at h
   subst h
   exact⟨⟨h1,h2,h3,h4,hne,hc.1.1,hc.1.2,rfl⟩,rfl,rfl⟩
  ·cases h
theorem yOv:∀n≤6,∀k<n+n*(n-1) / 2,n≤k→(kL n k n 0).1≠(kL n k n 0).2.1:=by decide
theorem z3e {p:Prd} (hc:p.check=0) {k:Nat} (hk:k<p.count) (hs:(p.legs k).2.2=true):(p.legs k).1≠(p.legs k).2.1:=by
 have m6:=(jP hc).m6
 have hk':=hk
 rw[Prd.count,yWl hc]at hk'
 by_cases h:k<p.months.length
 ·rw[Prd.legs,yWj (by omega),yWl (by omega)]at hs
  cases hs
 ·rw[Prd.legs,yWj (by omega),yWj (by omega)]
  exact yOv p.months.length m6 k hk' (by omega)
theorem z4r:∀n≤6,∀a<n,∀b<n,a<b→(yL n a:Int)+b-a-1≥n:=by decide
theorem zNr {p:Prd} (hc:p.check=0) {a b:Nat} (hab:a<b) (hb:b<p.months.length):(p.months.length:Int)≤(p.spread a b).1:=by
 have m6:=(jP hc).m6
 have:=z4r p.months.length m6 a (by omega) b hb hab
 rw[Prd.spread,yWj (by omega)]
 simpa using this
theorem z2b {p:Prd} (hc:p.check=0) {T:List Top} (hT:T.length=p.count) {inst:Int} {s:Int} (hs:s=1∨s=2) {q:Quote} (h:q∈kB ⟨p,T,inst⟩ s):QOk T q∧0≤inst∧inst<p.count∧
 (((p.legs inst).2.2=true∧q.a=⟨(p.legs inst).1,s⟩∧q.b=⟨(p.legs inst).2.1,3-s⟩)∨(inst<p.months.length∧q.a.inst≠inst∧(p.months.length:Int)≤q.a.inst)):=by
 rw[kB]at h
 dsimp only at h
 split at h
 ·cases h
 ·rename_i hn
  have h0:0≤inst∧inst<p.count:=by omega
  obtain⟨k,rfl⟩:∃k:Nat,inst=k:=⟨inst.toNat,by omega⟩
  have hk:k<p.count:=by omega
  have hge:=zMa hc
  split at h
  ·rename_i hl
   obtain⟨q',hq',rfl⟩:=yYa.1 h
   have hle:=dJ hc hk
   rcases hle with⟨_,l1,l2,l3,l4⟩|⟨e,_⟩
   ·obtain⟨ok,e1,e2⟩:=z0c hq' (by dsimp only;omega) (by dsimp only;omega) (by dsimp only;omega) hs (fun e=>z3e hc hk hl e.symm)
    refine⟨⟨by dsimp only[dQ];omega,by dsimp only[dQ];omega,hs,by dsimp only[dQ];omega,z3e hc hk hl,?_,?_,?_⟩,h0.1,h0.2,.inl ⟨hl,rfl,rfl⟩⟩
    ·have:=ok.hb;rw[e2]at this;exact this
    ·have:=ok.ha;rw[e1]at this;exact this
    ·have:=ok.qty;rw[e1,e2]at this;dsimp only[dQ];rw[this];exact Int.min_comm _ _
   ·rw[e]at hl;cases hl
  ·rename_i hl
   have hm:k<p.months.length:=by
    rcases dJ hc hk with⟨e,_⟩|⟨_,e⟩
    ·exact absurd e hl
    ·exact e
   rcases yXo.1 h with h|h
   ·obtain⟨j,hj,h⟩:=yYz.1 h
    have hj:=yZl.1 hj
    rw[yXa]at hj
    have s1:=cG hc (a:=k) (b:=k+1+j) (by omega) (by omega)
    have s2:=zNr hc (a:=k) (b:=k+1+j) (by omega) (by omega)
    have ec:((k:Int)+1+j)=((k+1+j:Nat):Int):=by omega
    rw[ec]at h
    obtain⟨ok,e1,e2⟩:=z0c h (by dsimp only;omega) (by dsimp only;omega) hs hs (by dsimp only;omega)
    exact⟨ok,h0.1,h0.2,.inr ⟨by omega,by rw[e1];dsimp only;omega,by rw[e1];exact s2⟩⟩
   ·obtain⟨j,hj,h⟩:=yYz.1 h
    have hj:=yZl.1 hj
    rw[yXa]at hj
    have s1:=cG hc (a:=j) (b:=k) (by omega) (by omega)
    have s2:=zNr hc (a:=j) (b:=k) (by omega) (by omega)
    obtain⟨ok,e1,e2⟩:=z0c h (by dsimp only;omega) (by dsimp only;omega) (by dsimp only;omega) hs (by dsimp only;omega)
    exact⟨ok,h0.1,h0.2,.inr ⟨by omega,by rw[e1];dsimp only;omega,by rw[e1];exact s2⟩⟩
theorem zOh {s:Int}:∀(r:List Quote) (q:Quote),r.foldl (fun b q=>if btr s q.price b.price then q else b) q∈q::r
 |[],q=>yWp
 |x::r,q=>by
  rw[yZw]
  have:=zOh (s:=s) r (if btr s x.price q.price then x else q)
  rcases yXe.1 this with e|h
  ·rw[e];split
   ·exact yWq _ yWp
   ·exact yWp
  ·exact yWq _ (yWq _ h)
theorem zEd {l:List Quote} {s:Int} (h:(zS l s).2=true):(zS l s).1∈l:=by
 cases l with
 |nil=>cases h
 |cons q r=>exact zOh r q
def yGs (B:List (List zH)):Prop:=∀(k:Nat) (L:List zH),B[k]?=some L→(∀o∈L,zId o)∧(L.map (·.id)).Nodup∧L.length≤250
theorem MSt.Rep.ords {s:MSt} {p:Prd} {B:List (List zH)} (h:s.Rep p B):yGs B:=by
 intro k L hL
 obtain⟨b,hb⟩:=yD (l:=s.books) (i:=k) (by rw[h.bl];exact(yWn.1 hL).1)
 exact(h.bk k b L hb hL).ords
theorem z3y:∀{l:List zH} {v:Lv},(∀o∈l,zId o)→v∈grp l→1≤v.qty∧v.qty≤1000000*l.length
 |[],v,_,h=>by cases h
 |o::l,v,ho,h=>by
  have h0:=(ho o yWp).q
  have ih:∀v∈grp l,1≤v.qty∧v.qty≤1000000*l.length:=fun v hv=>z3y (fun x hx=>ho x (yWq _ hx)) hv
  rw[grp]at h
  rw[yWr]
  split at h
  ·rw[yYc]at h
   subst h;dsimp only;omega
  ·rename_i w ws e
   rw[e]at ih
   have hw:=ih w yWp
   split at h
   ·rcases yXe.1 h with rfl|h
    ·dsimp only;omega
    ·have:=ih v (yWq _ h);omega
   ·rcases yXe.1 h with rfl|h
    ·dsimp only;omega
    ·have:=ih v h;omega
theorem zZi {L:List zH} {s:Int} (h:∀o∈L,zId o) (hl:L.length≤250) (hb:(bestL L s).2=true):1≤(bestL L s).1.qty∧(bestL L s).1.qty≤250000000:=by
 rw[bestL]at hb ⊢
 cases hl2:uM L s with
 |nil=>rw[hl2]at hb;cases hb
 |cons v vs=>
  dsimp only
  have hm:v∈grp (L.filter fun o=>decide (o.side=s)):=by rw[← uM,hl2];exact yWp
  have:=z3y (fun o ho=>h o (yYn.1 ho).1) hm
  have:=yZr (fun o:zH=>decide (o.side=s)) L
  omega
theorem yAb {B:List (List zH)} {k:Nat} {L:List zH} (hL:B[k]? =some L):(B.map qU).getD k top0=qU L:=zR (by rw[yXr,hL];rfl)
theorem zHa (L:List zH) {s:Int} (hs:s=1∨s=2):(qU L).has s=(bestL L s).2∧(qU L).qty s=(bestL L s).1.qty∧(qU L).price s=(bestL L s).1.price:=by
 obtain⟨e1,e2,e3,e4,e5,e6⟩:=zHu L
 rcases hs with rfl|rfl
 ·exact⟨e3,e2,e1⟩
 ·exact⟨e6,e5,e4⟩
theorem z3m {p:Prd} {B:List (List zH)} (h:BOk p B) (ho:yGs B) {inst:Int} (hi:0≤inst∧inst<B.length) {s:Int} (hs:s=1∨s=2) (hn:(yR p B inst s).2.2=true):
 (1≤(yR p B inst s).1.qty∧(yR p B inst s).1.qty≤250000000)∧((yR p B inst s).2.1=true→(yR p B inst s).1∈kB ⟨p,B.map qU,inst⟩ s∧QOk (B.map qU) (yR p B inst s).1)∧
 ((yR p B inst s).2.1=false→(bestL (B.getD inst.toNat []) s).2=true∧(yR p B inst s).1.price=(bestL (B.getD inst.toNat []) s).1.price∧(yR p B inst s).1.qty=(bestL (B.getD inst.toNat []) s).1.qty):=by
 obtain⟨k,rfl⟩:∃k:Nat,inst=k:=⟨inst.toNat,by omega⟩
 obtain⟨L,hL⟩:=yD (l:=B) (i:=k) (by omega)
 have hLo:=ho k L hL
 rw[yR]at hn ⊢
 rw[yXa,zR hL]at hn ⊢
 split
 ·rename_i c
  simp only[yWw]at c
  exact⟨zZi hLo.1 hLo.2.2 c.1,⟨fun e=>(by cases e),fun _=>⟨c.1,rfl,rfl⟩⟩⟩
 ·rename_i c
  rw[yWj c]at hn
  dsimp only at hn ⊢
  have hm:=zEd hn
  have ha:(zS (xR ⟨p,B.map qU,k⟩ s) s).1∈kB ⟨p,B.map qU,k⟩ s:=(yYn.1 hm).1
  obtain⟨ok,_⟩:=z2b h.pc (by rw[yWk];exact h.bl) hs ha
  refine⟨?_,fun _=>⟨ha,ok⟩,fun e=>by rw[hn]at e;cases e⟩
  generalize (zS (xR ⟨p,B.map qU,k⟩ s) s).1=q at ok
  have a:=ok.a
  have b:=ok.b
  rw[yWk]at a b
  obtain⟨La,hLa⟩:=yD (l:=B) (i:=q.a.inst.toNat) (by omega)
  obtain⟨Lb,hLb⟩:=yD (l:=B) (i:=q.b.inst.toNat) (by omega)
  have e1:=ok.ha
  have e2:=ok.hb
  have e3:=ok.qty
  rw[yAb hLa]at e1 e3
  rw[yAb hLb]at e2 e3
  rw[(zHa La ok.sa).1]at e1
  rw[(zHa Lb ok.sb).1]at e2
  rw[(zHa La ok.sa).2.1,(zHa Lb ok.sb).2.1]at e3
  have:=zZi (ho _ _ hLa).1 (ho _ _ hLa).2.2 e1
  have:=zZi (ho _ _ hLb).1 (ho _ _ hLb).2.2 e2
  omega
theorem yAo {L:List zH} {id q:Int} {o:zH} (h:o∈(xY L id q).1):∃o'∈L,o.price=o'.price∧o.side=o'.side∧o.id=o'.id:=by
 rw[xY]at h
 split at h
 ·exact⟨o,h,rfl,rfl,rfl⟩
 split at h
 ·exact⟨o,h,rfl,rfl,rfl⟩
 obtain⟨o',ho',e⟩:=y1v.1 h
 refine⟨o',ho',?_⟩
 split at e
 ·split at e
  ·cases e
  ·cases e;exact⟨rfl,rfl,rfl⟩
 ·cases e;exact⟨rfl,rfl,rfl⟩
theorem BOk.take {p:Prd} {B:List (List zH)} (h:BOk p B) (id q:Int):BOk p (kE B id q).1:=by
 refine⟨h.pc,h.ps,by rw[rF];exact h.bl,fun k L hL o ho=> ?_⟩
 rw[kE]at hL
 split at hL
 ·exact h.pr k L hL o ho
 ·rename_i j hj
  dsimp only at hL
  rcases dW hL with⟨rfl,rfl⟩|⟨_,hL⟩
  ·obtain⟨o',ho',e,_⟩:=yAo ho
   obtain⟨L',hL',_⟩:=uW hj
   rw[zR hL']at ho'
   rw[e];exact h.pr k L' hL' o' ho'
  ·exact h.pr k L hL o ho
theorem BOk.takes {p:Prd}:∀{fs:List dK} {B:List (List zH)},BOk p B→BOk p (kG B fs)
 |[],B,h=>h
 |f::fs,B,h=>BOk.takes (fs:=fs) (h.take f.id f.qty)
theorem zTk (inst s:Int):∀(os:List zH) (sh:List Int),(xS inst s os sh).length≤os.length
 |[],sh=>yXl 0
 |o::os,[]=>yYh _
 |o::os,k::sh=>by
  have:=zTk inst s os sh
  rw[xS]
  split
  ·simp only[yWr];omega
  ·simp only[yWr];omega
theorem mL {p:Prd} {B:List (List zH)} (ho:yGs B) (inst s q:Int):(qK p B inst s q).length≤250:=by
 refine yZq (zTk _ _ _ _) (yZq (yZr _ _) ?_)
 by_cases h:inst.toNat<B.length
 ·obtain⟨L,hL⟩:=yD h
  rw[zR hL];exact(ho _ _ hL).2.2
 ·rw[yWs,yXm (by omega)];exact yYh _
theorem zMi {p:Prd} {B:List (List zH)} {inst:Int} {sd:Bool} {price q:Int} {t:wB} {B':List (List zH)} (hq:1≤q) (h:bI p B inst sd price q=some (t,B')):1≤t.qty∧t.qty≤q:=by
 rw[bI]at h
 dsimp only at h
 split at h
 ·rename_i c
  simp only[yWw,yYe]at c
  split at h
  ·cases h;dsimp only;omega
  ·cases h;dsimp only;omega
 ·cases h
theorem zWp {p:Prd} {inst:Int} {sd:Bool} {price:Int}:∀(m n:Nat) (B:List (List zH)) (q:Int),q.toNat≤m→q.toNat≤n→zGu p inst sd price m B q=zGu p inst sd price n B q
 |0,0,B,q,_,_=>rfl
 |0,n+1,B,q,h,_=>by rw[zGu,zGu,yWl (by omega)]
 |m+1,0,B,q,_,h=>by rw[zGu,zGu,yWl (by omega)]
 |m+1,n+1,B,q,h1,h2=>by
  rw[zGu,zGu]
  split
  ·rfl
  ·rename_i hq
   cases hs:bI p B inst sd price q with
   |none=>rfl
   |some x=>
    obtain⟨t,B'⟩:=x
    have:=zMi (by omega) hs
    dsimp only
    rw[zWp m n B' (q-t.qty) (by omega) (by omega)]
theorem sS {p:Prd} {B:List (List zH)} {inst:Int} {sd:Bool} {price q:Int} (h:q≤0∨bI p B inst sd price q=none):j9 p B inst sd price q=⟨[],q,B⟩:=by
 rw[j9]
 cases hn:q.toNat with
 |zero=>rfl
 |succ n=>
  rw[zGu]
  rcases h with h|h
  ·rw[yWl h]
  ·rw[yWj (by omega),h]
theorem zJe {p:Prd} {B:List (List zH)} {inst:Int} {sd:Bool} {price q:Int} {t:wB} {B':List (List zH)} (hq:1≤q) (h:bI p B inst sd price q=some (t,B')):
 j9 p B inst sd price q=⟨t::(j9 p B' inst sd price (q-t.qty)).steps,(j9 p B' inst sd price (q-t.qty)).left,(j9 p B' inst sd price (q-t.qty)).B⟩:=by
 have ht:=zMi hq h
 rw[j9]
 cases hn:q.toNat with
 |zero=>omega
 |succ n=>
  rw[zGu,yWj (by omega),h]
  dsimp only
  rw[zWp n (q-t.qty).toNat B' (q-t.qty) (by omega) (yXl _)]
  rfl
open Go Cv Go.Proofs
theorem gH {s:Int} (h:s=1∨s=2):zC (decide (s=2))=s:=by
 rcases h with rfl|rfl<;>rfl
theorem yUw (i:RunI) (h:runC.cnd i):yTb i:=by
 obtain⟨hR,hB,⟨h0,h1⟩,hq1,hq2⟩:i.s.Rep i.p i.B∧BOk i.p i.B∧(0≤i.inst∧i.inst<i.B.length)∧1≤i.q∧i.q≤1000000:=h
 have hbl:=hR.bl
 have hcl:=x5 i.p
 have hbB:=hB.bl
 unfold yTb aD zXt fT sQ uV zIk zBr zJm zZ dI
 refine(fun hT=>zI (fun c=>zI (fun c2=>Cv.cnd.mk (fun _=>zI (fun _=>Cv.cnd.mk (fun e=>absurd hq2 (by simpa using e)) (fun _=>hT)) (fun e=>absurd hq1 e)) (fun e1=>Cv.cnd.mk (fun _=>zI (fun _=>Cv.cnd.mk (fun e=>absurd hq2 (by simpa using e)) (fun _=>hT)) (fun e=>absurd hq1 e)) (fun e2=>by
  rcases zCr i.sd with e|e
  ·rw[e]at e1;cases e1
  ·rw[e]at e2;cases e2))) (fun c2=>absurd (by omega) c2)) (fun c=>absurd h0 c)) ?_
 refine⟨⟨i.s,i.B,[],i.q⟩,rfl,rfl,rfl,rfl,rfl,rfl,rfl,rfl,rfl,rfl,rfl,rfl,rfl,rfl,rfl,fun j=>j.s.Rep i.p j.B∧BOk i.p j.B∧j.B.length=i.B.length∧(0≤j.q∧j.q≤i.q)∧(j.steps.length:Int)≤i.q-j.q∧i.r=⟨j.steps++(j9 i.p j.B i.inst i.sd i.price j.q).steps,(j9 i.p j.B i.inst i.sd i.price j.q).left,(j9 i.p j.B i.inst i.sd i.price j.q).B⟩,fun j=>j.q.toNat,⟨hR,hB,rfl,⟨by dsimp only;omega,y1f _⟩,by dsimp only;simp,rfl⟩,?_⟩
 rintro⟨s,B,st,q⟩ ⟨r1,r2,r3,⟨r4,r4'⟩,r5,r6⟩
 dsimp only at r1 r2 r3 r4 r4' r5 r6 ⊢
 have hno (hn:q≤0∨bI i.p B i.inst i.sd i.price q=none):∃(o:MSt),i.r.left=q∧AObj.adt MSt (5:Nat) xL o=AObj.adt MSt (5:Nat) xL s∧List.map j8 i.r.steps=List.map j8 st∧o.Rep i.p i.r.B:=by
  rw[sS hn,yXi]at r6
  rw[r6];exact⟨s,rfl,rfl,rfl,r1⟩
 refine zI (fun c=> ?_) (fun c=>hno (.inl (by omega)))
 have c:0<q:=c
 refine⟨i.sd,rfl,trivial,fun _ _=>⟨⟨s,i.p,B,i.inst,!i.sd⟩,rfl,rfl,rfl,⟨r1,r2,h0,by dsimp only;omega⟩,fun _ _=> ?_⟩⟩
 dsimp only
 have hni:=z3m r2 r1.ords (inst:=i.inst) ⟨h0,by omega⟩ (zCr (!i.sd))
 have hsb:bI i.p B i.inst i.sd i.price q=(if((yR i.p B i.inst (zC (!i.sd))).2.2 && (dP i.sd i.price (yR i.p B i.inst (zC (!i.sd))).1.price && decide (1≤(yR i.p B i.inst (zC (!i.sd))).1.qty)))=true then
  if(yR i.p B i.inst (zC (!i.sd))).2.1=true then
   some (⟨(yR i.p B i.inst (zC (!i.sd))).1.price,min q (yR i.p B i.inst (zC (!i.sd))).1.qty,true,qK i.p B (yR i.p B i.inst (zC (!i.sd))).1.a.inst (yR i.p B i.inst (zC (!i.sd))).1.a.side (min q (yR i.p B i.inst (zC (!i.sd))).1.qty)++qK i.p (kG B (qK i.p B (yR i.p B i.inst (zC (!i.sd))).1.a.inst (yR i.p B i.inst (zC (!i.sd))).1.a.side (min q (yR i.p B i.inst (zC (!i.sd))).1.qty))) (yR i.p B i.inst (zC (!i.sd))).1.b.inst (yR i.p B i.inst (zC (!i.sd))).1.b.side (min q (yR i.p B i.inst (zC (!i.sd))).1.qty)⟩,kG (kG B (qK i.p B (yR i.p B i.inst (zC (!i.sd))).1.a.inst (yR i.p B i.inst (zC (!i.sd))).1.a.side (min q (yR i.p B i.inst (zC (!i.sd))).1.qty))) (qK i.p (kG B (qK i.p B (yR i.p B i.inst (zC (!i.sd))).1.a.inst (yR i.p B i.inst (zC (!i.sd))).1.a.side (min q (yR i.p B i.inst (zC (!i.sd))).1.qty))) (yR i.p B i.inst (zC (!i.sd))).1.b.inst (yR i.p B i.inst (zC (!i.sd))).1.b.side (min q (yR i.p B i.inst (zC (!i.sd))).1.qty)))
  else some (⟨(yR i.p B i.inst (zC (!i.sd))).1.price,min q (yR i.p B i.inst (zC (!i.sd))).1.qty,false,qK i.p B i.inst (zC (!i.sd)) (min q (yR i.p B i.inst (zC (!i.sd))).1.qty)⟩,kG B (qK i.p B i.inst (zC (!i.sd)) (min q (yR i.p B i.inst (zC (!i.sd))).1.qty)))else none):=rfl
 generalize yR i.p B i.inst (zC (!i.sd))=nb at hni hsb ⊢
 refine Cv.cnd.mk (fun n1=> ?_) (fun n1=>⟨⟨i.sd,i.price,nb.1.price⟩,rfl,rfl,rfl,trivial,fun _ _=>Cv.cnd.mk (fun n2=> ?_) (fun n2=> ?_)⟩)
 ·have n1:nb.2.2=false:=by simpa using n1
  rw[n1,yWj (by simp)]at hsb
  exact hno (.inr hsb)
 ·have n2:dP i.sd i.price nb.1.price=false:=by simpa using n2
  rw[n2,yWj (by simp)]at hsb
  exact hno (.inr hsb)
 have n1:nb.2.2=true:=by simpa using n1
 have n2:dP i.sd i.price nb.1.price=true:=by simpa using n2
 obtain⟨⟨b1,b2⟩,hi,hr⟩:=hni n1
 rw[n1,n2,yXc b1,yWl (by rfl)]at hsb
 have hk:yU (min q nb.1.qty):=by constructor<;>omega
 have hsl:(st.length+1)*48≤140737488355328:=by omega
 have beh:∀(t:wB) (B':List (List zH)) (s':MSt),bI i.p B i.inst i.sd i.price q=some (t,B')→s'.Rep i.p B'→BOk i.p B'→B'.length=B.length→
  (s'.Rep i.p B'∧BOk i.p B'∧B'.length=i.B.length∧(0≤q-t.qty∧q-t.qty≤i.q)∧((st++[t]).length:Int)≤i.q-(q-t.qty)∧i.r=⟨(st++[t])++(j9 i.p B' i.inst i.sd i.price (q-t.qty)).steps,(j9 i.p B' i.inst i.sd i.price (q-t.qty)).left,(j9 i.p B' i.inst i.sd i.price (q-t.qty)).B⟩)∧(q-t.qty).toNat<q.toNat:=by
  intro t B' s' h1 h2 h3 h4
  have ht:=zMi (by omega) h1
  refine⟨⟨h2,h3,by omega,⟨by omega,by omega⟩,by rw[yWi,yZs];omega,?_⟩,by omega⟩
  rw[zJe (by omega) h1]at r6
  rw[r6,yWo];rfl
 refine Cv.cnd.mk (fun n3=> ?_) (fun n3=> ?_)
 ·obtain⟨_,ok⟩:=hi n3
  rw[n3,yWl rfl]at hsb
  have oka:=ok.a
  have okb:=ok.b
  rw[yWk]at oka okb
  have ea:=gH ok.sa
  have eb:=gH ok.sb
  refine⟨⟨s,i.p,B,nb.1.a.inst,decide (nb.1.a.side=2),min q nb.1.qty⟩,rfl,ea,rfl,rfl,⟨r1,r2,oka.1,oka.2,hk⟩,fun s1 hs1=> ?_⟩
  dsimp only at hs1 ⊢
  rw[ea]at hs1 ⊢
  have l1:=mL (p:=i.p) r1.ords nb.1.a.inst nb.1.a.side (min q nb.1.qty)
  have hB1:=r2.takes (fs:=qK i.p B nb.1.a.inst nb.1.a.side (min q nb.1.qty))
  have l2:=mL (p:=i.p) hs1.ords nb.1.b.inst nb.1.b.side (min q nb.1.qty)
  refine⟨trivial,by rw[yWk];omega,⟨s1,i.p,kG B (qK i.p B nb.1.a.inst nb.1.a.side (min q nb.1.qty)),nb.1.b.inst,decide (nb.1.b.side=2),min q nb.1.qty⟩,rfl,eb,rfl,rfl,⟨hs1,hB1,okb.1,by dsimp only;rw[vV];exact okb.2,hk⟩,fun s2 hs2=> ?_⟩
  dsimp only at hs2 ⊢
  rw[eb]at hs2 ⊢
  obtain⟨g1,g2⟩:=beh _ _ s2 hsb hs2 hB1.takes (by rw[vV,vV])
  refine⟨trivial,by rw[yWk,yWk];omega,by rw[yWk];exact hsl,⟨s2,_,st++[_],_⟩,?_,rfl,?_,g1,g2,k0q⟩
  ·dsimp only;rw[w64 (by omega)]
  ·dsimp only
   rw[yWv,n3]
   simp[j8]
 ·rw[n3,yWj (by decide)]at hsb
  refine⟨i.sd,rfl,trivial,fun _ _=>⟨rfl,⟨s,i.p,B,i.inst,!i.sd,min q nb.1.qty⟩,rfl,rfl,rfl,rfl,⟨r1,r2,h0,by dsimp only;omega,hk⟩,fun s1 hs1=> ?_⟩⟩
  dsimp only at hs1 ⊢
  obtain⟨g1,g2⟩:=beh _ _ s1 hsb hs1 r2.takes (by rw[vV])
  refine⟨by rw[yWk];exact hsl,⟨s1,_,st++[_],_⟩,?_,rfl,?_,g1,g2,k0q⟩
  ·dsimp only;rw[w64 (by omega)]
  ·dsimp only
   rw[yWv,n3]
   simp[j8]
theorem zZc:runC.ok Tryz.prog 205:=okw mixed (gokc yFh (gokc zOi (gokc zUp (gokc z9s gok0)))) 2 (fun _=>[]) (fun _=>yVs) [0] Tryz.func205 yUw
open Go Cv Go.Proofs
open Go Cv Go.Proofs
open Go Cv Go.Proofs
theorem z8b {L:List zH} {s id p q:Int} {o:zH} (h:o∈zPu L s id p q):o.price=p∨∃o'∈L,o.price=o'.price:=by
 have key:∀X:List zH,(o∈X.takeWhile (before s p)++⟨id,s,p,q,u0 L s p⟩::X.dropWhile (before s p))→o.price=p∨o∈X:=by
  intro X hX
  rcases yXo.1 hX with hX|hX
  ·exact .inr (List.takeWhile_sublist _|>.subset hX)
  ·rcases yXe.1 hX with rfl|hX
   ·exact .inl rfl
   ·exact .inr (List.dropWhile_sublist _|>.subset hX)
 rw[zPu]at h
 split at h
 ·rcases key _ h with h|h
  ·exact .inl h
  ·obtain⟨o',ho',_,_,e,_⟩:=z2h h
   exact .inr ⟨o',ho',e⟩
 ·rcases key _ h with h|h
  ·exact .inl h
  ·exact .inr ⟨o,h,rfl⟩
theorem BOk.add {p:Prd} {B:List (List zH)} (h:BOk p B) (inst id s price q:Int):BOk p (z0h p B inst id s price q).1:=by
 rw[z0h]
 split
 ·exact h
 split
 ·exact h
 split
 ·exact h
 split
 ·exact h
 rename_i c1 _ _ c4
 have c4:p.price inst price=0:=by simpa using c4
 refine⟨h.pc,h.ps,by simpa using h.bl,fun k L hL o ho=> ?_⟩
 dsimp only at hL
 rcases dW hL with⟨rfl,rfl⟩|⟨_,hL⟩
 ·obtain⟨L',hL'⟩:=yD (l:=B) (i:=inst.toNat) (by omega)
  rw[zR hL',zGs]at ho
  have e:((inst.toNat:Nat):Int)=inst:=by omega
  repeat' split at ho
  ·exact h.pr _ L' hL' o ho
  ·exact h.pr _ L' hL' o ho
  ·exact h.pr _ L' hL' o ho
  ·rcases z8b ho with h1|⟨o',ho',h1⟩
   ·rw[h1,e];exact c4
   ·rw[h1];exact h.pr _ L' hL' o' ho'
 ·exact h.pr k L hL o ho
theorem BOk.new {p:Prd} (hc:p.check=0) (hp:p.small):BOk p (List.replicate p.count []):=by
 refine⟨hc,hp,by simp,fun k L hL o ho=> ?_⟩
 rw[y2i (yWt hL)]at ho
 cases ho
theorem MSt.Rep.fit {s:MSt} {p:Prd} {B:List (List zH)} (h:s.Rep p B) (hb:BOk p B):s.fit:=by
 have:=x5 p
 refine⟨by rw[h.ep];exact hb.ps,by rw[h.bl,hb.bl];omega,fun b hm=> ?_⟩
 obtain⟨k,hk⟩:=yZd.1 hm
 have hlt:=(yWn.1 hk).1
 rw[h.bl]at hlt
 obtain⟨L,hL⟩:=yD hlt
 exact(h.bk k b L hk hL).fit
open Go Cv Go.Proofs
def zMp (r:Nat):Bool:=decide (32≤r) && decide (r≠127) && decide (r≠65533)
def dG (s:List UInt8):Bool:=(kQ s).all zMp && decide (1≤(kQ s).length) && decide ((kQ s).length≤12)
def labC:Con:=con1 (List UInt8) (fun s=>[sV s]) (fun _=>[]) (fun s=>s.length≤140737488355328) (fun s=>yF (dG s)) (fun _=>[])
def yVp (s:List UInt8):List SAnn:=[{ι:=Nat×Nat,slots:=fun x=>[(3,zA x.2),(7,.nm 0 0)],rows:=fun x=>[.iter (sb s) x.1]}]
def fU (n:Int):Bool:=decide (-2000000≤n) && decide (n≤2000000)
def wZ (n:Int):Bool:=decide (1≤n) && decide (n≤1000000)
def Cmd.orderE (c:Cmd):Int:=
 if c.side≠1∧c.side≠2 then 21 else if c.time<1∨3<c.time then 27 else if wZ c.qty=false then 24 else if c.least<0∨c.qty<c.least then 28
 else if c.label≠[]∧dG c.label=false then 29 else if fU c.price=false then 23 else if c.inst<0∨255<c.inst then 20 else 0
def Cmd.right (c:Cmd):Int:=
 if c.kind<1∨4<c.kind then 31 else if c.id<1∨1099511627776<c.id then 1 else if c.kind=1 then c.orderE
 else if c.kind≠2∧wZ c.qty=false then 24 else if c.kind=4∧fU c.price=false then 23 else 0
def cmdOrdC:Con:=con1 Cmd (fun c=>[zMt c]) (fun _=>[]) (fun c=>c.label.length≤140737488355328) (fun c=>zA c.orderE) (fun _=>[])
def cmdRtC:Con:=con1 Cmd (fun c=>[zMt c]) (fun _=>[]) (fun c=>c.label.length≤140737488355328) (fun c=>zA c.right) (fun _=>[])
open Go Cv Go.Proofs
def yQb (s:List UInt8):Prop:=
 ∃(a:Nat×Nat),(↑a.snd:Int)=0∧sb s=sb s∧a.fst=0∧∃(b:Nat×Nat→Prop),∃(c:Nat×Nat→Nat),b a∧∀(d:Nat×Nat),b d→cnd (d.fst.blt (sb s).size) (cnd (decide ((x4 s d)<32)) (∃(e:Unit),dG s=false∧True) (cnd ((x4 s d)==127) (∃(e:Unit),dG s=false∧True) (cnd ((x4 s d)==65533) (∃(e:Unit),dG s=false∧True) (fF d s b c)))) (cnd (decide ((↑d.snd:Int)≥1)) (∃(e:Unit),dG s=decide ((↑d.snd:Int)≤12)∧True) (∃(e:Unit),dG s=false∧True))
def zIq (a:Cmd):Prop:=∃(b:List UInt8),sb b=sb a.label∧b.length≤140737488355328∧∀(c:Unit),True→cnd (!dG b) (∃(d:Unit),a.orderE=29∧True) (cnd (decide (a.price≥(-2000000))) (cnd (!decide (a.price≤2000000)) (∃(d:Unit),a.orderE=23∧True) (cnd (decide (a.inst<0)) (∃(d:Unit),a.orderE=20∧True) (cnd (decide (a.inst>255)) (∃(d:Unit),a.orderE=20∧True) (∃(d:Unit),a.orderE=0∧True)))) (∃(d:Unit),a.orderE=23∧True))
def yJa (c:Cmd):Prop:=
 cnd (c.side !=1) (cnd (c.side !=2) (∃(a:Unit),c.orderE=21∧True) (cnd (decide (c.time<1)) (∃(a:Unit),c.orderE=27∧True) (cnd (decide (c.time>3)) (∃(a:Unit),c.orderE=27∧True) (cnd (decide (c.qty≥1)) (cnd (!decide (c.qty≤1000000)) (∃(a:Unit),c.orderE=24∧True) (cnd (decide (c.least<0)) (∃(a:Unit),c.orderE=28∧True) (cnd (decide (c.least>c.qty)) (∃(a:Unit),c.orderE=28∧True) (cnd (!(sb c.label).toList==(ByteArray.mk #[]).toList) (zIq c) (cnd (decide (c.price≥(-2000000))) (cnd (!decide (c.price≤2000000)) (∃(a:Unit),c.orderE=23∧True) (cnd (decide (c.inst<0)) (∃(a:Unit),c.orderE=20∧True) (cnd (decide (c.inst>255)) (∃(a:Unit),c.orderE=20∧True) (∃(a:Unit),c.orderE=0∧True)))) (∃(a:Unit),c.orderE=23∧True)))))) (∃(a:Unit),c.orderE=24∧True))))) (cnd (decide (c.time<1)) (∃(a:Unit),c.orderE=27∧True) (cnd (decide (c.time>3)) (∃(a:Unit),c.orderE=27∧True) (cnd (decide (c.qty≥1)) (cnd (!decide (c.qty≤1000000)) (∃(a:Unit),c.orderE=24∧True) (cnd (decide (c.least<0)) (∃(a:Unit),c.orderE=28∧True) (cnd (decide (c.least>c.qty)) (∃(a:Unit),c.orderE=28∧True) (cnd (!(sb c.label).toList==(ByteArray.mk #[]).toList) (zIq c) (cnd (decide (c.price≥(-2000000))) (cnd (!decide (c.price≤2000000)) (∃(a:Unit),c.orderE=23∧True) (cnd (decide (c.inst<0)) (∃(a:Unit),c.orderE=20∧True) (cnd (decide (c.inst>255)) (∃(a:Unit),c.orderE=20∧True) (∃(a:Unit),c.orderE=0∧True)))) (∃(a:Unit),c.orderE=23∧True)))))) (∃(a:Unit),c.orderE=24∧True))))
def yDk (c:Cmd):Prop:=
 cnd (decide (c.kind<1)) (∃(a:Unit),c.right=31∧True) (cnd (decide (c.kind>4)) (∃(a:Unit),c.right=31∧True) (cnd (decide (c.id<1)) (∃(a:Unit),c.right=1∧True) (cnd (decide (c.id>1099511627776)) (∃(a:Unit),c.right=1∧True) (cnd (c.kind==1) (∃(a:Cmd),a.kind=c.kind∧a.id=c.id∧a.inst=c.inst∧a.side=c.side∧a.price=c.price∧a.qty=c.qty∧a.least=c.least∧a.time=c.time∧sb a.label=sb c.label∧a.label.length≤140737488355328∧∀(b:Unit),True→∃(d:Unit),c.right=a.orderE∧True) (cnd (c.kind !=2) (cnd (decide (c.qty≥1)) (cnd (!decide (c.qty≤1000000)) (∃(a:Unit),c.right=24∧True) (cnd (c.kind==4) (cnd (decide (c.price≥(-2000000))) (cnd (!decide (c.price≤2000000)) (∃(a:Unit),c.right=23∧True) (∃(a:Unit),c.right=0∧True)) (∃(a:Unit),c.right=23∧True)) (∃(a:Unit),c.right=0∧True))) (∃(a:Unit),c.right=24∧True)) (cnd (c.kind==4) (cnd (decide (c.price≥(-2000000))) (cnd (!decide (c.price≤2000000)) (∃(a:Unit),c.right=23∧True) (∃(a:Unit),c.right=0∧True)) (∃(a:Unit),c.right=23∧True)) (∃(a:Unit),c.right=0∧True)))))))
open Go Cv Go.Proofs
theorem yVo (s:List UInt8) (h:labC.cnd s):yQb s:=by
 have h:s.length≤140737488355328:=h
 have hr:=zEq s
 unfold yQb x4 fF
 refine⟨(0,0),rfl,rfl,rfl,fun x=>x.1≤s.length∧x.2+(uX s x.1).length=(kQ s).length∧(kQ s).all zMp=(uX s x.1).all fun x=>zMp x.2,fun x=>s.length-x.1,⟨by omega,by rw[kQ,yWk];simp,by rw[kQ,List.all_map];rfl⟩,?_⟩
 rintro⟨p,n⟩ ⟨h1,h2,h3⟩
 dsimp only at h1 h2 h3 ⊢
 refine Cv.cnd.mk (fun hp=> ?_) (fun hp=> ?_)
 ·have hp:p<s.length:=by simpa[yZj]using hp
  have hw:=cT s hp
  rw[wE hp,yWr]at h2
  rw[wE hp,List.all_cons]at h3
  generalize hc:(Utf8.decode (sb s) p).1=c at h2 h3 ⊢
  generalize hww:(Utf8.decode (sb s) p).2=w at h2 h3 hw ⊢
  dsimp only at h3
  have bad:zMp c=false→∃(o:Unit),dG s=false∧True:=fun e=>⟨(),by rw[dG,h3,e];rfl,trivial⟩
  refine zI (fun c1=>bad ?_) (fun c1=>Cv.cnd.mk (fun c2=>bad ?_) (fun c2=>Cv.cnd.mk (fun c3=>bad ?_) (fun c3=> ?_)))
  ·simp[zMp];omega
  ·have c2:(c:Int)=127:=by simpa using c2
   simp[zMp];omega
  ·have c3:(c:Int)=65533:=by simpa using c3
   simp[zMp];omega
  ·have c2:¬(c:Int)=127:=by simpa using c2
   have c3:¬(c:Int)=65533:=by simpa using c3
   have e:zMp c=true:=by simp[zMp];omega
   refine⟨(p+w,n+1),?_,rfl,rfl,⟨hw.2,by(first|omega|(dsimp only;omega)),by rw[h3,e];rfl⟩,by(first|omega|(dsimp only;omega)),trivial⟩
   rw[w64 (by omega)];rfl
 ·have hp:s.length≤p:=by have:=z3x hp;simpa using this
  rw[fJ hp]at h2 h3
  have h2:n=(kQ s).length:=h2
  have h3:(kQ s).all zMp=true:=h3
  refine zI (fun c=>⟨(),?_,trivial⟩) (fun c=>⟨(),?_,trivial⟩)
  ·rw[dG,h3,← h2,yXc (show 1≤n by omega)]
   simp only[yZe]
   congr 1
   simp only[eq_iff_iff];omega
  ·rw[dG,← h2,yWx (show ¬1≤n by omega)];simp
theorem yOq:labC.ok Tryz.prog 203:=okw mixed gok0 0 (fun _=>[]) (fun s=>yVp s) [] Tryz.func203 yVo
theorem yVf (a b:Int):(a==b)=decide (a=b):=by
 by_cases h:a=b
 ·subst h;simp
 ·simp[h]
theorem yTq (a b:Int):(a !=b)=decide (a≠b):=by
 by_cases h:a=b
 ·subst h;simp
 ·simp[h]
theorem eqB (a b:List UInt8):((sb a).toList==(sb b).toList)=decide (a=b):=by
 rw[mN,mN]
 by_cases h:a=b
 ·subst h;simp
 ·simp[h]
theorem yNt:ByteArray.mk #[]=sb []:=rfl
theorem yTd (c:Cmd) (h:cmdOrdC.cnd c):yJa c:=by
 have h:c.label.length≤140737488355328:=h
 unfold yJa zIq
 simp only[yNt,eqB,yTq]
 have tail:¬(c.side≠1∧c.side≠2)→cnd (decide (c.time<1)) (∃(o:Unit),c.orderE=27∧True) (cnd (decide (c.time>3)) (∃(o:Unit),c.orderE=27∧True) (cnd (decide (c.qty≥1)) (cnd (!decide (c.qty≤1000000)) (∃(o:Unit),c.orderE=24∧True) (cnd (decide (c.least<0)) (∃(o:Unit),c.orderE=28∧True) (cnd (decide (c.least>c.qty)) (∃(o:Unit),c.orderE=28∧True) (cnd (!decide (c.label=[])) (∃(i:List UInt8),sb i=sb c.label∧i.length≤140737488355328∧∀(o:Unit),True→cnd (!dG i) (∃(o:Unit),c.orderE=29∧True) (cnd (decide (c.price≥-2000000)) (cnd (!decide (c.price≤2000000)) (∃(o:Unit),c.orderE=23∧True) (cnd (decide (c.inst<0)) (∃(o:Unit),c.orderE=20∧True) (cnd (decide (c.inst>255)) (∃(o:Unit),c.orderE=20∧True) (∃(o:Unit),c.orderE=0∧True)))) (∃(o:Unit),c.orderE=23∧True))) (cnd (decide (c.price≥-2000000)) (cnd (!decide (c.price≤2000000)) (∃(o:Unit),c.orderE=23∧True) (cnd (decide (c.inst<0)) (∃(o:Unit),c.orderE=20∧True) (cnd (decide (c.inst>255)) (∃(o:Unit),c.orderE=20∧True) (∃(o:Unit),c.orderE=0∧True)))) (∃(o:Unit),c.orderE=23∧True)))))) (∃(o:Unit),c.orderE=24∧True))):=by
  intro hs
  have e1:c.orderE=if c.time<1∨3<c.time then 27 else if wZ c.qty=false then 24 else if c.least<0∨c.qty<c.least then 28
   else if c.label≠[]∧dG c.label=false then 29 else if fU c.price=false then 23 else if c.inst<0∨255<c.inst then 20 else 0:=by rw[Cmd.orderE,yWj hs]
  refine zI (fun d1=>⟨(),by rw[e1,yWl (.inl d1)],trivial⟩) fun d1=>zI (fun d2=>⟨(),by rw[e1,yWl (.inr d2)],trivial⟩) fun d2=> ?_
  rw[yWj (by omega)]at e1
  have q (hq:wZ c.qty=false):∃(o:Unit),c.orderE=24∧True:=⟨(),by rw[e1,yWl hq],trivial⟩
  refine zI (fun d3=>Cv.cnd.mk (fun d4=>q ?_) fun d4=> ?_) fun d3=>q ?_
  ·have d4:¬c.qty≤1000000:=by simpa using d4
   simp[wZ,d4]
  ·have d4:c.qty≤1000000:=by simpa using d4
   have hq:¬wZ c.qty=false:=by simp[wZ,d4];omega
   rw[yWj hq]at e1
   refine zI (fun d5=>⟨(),by rw[e1,yWl (.inl d5)],trivial⟩) fun d5=>zI (fun d6=>⟨(),by rw[e1,yWl (.inr d6)],trivial⟩) fun d6=> ?_
   rw[yWj (by omega)]at e1
   have last:¬(c.label≠[]∧dG c.label=false)→cnd (decide (c.price≥-2000000)) (cnd (!decide (c.price≤2000000)) (∃(o:Unit),c.orderE=23∧True) (cnd (decide (c.inst<0)) (∃(o:Unit),c.orderE=20∧True) (cnd (decide (c.inst>255)) (∃(o:Unit),c.orderE=20∧True) (∃(o:Unit),c.orderE=0∧True)))) (∃(o:Unit),c.orderE=23∧True):=by
    intro hl
    rw[yWj hl]at e1
    have pr (hq:fU c.price=false):∃(o:Unit),c.orderE=23∧True:=⟨(),by rw[e1,yWl hq],trivial⟩
    refine zI (fun g1=>Cv.cnd.mk (fun g2=>pr ?_) fun g2=> ?_) fun g1=>pr ?_
    ·have g2:¬c.price≤2000000:=by simpa using g2
     simp[fU,g2]
    ·have g2:c.price≤2000000:=by simpa using g2
     have hp:¬fU c.price=false:=by simp[fU,g2];omega
     rw[yWj hp]at e1
     refine zI (fun g3=>⟨(),by rw[e1,yWl (.inl g3)],trivial⟩) fun g3=>zI (fun g4=>⟨(),by rw[e1,yWl (.inr g4)],trivial⟩) fun g4=>⟨(),by rw[e1,yWj (by omega)],trivial⟩
    ·simp[fU];omega
   refine Cv.cnd.mk (fun d7=>⟨c.label,rfl,h,fun _ _=>Cv.cnd.mk (fun d8=> ?_) fun d8=>last ?_⟩) fun d7=>last ?_
   ·have d7:¬c.label=[]:=by simpa using d7
    have d8:dG c.label=false:=by simpa using d8
    exact⟨(),by rw[e1,yWl ⟨d7,d8⟩],trivial⟩
   ·have d8:dG c.label=true:=by simpa using d8
    simp[d8]
   ·have d7:c.label=[]:=by simpa using d7
    simp[d7]
  ·simp[wZ];omega
 refine zI (fun c1=>zI (fun c2=>⟨(),by rw[Cmd.orderE,yWl ⟨c1,c2⟩],trivial⟩) fun c2=>tail ?_) fun c1=>tail ?_
 ·omega
 ·omega
theorem yGt:cmdOrdC.ok Tryz.prog 163:=okw mixed (gokc yOq gok0) 1 (fun _=>[]) (fun _=>[]) [] Tryz.func163 yTd
theorem yNa (c:Cmd) (h:cmdRtC.cnd c):yDk c:=by
 have h:c.label.length≤140737488355328:=h
 unfold yDk
 simp only[yVf,yTq]
 refine zI (fun c1=>⟨(),by rw[Cmd.right,yWl (.inl c1)],trivial⟩) fun c1=>zI (fun c2=>⟨(),by rw[Cmd.right,yWl (.inr c2)],trivial⟩) fun c2=> ?_
 refine zI (fun c3=>⟨(),by rw[Cmd.right,yWj (by omega),yWl (.inl c3)],trivial⟩) fun c3=>zI (fun c4=>⟨(),by rw[Cmd.right,yWj (by omega),yWl (.inr c4)],trivial⟩) fun c4=> ?_
 have e0:c.right=if c.kind=1 then c.orderE else if c.kind≠2∧wZ c.qty=false then 24 else if c.kind=4∧fU c.price=false then 23 else 0:=by rw[Cmd.right,yWj (by omega),yWj (by omega)]
 refine zI (fun c5=>⟨c,?_⟩) fun c5=> ?_
 ·rw[yWl c5]at e0
  exact kp
 rw[yWj c5]at e0
 have last (hn:¬(c.kind≠2∧wZ c.qty=false)):cnd (decide (c.kind=4)) (cnd (decide (c.price≥-2000000)) (cnd (!decide (c.price≤2000000)) (∃(o:Unit),c.right=23∧True) (∃(o:Unit),c.right=0∧True)) (∃(o:Unit),c.right=23∧True)) (∃(o:Unit),c.right=0∧True):=by
  rw[yWj hn]at e0
  refine zI (fun d1=>zI (fun d2=>Cv.cnd.mk (fun d3=> ?_) fun d3=> ?_) fun d2=> ?_) fun d1=> ?_
  ·have d3:¬c.price≤2000000:=by simpa using d3
   exact⟨(),by rw[e0,yWl ⟨d1,by simp[fU,d3]⟩],trivial⟩
  ·have d3:c.price≤2000000:=by simpa using d3
   exact⟨(),by rw[e0,yWj (by simp[fU,d3];omega)],trivial⟩
  ·exact⟨(),by rw[e0,yWl ⟨d1,by simp[fU];omega⟩],trivial⟩
  ·exact⟨(),by rw[e0,yWj (by simp[d1])],trivial⟩
 refine zI (fun d1=>zI (fun d2=>Cv.cnd.mk (fun d3=> ?_) fun d3=>last ?_) fun d2=> ?_) fun d1=>last ?_
 ·have d3:¬c.qty≤1000000:=by simpa using d3
  exact⟨(),by rw[e0,yWl ⟨d1,by simp[wZ,d3]⟩],trivial⟩
 ·have d3:c.qty≤1000000:=by simpa using d3
  simp[wZ,d3];omega
 ·exact⟨(),by rw[e0,yWl ⟨d1,by simp[wZ];omega⟩],trivial⟩
 ·omega
theorem z8a:cmdRtC.ok Tryz.prog 111:=okw mixed (gokc yGt gok0) 1 (fun _=>[]) (fun _=>[]) [] Tryz.func111 yNa
open Go Cv Go.Proofs
structure SoI where
 s:MSt
 p:Prd
 B:List (List zH)
 inst:Int
 sd:Bool
@[reducible] def SoI.ok (i:SoI):Prop:=i.s.Rep i.p i.B∧i.B.length≤1000
def atB (B:List (List zH)) (inst:Int):List zH:=if inst<0 then[]else B.getD inst.toNat []
def sladC:Con:=con1 SoI (fun i=>[.nm 0 0,zA i.inst,zA (zC i.sd)]) (fun i=>[zD i.s]) (fun i=>i.ok) (fun _=> .own 1) (fun i=>[zD i.s,.own 41 3 ((uM (atB i.B i.inst) (zC i.sd)).map lvE)])
open Go Cv Go.Proofs
def cF (a:SoI):=(uM (atB a.B a.inst) (zC a.sd))
def zKm (a:SoI):Prop:=∃(b:Unit),sb a.s.p.code=sb a.s.p.code∧a.s.p.tick=a.s.p.tick∧a.s.p.low=a.s.p.low∧a.s.p.high=a.s.p.high∧a.s.p.wide=a.s.p.wide∧a.s.p.rule=a.s.p.rule∧a.s.p.top=a.s.p.top∧a.s.p.least=a.s.p.least∧a.s.p.part=a.s.p.part∧AObj.objs 241 Book 6 zQ a.s.books none=AObj.objs 241 Book 6 zQ a.s.books none∧yW a.s.wh=yW a.s.wh∧AObj.fro 1 (iE a.s.p.months)=AObj.fro 1 (iE a.s.p.months)∧AObj.fro 1 (iE a.s.p.settle)=AObj.fro 1 (iE a.s.p.settle)∧List.map lvE (cF a)=[]∧True
def yJr (i:SoI):Prop:=
 cnd (decide (i.inst≥0)) (cnd (!decide (i.inst<(↑i.s.books.length:Int))) (zKm i) ((0≤i.inst∧i.inst<(↑i.s.books.length:Int))∧i.inst.toNat<i.s.books.length∧∃(a:Book),i.s.books[i.inst.toNat]?=some a∧∃(b:BkT),zC b.s=zC i.sd∧z5 b.b=z5 a∧b.b.Rep b.L∧∀(c:Unit),True→∃(d:Book),z5 b.b=z5 d∧i.inst.toNat=i.inst.toNat∧i.inst.toNat<i.s.books.length∧∃(e:Unit),sb i.s.p.code=sb i.s.p.code∧i.s.p.tick=i.s.p.tick∧i.s.p.low=i.s.p.low∧i.s.p.high=i.s.p.high∧i.s.p.wide=i.s.p.wide∧i.s.p.rule=i.s.p.rule∧i.s.p.top=i.s.p.top∧i.s.p.least=i.s.p.least∧i.s.p.part=i.s.p.part∧AObj.objs 241 Book 6 zQ i.s.books none=AObj.objs 241 Book 6 zQ (i.s.books.set i.inst.toNat d) none∧yW i.s.wh=yW i.s.wh∧AObj.fro 1 (iE i.s.p.months)=AObj.fro 1 (iE i.s.p.months)∧AObj.fro 1 (iE i.s.p.settle)=AObj.fro 1 (iE i.s.p.settle)∧List.map lvE (cF i)=List.map lvE (uM b.L (zC b.s))∧True)) (zKm i)
open Go Cv Go.Proofs
theorem yHk {B:List (List zH)} {inst:Int} {L:List zH} (h0:0≤inst) (hL:B[inst.toNat]? =some L):atB B inst=L:=by
 rw[atB,yWj (by omega),zR hL]
theorem yHw {B:List (List zH)} {inst:Int} (h:inst<0∨(B.length:Int)≤inst):atB B inst=[]:=by
 rw[atB]
 split
 ·rfl
 ·rw[yWs,yXm (by omega)];rfl
theorem yQd (i:SoI) (h:sladC.cnd i):yJr i:=by
 obtain⟨hR,hB⟩:i.s.Rep i.p i.B∧i.B.length≤1000:=h
 have hbl:=hR.bl
 have out (hx:i.inst<0∨(i.B.length:Int)≤i.inst):List.map lvE (uM (atB i.B i.inst) (zC i.sd))=[]:=by
  rw[yHw hx];rfl
 unfold yJr zKm cF
 refine zI (fun c=>Cv.cnd.mk (fun d=> ?_) (fun d=> ?_)) (fun c=> ?_)
 ·have d:¬i.inst<(i.s.books.length:Int):=by simpa using d
  rw[out (.inr (by omega))];exact⟨(),k0q⟩
 ·have d:i.inst<(i.s.books.length:Int):=by simpa using d
  obtain⟨b,hb⟩:=yD (l:=i.s.books) (i:=i.inst.toNat) (by omega)
  obtain⟨L,hL⟩:=yD (l:=i.B) (i:=i.inst.toNat) (by omega)
  refine⟨⟨c,d⟩,by omega,b,hb,⟨b,L,i.sd⟩,rfl,rfl,hR.bk _ b L hb hL,fun _ _=>⟨b,rfl,rfl,by omega,?_⟩⟩
  rw[vU hb,yHk c hL]
  exact⟨(),k0q⟩
 ·rw[out (.inl (by omega))];exact⟨(),k0q⟩
theorem yFu:sladC.ok Tryz.prog 107:=okw mixed (gokc yQa gok0) 1 (fun _=>[]) (fun _=>[]) [0] Tryz.func107 yQd
open Go Cv Go.Proofs
def zUe (s:Int) (F:List zH):Prop:=F.Pairwise fun o o'=>btr s o'.price o.price=false
def sM (L:List zH) (s:Int):List zH:=L.filter fun o=>decide (o.side=s)
structure BWf (p:Prd) (B:List (List zH)):Prop where
 ok:BOk p B
 od:yGs B
 ub:((whL 0 B).map (·.1)).Nodup
 srt:∀(k:Nat) (L:List zH),B[k]? =some L→∀s,s=1∨s=2→zUe s (sM L s)
theorem zWf {s:Int} {b:Book} {Q:List (List Nat)}:∀{R:List xH},(R.Pairwise fun r r'=>btr s r.price r'.price=true)→zUe s (R.flatMap (b.rOrds Q s))
 |[],_=>List.Pairwise.nil
 |r::R,h=>by
  rw[y0d]at h
  rw[yXv,zUe,List.pairwise_append]
  refine⟨List.pairwise_of_forall_mem_list fun o ho o' ho'=> ?_,zWf h.2,fun o ho o' ho'=> ?_⟩
  ·rw[(qB ho).2,(qB ho').2];exact eL _ _
  ·obtain⟨r',hr',ho'⟩:=yYz.1 ho'
   rw[(qB ho).2,(qB ho').2];exact zXb (h.1 r' hr')
theorem Book.Rep.srt {b:Book} {L:List zH} (h:b.Rep L) {s:Int} (hs:s=1∨s=2):zUe s (sM L s):=by
 obtain⟨Q,c,ht,rfl⟩:=h
 rw[sM,zOy hs]
 exact zWf (c.srt s hs)
theorem MSt.Rep.wf {s:MSt} {p:Prd} {B:List (List zH)} (h:s.Rep p B) (hb:BOk p B):BWf p B:=by
 refine⟨hb,h.ords,h.ids,fun k L hL=> ?_⟩
 obtain⟨b,hb⟩:=yD (l:=s.books) (i:=k) (by rw[h.bl];exact(yWn.1 hL).1)
 exact fun s hs=>(h.bk k b L hb hL).srt hs
theorem yAu {L:List zH} (h:∀o∈L,zId o) (hn:(L.map (·.id)).Nodup) (id q:Int):∀o∈(xY L id q).1,zId o:=by
 intro o ho
 rw[xY]at ho
 split at ho
 ·exact h o ho
 split at ho
 ·exact h o ho
 rename_i hb
 obtain⟨o',ho',e⟩:=y1v.1 ho
 have h0:=h o' ho'
 split at e
 ·rename_i e1
  have hg:=mW hn ho'
  rw[e1]at hg
  rw[hg]at hb
  split at e
  ·cases e
  ·rename_i e2
   cases e
   have:=h0.q
   exact⟨h0.s,by dsimp only;omega⟩
 ·cases e;exact h0
theorem z7q (L:List zH) (id q:Int):(xY L id q).1.length≤L.length:=by
 rw[xY]
 split
 ·exact yXl _
 split
 ·exact yXl _
 exact List.length_filterMap_le _ _
theorem yDx {L:List zH} {s:Int} (h:zUe s (sM L s)) (id q:Int):zUe s (sM (xY L id q).1 s):=by
 rw[xY]
 split
 ·exact h
 split
 ·exact h
 have e:sM (uE L id q) s=uE (sM L s) id q:=by
  rw[sM,sM,uE,uE,List.filter_filterMap,List.filterMap_filter]
  refine bW fun o _=> ?_
  by_cases e1:o.id=id
  ·rw[yWl e1]
   by_cases e2:o.qty=q
   ·rw[yWl e2];simp
   ·rw[yWj e2];by_cases e3:o.side=s<;>simp[Option.filter,e3]
  ·rw[yWj e1];by_cases e3:o.side=s<;>simp[Option.filter,e3]
 rw[e,uE]
 refine List.Pairwise.filterMap _ (fun a a' haa b hb b' hb'=> ?_) h
 have g:∀{a b:zH},(if a.id=id then(if a.qty=q then none else some {a with qty:=a.qty-q})else some a)=some b→b.price=a.price:=by
  intro a b e
  split at e
  ·split at e
   ·cases e
   ·cases e;rfl
  ·cases e;rfl
 rw[g hb,g hb'];exact haa
theorem yFj {B:List (List zH)} (h:((whL 0 B).map (·.1)).Nodup) {k:Nat} {L L':List zH} (hL:B[k]? =some L) (hs:(L'.map (·.id)).Sublist (L.map (·.id))):((whL 0 (B.set k L')).map (·.1)).Nodup:=by
 have hk:=(yWn.1 hL).1
 obtain⟨rest,hr⟩:=zHj (B:=B) 0 k hk
 have h0:=hr L
 rw[vU hL]at h0
 have h1:=(h0.map (·.1)).nodup_iff.1 h
 refine((hr L').map (·.1)).nodup_iff.2 ?_
 rw[yWv,yZc]at h1 ⊢
 exact h1.sublist (List.Sublist.append hs (List.Sublist.refl _))
theorem BWf.take {p:Prd} {B:List (List zH)} (h:BWf p B) (id q:Int):BWf p (kE B id q).1:=by
 refine⟨h.ok.take id q,?_,?_,?_⟩
 all_goals
  rw[kE]
  cases hi:bS B id with
  |none=>first|exact h.od|exact h.ub|exact h.srt
  |some k=>
   obtain⟨L,hL,hh⟩:=uW hi
   have ho:=h.od k L hL
   dsimp only
   rw[zR hL]
   first
   |(intro j M hM
     rcases dW hM with⟨rfl,rfl⟩|⟨_,hM⟩
     ·refine⟨yAu ho.1 ho.2.1 id q,?_,yZq (z7q L id q) ho.2.2⟩
      rcases zMf ho.2.1 id q with⟨e,_⟩|⟨e,_⟩
      ·rw[e];exact ho.2.1
      ·rw[e];exact ho.2.1.sublist (List.Sublist.map _ y2k)
     ·exact h.od j M hM)
   |(refine yFj h.ub hL ?_
     rcases zMf ho.2.1 id q with⟨e,_⟩|⟨e,_⟩
     ·rw[e];exact List.Sublist.refl _
     ·rw[e];exact List.Sublist.map _ y2k)
   |(intro j M hM s hs
     rcases dW hM with⟨rfl,rfl⟩|⟨_,hM⟩
     ·exact yDx (h.srt _ L hL s hs) id q
     ·exact h.srt j M hM s hs)
theorem BWf.takes {p:Prd}:∀{fs:List dK} {B:List (List zH)},BWf p B→BWf p (kG B fs)
 |[],B,h=>h
 |f::fs,B,h=>BWf.takes (fs:=fs) (h.take f.id f.qty)
open Go Cv Go.Proofs
theorem zNo {p:Prd} {B:List (List zH)} (h:BWf p B) {inst:Int} {sd:Bool} {price q:Int} {t:wB} {B':List (List zH)} (e:bI p B inst sd price q=some (t,B')):BWf p B'∧B'.length=B.length:=by
 rw[bI]at e
 dsimp only at e
 split at e
 ·split at e
  ·cases e;exact⟨h.takes.takes,by rw[vV,vV]⟩
  ·cases e;exact⟨h.takes,by rw[vV]⟩
 ·cases e
theorem mQ {p:Prd} {inst:Int} {sd:Bool} {price:Int}:∀(m:Nat) (q:Int) (B:List (List zH)),q.toNat≤m→BWf p B→BWf p (j9 p B inst sd price q).B∧(j9 p B inst sd price q).B.length=B.length∧(0≤q→0≤(j9 p B inst sd price q).left∧(j9 p B inst sd price q).left≤q)
 |m,q,B,hm,h=>by
  by_cases hq:q≤0
  ·rw[sS (.inl hq)]
   exact⟨h,rfl,fun x=>⟨x,y1f _⟩⟩
  cases hs:bI p B inst sd price q with
  |none=>
   rw[sS (.inr hs)]
   exact⟨h,rfl,fun x=>⟨x,y1f _⟩⟩
  |some x=>
   obtain⟨t,C⟩:=x
   obtain⟨k1,k2⟩:=zNo h hs
   have hq2:=zMi (by omega) hs
   cases m with
   |zero=>omega
   |succ m=>
   obtain⟨i1,i2,i3⟩:=mQ (p:=p) (inst:=inst) (sd:=sd) (price:=price) m (q-t.qty) C (by omega) k1
   rw[zJe (by omega) hs]
   exact⟨i1,i2.trans k2,fun _=>⟨(i3 (by omega)).1,by dsimp only;have:=(i3 (by omega)).2;omega⟩⟩
open Go Cv Go.Proofs
@[reducible] def RunI.ok (i:RunI):Prop:=i.s.Rep i.p i.B∧BOk i.p i.B∧(0≤i.inst∧i.inst<i.B.length)∧1≤i.q∧i.q≤1000000
def scouldC:Con:=con1 RunI (fun i=>[.nm 0 0,zA i.inst,zA (zC i.sd),zA i.price,zA i.q]) (fun i=>[zD i.s]) (fun i=>i.ok) (fun i=>zA (i.q-i.r.left)) (fun i=>[zD i.s])
def cR (p:Prd) (B:List (List zH)) (inst:Int) (sd:Bool) (price q:Int):Bool:=
 decide ((j9 p B inst sd price q).left≠0) && (kB ⟨p,(j9 p B inst sd price q).B.map qU,inst⟩ (zC (!sd))).any fun x=>dP sd price x.price
def stuckC:Con:=con1 RunI (fun i=>[.nm 0 0,zA i.inst,zA (zC i.sd),zA i.price,zA i.q]) (fun i=>[zD i.s]) (fun i=>i.ok) (fun i=>yF (cR i.p i.B i.inst i.sd i.price i.q)) (fun i=>[zD i.s])
def z6a (B:List (List zH)):Nat:=(whL 0 B).length
def countC16:Con:=con1 SoI (fun i=>[.nm 0 0]) (fun i=>[zD i.s]) (fun i=>i.ok) (fun i=>zA (z6a i.B)) (fun i=>[zD i.s])
def gN (p:Prd) (inst price:Int):Int×Int×Int:=
 if(p.legs inst).2.2=false then(0,0,20)else if p.price inst price≠0 then(0,0,p.price inst price)else
 let far:=p.settle.getD (p.legs inst).2.1.toNat 0
 let a:=if p.high<far+price then(p.high,p.high-price)else(far+price,far)
 if a.1<p.low then(p.low,p.low-price,0)else(a.1,a.2,0)
structure LpI where
 p:Prd
 inst:Int
 price:Int
def lpricesC:Con:=con1 LpI (fun i=>[prdV i.p,zA i.inst,zA i.price]) (fun _=>[]) (fun i=>i.p.check=0∧i.p.small∧yU i.price) (fun i=> .tup [zA (gN i.p i.inst i.price).1,zA (gN i.p i.inst i.price).2.1,zA (gN i.p i.inst i.price).2.2]) (fun _=>[])
def ijj (t u:Nat):SAnn:={ι:=Int×Int,slots:=fun n=>[(t,zA n.1),(u,zA n.2)],rows:=fun _=>[]}
def lpJ:List (Nat×SAnn):=[(50,ijj 15 14),(58,ijj 15 14)]
def yPv:List SAnn:=[{ι:=Nat,slots:=fun j=>[(40,zA j)],rows:=fun _=>[]}]
def yPu:List (Nat×SAnn):=[(8,{ι:=Unit,slots:=fun _=>[],rows:=fun _=>[],opn:=[11]})]
open Go Cv Go.Proofs
def cM (a:Book):Prop:=(a.a.slots.length≤1000000∧a.a.queues.length≤1000000)∧a.buys.length≤1000000∧a.sells.length≤1000000∧a.spare.length≤1000000
def gD (a:MSt):Prop:=a.books.length≤1000000∧∀(b:Book),b∈a.books→cM b
def qI (a:RunI):Prop:=a.s.Rep a.p a.B∧BOk a.p a.B∧(0≤a.inst∧a.inst<(↑a.B.length:Int))∧1≤a.q∧a.q≤1000000
def lK (a:RunI):Prop:=∃(b:MSt),sb b.p.code=sb a.s.p.code∧b.p.tick=a.s.p.tick∧b.p.low=a.s.p.low∧b.p.high=a.s.p.high∧b.p.wide=a.s.p.wide∧b.p.rule=a.s.p.rule∧b.p.top=a.s.p.top∧b.p.least=a.s.p.least∧b.p.part=a.s.p.part∧AObj.objs 241 Book 6 zQ b.books none=AObj.objs 241 Book 6 zQ a.s.books none∧yW b.wh=yW a.s.wh∧AObj.fro 1 (iE b.p.months)=AObj.fro 1 (iE a.s.p.months)∧AObj.fro 1 (iE b.p.settle)=AObj.fro 1 (iE a.s.p.settle)∧(gD b)∧∀(c:Unit),True→∃(d:RunI),d.inst=a.inst∧zC d.sd=zC a.sd∧d.price=a.price∧d.q=a.q∧zD d.s=zD b∧(qI d)∧∀(e:MSt),e.Rep d.p d.r.B→∃(f:Unit),a.q-a.r.left=IntKind.i64.wrap (a.q-d.r.left)∧zD a.s=zD b∧True
def vE (a:RunI):Prop:=∃(b:Unit),a.q-a.r.left=0∧sb a.s.p.code=sb a.s.p.code∧a.s.p.tick=a.s.p.tick∧a.s.p.low=a.s.p.low∧a.s.p.high=a.s.p.high∧a.s.p.wide=a.s.p.wide∧a.s.p.rule=a.s.p.rule∧a.s.p.top=a.s.p.top∧a.s.p.least=a.s.p.least∧a.s.p.part=a.s.p.part∧AObj.objs 241 Book 6 zQ a.s.books none=AObj.objs 241 Book 6 zQ a.s.books none∧yW a.s.wh=yW a.s.wh∧AObj.fro 1 (iE a.s.p.months)=AObj.fro 1 (iE a.s.p.months)∧AObj.fro 1 (iE a.s.p.settle)=AObj.fro 1 (iE a.s.p.settle)∧True
def z2w (i:RunI):Prop:=
 cnd (decide (i.inst≥0)) (cnd (decide (i.inst<(↑i.s.books.length:Int))) (cnd (zC i.sd==1) (cnd (decide (i.q≥1)) (cnd (!decide (i.q≤1000000)) (vE i) (lK i)) (vE i)) (cnd (zC i.sd==2) (cnd (decide (i.q≥1)) (cnd (!decide (i.q≤1000000)) (vE i) (lK i)) (vE i)) (vE i))) (vE i)) (vE i)
def zVz (i:SoI):Prop:=
 ∃(a:Unit),(↑(z6a i.B):Int)=(↑(yW i.s.wh).length:Int)∧sb i.s.p.code=sb i.s.p.code∧i.s.p.tick=i.s.p.tick∧i.s.p.low=i.s.p.low∧i.s.p.high=i.s.p.high∧i.s.p.wide=i.s.p.wide∧i.s.p.rule=i.s.p.rule∧i.s.p.top=i.s.p.top∧i.s.p.least=i.s.p.least∧i.s.p.part=i.s.p.part∧AObj.objs 241 Book 6 zQ i.s.books none=AObj.objs 241 Book 6 zQ i.s.books none∧yW i.s.wh=yW i.s.wh∧AObj.fro 1 (iE i.s.p.months)=AObj.fro 1 (iE i.s.p.months)∧AObj.fro 1 (iE i.s.p.settle)=AObj.fro 1 (iE i.s.p.settle)∧True
def dM (a:Int×Int→Prop) (b:Int×Int) (c:LpI):Prop:=a b∧Sx.AObj.cells [V.d (D.v (Value.string (sb c.p.code))),V.own 0,V.d (dI c.p.tick),V.d (dI c.p.low),V.d (dI c.p.high),V.d (dI c.p.wide),V.d (dI c.p.rule),V.d (dI c.p.top),V.d (dI c.p.least),V.d (dI c.p.part),V.own ((0:Nat)+(1:Nat))] 25=Sx.AObj.cells [V.d (D.v (Value.string (sb c.p.code))),V.own 0,V.d (dI c.p.tick),V.d (dI c.p.low),V.d (dI c.p.high),V.d (dI c.p.wide),V.d (dI c.p.rule),V.d (dI c.p.top),V.d (dI c.p.least),V.d (dI c.p.part),V.own ((0:Nat)+(1:Nat))] 25∧AObj.fro 1 (iE c.p.settle)=AObj.fro 1 (iE c.p.settle)∧AObj.fro 1 (iE c.p.months)=AObj.fro 1 (iE c.p.months)
def yY (a:LpI):=(gN a.p a.inst a.price)
def zWz (i:LpI):Prop:=
 ∃(a:Prd),sb a.code=sb i.p.code∧iE a.months=iE i.p.months∧a.tick=i.p.tick∧a.low=i.p.low∧a.high=i.p.high∧a.wide=i.p.wide∧a.rule=i.p.rule∧a.top=i.p.top∧a.least=i.p.least∧a.part=i.p.part∧iE a.settle=iE i.p.settle∧(z7 a)∧∀(b:Unit),True→cnd (a.check !=0) (∃(c:Unit),(yY i).fst=0∧(yY i).snd.fst=0∧(yY i).snd.snd=1∧True) (∃(c:dC),sb c.p.code=sb i.p.code∧iE c.p.months=iE i.p.months∧c.p.tick=i.p.tick∧c.p.low=i.p.low∧c.p.high=i.p.high∧c.p.wide=i.p.wide∧c.p.rule=i.p.rule∧c.p.top=i.p.top∧c.p.least=i.p.least∧c.p.part=i.p.part∧iE c.p.settle=iE i.p.settle∧c.n=i.inst∧(kU c)∧∀(d:Unit),True→cnd (!(c.p.legs c.n).snd.snd) (∃(e:Unit),(yY i).fst=0∧(yY i).snd.fst=0∧(yY i).snd.snd=20∧True) (∃(e:pY),sb e.p.code=sb i.p.code∧iE e.p.months=iE i.p.months∧e.p.tick=i.p.tick∧e.p.low=i.p.low∧e.p.high=i.p.high∧e.p.wide=i.p.wide∧e.p.rule=i.p.rule∧e.p.top=i.p.top∧e.p.least=i.p.least∧e.p.part=i.p.part∧iE e.p.settle=iE i.p.settle∧e.a=i.inst∧e.b=i.price∧(xZ e)∧∀(f:Unit),True→cnd (e.p.price e.a e.b !=0) (∃(g:Unit),(yY i).fst=0∧(yY i).snd.fst=0∧(yY i).snd.snd=e.p.price e.a e.b∧True) ((0≤(c.p.legs c.n).snd.fst∧(c.p.legs c.n).snd.fst<(↑(iE i.p.settle).length:Int))∧∃(g:Int),zE (iE i.p.settle) (c.p.legs c.n).snd.fst.toNat 0 1=some [dI g]∧∃(h:Int×Int),∃(j:Int×Int→Prop),cnd (decide (IntKind.i64.wrap (g+i.price)>i.p.high)) (∃(k:Int×Int),k.fst=i.p.high∧k.snd=IntKind.i64.wrap (i.p.high-i.price)∧dM j k i) (∃(k:Int×Int),k.fst=IntKind.i64.wrap (g+i.price)∧k.snd=g∧dM j k i)∧∀(k:Int×Int),j k→∃(l:Int×Int),∃(m:Int×Int→Prop),cnd (decide (k.fst<i.p.low)) (∃(n:Int×Int),n.fst=i.p.low∧n.snd=IntKind.i64.wrap (i.p.low-i.price)∧dM m n i) (∃(n:Int×Int),n.fst=k.fst∧n.snd=k.snd∧dM m n i)∧∀(n:Int×Int),m n→∃(p:Unit),(yY i).fst=n.fst∧(yY i).snd.fst=n.snd∧(yY i).snd.snd=0∧True)))
def zAi (a:MSt) (b:MSt):Prop:=sb a.p.code=sb b.p.code∧True∧a.p.tick=b.p.tick∧a.p.low=b.p.low∧a.p.high=b.p.high∧a.p.wide=b.p.wide∧a.p.rule=b.p.rule∧a.p.top=b.p.top∧a.p.least=b.p.least∧a.p.part=b.p.part∧True∧True
def yDe (i:RunI):Prop:=
 ∃(a:MSt),zD a=zD i.s∧(gD a)∧∀(b:Unit),True→∃(c:RunI),c.inst=i.inst∧zC c.sd=zC i.sd∧c.price=i.price∧c.q=i.q∧zD c.s=zD a∧(qI c)∧∀(d:MSt),d.Rep c.p c.r.B→cnd (c.r.left==0) (∃(e:Unit),cR i.p i.B i.inst i.sd i.price i.q=false∧zD i.s=zD a∧True) (∃(e:MSt),sb e.p.code=sb d.p.code∧e.p.tick=d.p.tick∧e.p.low=d.p.low∧e.p.high=d.p.high∧e.p.wide=d.p.wide∧e.p.rule=d.p.rule∧e.p.top=d.p.top∧e.p.least=d.p.least∧e.p.part=d.p.part∧AObj.objs 241 Book 6 zQ e.books none=AObj.objs 241 Book 6 zQ d.books none∧yW e.wh=yW d.wh∧AObj.fro 1 (iE e.p.months)=AObj.fro 1 (iE d.p.months)∧AObj.fro 1 (iE e.p.settle)=AObj.fro 1 (iE d.p.settle)∧(fM e)∧∀(f:Unit),True→(zAi e d)∧∃(g:Bool),zC g=zC i.sd∧True∧∀(h:Unit),True→(zAi e d)∧∃(j:rS),sb j.i.p.code=sb d.p.code∧iE j.i.p.months=iE e.p.months∧j.i.p.tick=d.p.tick∧j.i.p.low=d.p.low∧j.i.p.high=d.p.high∧j.i.p.wide=d.p.wide∧j.i.p.rule=d.p.rule∧j.i.p.top=d.p.top∧j.i.p.least=d.p.least∧j.i.p.part=d.p.part∧iE j.i.p.settle=iE e.p.settle∧List.map zX j.i.tops=List.map zX e.tops∧j.i.inst=i.inst∧zC j.s=zC !g∧(kA j)∧∀(k:Unit),True→∃(l:Nat),(↑l:Int)=0∧∃(m:Nat→Prop),∃(n:Nat→Nat),m l∧∀(p:Nat),m p→cnd (decide ((↑p:Int)<(gG j))) ((0≤(↑p:Int)∧(↑p:Int)<(gG j))∧∃(q:Int),∃(r:Int),∃(s:Int),∃(t:Int),∃(u:Int),∃(v:Int),zE (jH j) (↑p:Int).toNat 0 6=some [dI q,dI r,dI s,dI t,dI u,dI v]∧∃(w:GoI),zC w.s=zC i.sd∧w.p=i.price∧w.x=q∧True∧∀(x:Unit),True→cnd (dP w.s w.p w.x) (∃(y:Unit),cR i.p i.B i.inst i.sd i.price i.q=true∧zD i.s=zD a∧True) (∃(y:Nat),(↑y:Int)=IntKind.i64.wrap ((↑p:Int)+1)∧m y∧n y<n p∧AObj.own 259 6 (jH j)=AObj.own 259 6 (jH j)∧Sx.AObj.cells (gX (bJ 5 (1+((2:Nat)-(1:Nat))+((2:Nat)-(1:Nat))+((5:Nat)-(1:Nat))) ((6:Nat)-(5:Nat)) [((2:Nat),1+((2:Nat)-(1:Nat))+((2:Nat)-(1:Nat))+nat_lit 1),((1:Nat),1+((2:Nat)-(1:Nat))+((2:Nat)-(1:Nat))+nat_lit 0),((4:Nat),1+((2:Nat)-(1:Nat))+((2:Nat)-(1:Nat))+nat_lit 3),((3:Nat),1+((2:Nat)-(1:Nat))+((2:Nat)-(1:Nat))+nat_lit 2),((0:Nat),1+nat_lit 0)]) [sV e.p.code,V.own 3,zA e.p.tick,zA e.p.low,zA e.p.high,zA e.p.wide,zA e.p.rule,zA e.p.top,zA e.p.least,zA e.p.part,V.own 4,V.own 1,V.mp 2]) (240:TypeId)=Sx.AObj.cells (gX (bJ 5 (1+((2:Nat)-(1:Nat))+((2:Nat)-(1:Nat))+((5:Nat)-(1:Nat))) ((6:Nat)-(5:Nat)) [((2:Nat),1+((2:Nat)-(1:Nat))+((2:Nat)-(1:Nat))+nat_lit 1),((1:Nat),1+((2:Nat)-(1:Nat))+((2:Nat)-(1:Nat))+nat_lit 0),((4:Nat),1+((2:Nat)-(1:Nat))+((2:Nat)-(1:Nat))+nat_lit 3),((3:Nat),1+((2:Nat)-(1:Nat))+((2:Nat)-(1:Nat))+nat_lit 2),((0:Nat),1+nat_lit 0)]) [sV e.p.code,V.own 3,zA e.p.tick,zA e.p.low,zA e.p.high,zA e.p.wide,zA e.p.rule,zA e.p.top,zA e.p.least,zA e.p.part,V.own 4,V.own 1,V.mp 2]) (240:TypeId)∧AObj.objs 241 Book 6 zQ e.books none=AObj.objs 241 Book 6 zQ e.books none∧Sx.AObj.map (yW e.wh)=Sx.AObj.map (yW e.wh)∧AObj.fro 1 (iE e.p.months)=AObj.fro 1 (iE e.p.months)∧AObj.fro 1 (iE e.p.settle)=AObj.fro 1 (iE e.p.settle)∧AObj.fro 6 (List.map zX e.tops)=AObj.fro 6 (List.map zX e.tops)∧AObj.fro 1 (iE d.p.months)=AObj.fro 1 (iE d.p.months)∧AObj.fro 1 (iE d.p.settle)=AObj.fro 1 (iE d.p.settle)∧AObj.own 321 4 (List.map j8 c.r.steps)=AObj.own 321 4 (List.map j8 c.r.steps)∧zD a=zD a)) (∃(q:Unit),cR i.p i.B i.inst i.sd i.price i.q=false∧zD i.s=zD a∧True))
open Go Cv Go.Proofs
theorem MSt.Rep.small {s:MSt} {p:Prd} {B:List (List zH)} (h:s.Rep p B) (hb:BOk p B):s.small:=by
 have:=x5 p
 refine⟨by rw[h.bl,hb.bl];omega,fun b hm=> ?_⟩
 obtain⟨k,hk⟩:=yZd.1 hm
 have hlt:=(yWn.1 hk).1
 rw[h.bl]at hlt
 obtain⟨L,hL⟩:=yD hlt
 obtain⟨Q,c,_⟩:=h.bk k b L hk hL
 exact c.small
theorem yFn (i:RunI) (h:scouldC.cnd i):z2w i:=by
 have h':i.ok:=h
 obtain⟨hR,hB,⟨h0,h1⟩,hq1,hq2⟩:=h'
 have hbl:=hR.bl
 have hl:=(mQ (inst:=i.inst) (sd:=i.sd) (price:=i.price) _ i.q i.B (yXl _) (hR.wf hB)).2.2 (by omega)
 have er:i.r=j9 i.p i.B i.inst i.sd i.price i.q:=rfl
 unfold z2w vE lK qI gD cM
 refine(fun hT=>zI (fun c=>zI (fun c2=>Cv.cnd.mk (fun _=>zI (fun _=>Cv.cnd.mk (fun e=>absurd hq2 (by simpa using e)) (fun _=>hT)) (fun e=>absurd hq1 e)) (fun e1=>Cv.cnd.mk (fun _=>zI (fun _=>Cv.cnd.mk (fun e=>absurd hq2 (by simpa using e)) (fun _=>hT)) (fun e=>absurd hq1 e)) (fun e2=>by
  rcases zCr i.sd with e|e
  ·rw[e]at e1;cases e1
  ·rw[e]at e2;cases e2))) (fun c2=>absurd (by omega) c2)) (fun c=>absurd h0 c)) ?_
 refine⟨i.s,rfl,rfl,rfl,rfl,rfl,rfl,rfl,rfl,rfl,rfl,rfl,rfl,rfl,hR.small hB,fun _ _=>⟨i,rfl,rfl,rfl,rfl,rfl,h,fun o ho=>⟨(),?_,rfl,trivial⟩⟩⟩
 rw[w64 (by rw[er];omega)]
theorem z6k:scouldC.ok Tryz.prog 167:=okw mixed (gokc zCz (gokc zZc gok0)) 2 (fun _=>[]) (fun _=>[]) [0] Tryz.func167 yFn
theorem yDd (i:SoI) (h:countC16.cnd i):zVz i:=by
 obtain⟨hR,hB⟩:i.s.Rep i.p i.B∧i.B.length≤1000:=h
 unfold zVz
 have e:(yW i.s.wh).length=z6a i.B:=by rw[yW,yWk,hR.wh.length_eq,z6a]
 exact⟨(),by rw[e],k0q⟩
theorem zZk:countC16.ok Tryz.prog 166:=okw mixed gok0 0 (fun _=>[]) (fun _=>[]) [0] Tryz.func166 yDd
theorem zTd {p:Prd} {i n:Int} (h:p.price i n=0):0≤i∧i<p.count:=by
 rw[Prd.price]at h
 split at h
 ·cases h
 split at h
 ·cases h
 omega
theorem yEe (i:LpI) (h:lpricesC.cnd i):zWz i:=by
 obtain⟨hc,hp,hpr⟩:i.p.check=0∧i.p.small∧yU i.price:=h
 unfold zWz dM yY z7 kU xZ dI
 refine⟨i.p,rfl,rfl,rfl,rfl,rfl,rfl,rfl,rfl,rfl,rfl,rfl,hp,fun _ _=>Cv.cnd.mk (fun e=>by rw[hc]at e;cases e) (fun _=> ?_)⟩
 refine⟨⟨i.p,i.inst⟩,rfl,rfl,rfl,rfl,rfl,rfl,rfl,rfl,rfl,rfl,rfl,rfl,hp,fun _ _=>Cv.cnd.mk (fun e=> ?_) (fun e=> ?_)⟩
 ·have e:(i.p.legs i.inst).2.2=false:=by simpa using e
  have h0:gN i.p i.inst i.price=(0,0,20):=by rw[gN,yWl e]
  rw[h0];exact⟨(),rfl,rfl,rfl,trivial⟩
 have e:(i.p.legs i.inst).2.2=true:=by simpa using e
 refine⟨⟨i.p,i.inst,i.price⟩,rfl,rfl,rfl,rfl,rfl,rfl,rfl,rfl,rfl,rfl,rfl,rfl,rfl,hp,fun _ _=>Cv.cnd.mk (fun e2=> ?_) (fun e2=> ?_)⟩
 ·have e2:¬i.p.price i.inst i.price=0:=by simpa using e2
  have h0:gN i.p i.inst i.price=(0,0,i.p.price i.inst i.price):=by rw[gN,yWj (by rw[e];decide),yWl e2]
  rw[h0];exact⟨(),rfl,rfl,rfl,trivial⟩
 have e2:i.p.price i.inst i.price=0:=by simpa using e2
 have hin:=zTd e2
 have hbd:=rR hc e2
 have ok:=jP hc
 have b1:=ok.b1
 have b2:=ok.b2
 have b3:=ok.b3
 have s1:=ok.s1
 have s2:=ok.s2
 have s3:=ok.s3
 obtain⟨k,hk⟩:∃k:Nat,i.inst=k:=⟨i.inst.toNat,by omega⟩
 have hl:=dJ hc (k:=k) (by omega)
 rw[← hk]at hl
 rcases hl with⟨_,_,_,l3,l4⟩|⟨x,_⟩
 rotate_left
 ·rw[e]at x;cases x
 have hsl:(iE i.p.settle).length=i.p.settle.length:=xF _
 obtain⟨n,hn⟩:=yD (l:=i.p.settle) (i:=(i.p.legs i.inst).2.1.toNat) (by omega)
 have hm:=yWt hn
 have m1:=z0x hm
 have m2:=z2d hm
 have hg:i.p.settle.getD (i.p.legs i.inst).2.1.toNat 0=n:=zR hn
 have h0:gN i.p i.inst i.price=(if(if i.p.high<n+i.price then(i.p.high,i.p.high-i.price)else(n+i.price,n)).1<i.p.low then(i.p.low,i.p.low-i.price,0)else((if i.p.high<n+i.price then(i.p.high,i.p.high-i.price)else(n+i.price,n)).1,(if i.p.high<n+i.price then(i.p.high,i.p.high-i.price)else(n+i.price,n)).2,0)):=by
  rw[gN,yWj (by rw[e];decide),yWj (by rw[e2];decide)]
  dsimp only
  rw[hg]
 dsimp only
 refine⟨⟨l3,by omega⟩,n,elI hn,(0,0),fun a=>a=if i.p.high<n+i.price then(i.p.high,i.p.high-i.price)else(n+i.price,n),zI (fun c=>⟨(i.p.high,i.p.high-i.price),rfl,(w64 (by omega)).symm,?_,k0q⟩) (fun c=>⟨(n+i.price,n),(w64 (by omega)).symm,rfl,?_,k0q⟩),?_⟩
 ·rw[w64 (by omega)]at c;rw[yWl c]
 ·rw[w64 (by omega)]at c;rw[yWj c]
 rintro _ rfl
 generalize (if i.p.high<n+i.price then(i.p.high,i.p.high-i.price)else(n+i.price,n))=a at h0 ⊢
 refine⟨(0,0),fun b=>b=if a.1<i.p.low then(i.p.low,i.p.low-i.price)else a,zI (fun c=>⟨(i.p.low,i.p.low-i.price),rfl,(w64 (by omega)).symm,by rw[yWl c],k0q⟩) (fun c=>⟨a,rfl,rfl,by rw[yWj c],k0q⟩),?_⟩
 rintro _ rfl
 rw[h0]
 by_cases c:a.1<i.p.low
 ·rw[yWl c,yWl c];exact⟨(),rfl,rfl,rfl,trivial⟩
 ·rw[yWj c,yWj c];exact⟨(),rfl,rfl,rfl,trivial⟩
theorem zZn:lpricesC.ok Tryz.prog 264:=okw mixed (gokc sX (gokc tY (gokc rV gok0))) 0 (fun _=>lpJ) (fun _=>[]) [] Tryz.func264 yEe
theorem yIo {l:List Quote} {k:Nat} {q:Quote} (h:l[k]? =some q):zE (l.map zJ) k 0 6=some [D.v (.int .i64 q.price),D.v (.int .i64 q.qty),D.v (.int .i64 q.a.inst),D.v (.int .i64 q.a.side),D.v (.int .i64 q.b.inst),D.v (.int .i64 q.b.side)]:=elA h (by simp[zJ]) rfl
theorem yMx (i:RunI) (h:stuckC.cnd i):yDe i:=by
 have h':i.ok:=h
 obtain⟨hR,hB,⟨h0,h1⟩,hq1,hq2⟩:=h'
 have hwf:=hR.wf hB
 obtain⟨k1,k2,k3⟩:=mQ (inst:=i.inst) (sd:=i.sd) (price:=i.price) _ i.q i.B (yXl _) hwf
 have hcl:=x5 i.p
 unfold yDe zAi qI gD cM gG jH kA gC fM dI
 refine⟨i.s,rfl,hR.small hB,fun _ _=>⟨i,rfl,rfl,rfl,rfl,rfl,h,fun o ho=> ?_⟩⟩
 have er:i.r=j9 i.p i.B i.inst i.sd i.price i.q:=rfl
 have es:cR i.p i.B i.inst i.sd i.price i.q=(decide ((j9 i.p i.B i.inst i.sd i.price i.q).left≠0) && (kB ⟨i.p,(j9 i.p i.B i.inst i.sd i.price i.q).B.map qU,i.inst⟩ (zC (!i.sd))).any fun x=>dP i.sd i.price x.price):=rfl
 rw[er]at ho ⊢
 rw[es]
 generalize j9 i.p i.B i.inst i.sd i.price i.q=R at*
 obtain⟨ts,lf,RB⟩:=R
 dsimp only at*
 refine Cv.cnd.mk (fun e=>⟨(),?_,rfl,trivial⟩) (fun e=> ?_)
 ·have e:lf=0:=by simpa using e
  rw[e];rfl
 have e:lf≠0:=by simpa using e
 rw[yXc e,yZe]
 have ep:=ho.ep
 have hB':=k1.ok
 have hbl:=hB'.bl
 have hcnt:o.cntOk:=ho.cnt (by omega)
 have hps:o.p.small:=by rw[ep];exact hB'.ps
 have hto:wY (RB.map qU):=hB'.tops
 have hle:=zBb ⟨o.p,RB.map qU,i.inst⟩ (zC (!i.sd))
 refine⟨o,rfl,rfl,rfl,rfl,rfl,rfl,rfl,rfl,rfl,rfl,rfl,rfl,rfl,hcnt,fun _ _=>⟨⟨rfl,trivial,rfl,rfl,rfl,rfl,rfl,rfl,rfl,rfl,trivial,trivial⟩,i.sd,rfl,trivial,fun _ _=>⟨⟨rfl,trivial,rfl,rfl,rfl,rfl,rfl,rfl,rfl,rfl,trivial,trivial⟩,⟨⟨o.p,RB.map qU,i.inst⟩,!i.sd⟩,rfl,rfl,rfl,rfl,rfl,rfl,rfl,rfl,rfl,rfl,rfl,by rw[ho.tops],rfl,rfl,⟨hps,hto⟩,fun _ _=> ?_⟩⟩⟩
 dsimp only
 rw[← ep]
 generalize kB ⟨o.p,RB.map qU,i.inst⟩ (zC (!i.sd))=Q at*
 have e4:(Q.map zJ).length=Q.length:=yWk ..
 refine⟨0,rfl,fun j=>j≤Q.length∧(Q.take j).any (fun x=>dP i.sd i.price x.price)=false,fun j=>Q.length-j,⟨yYh _,rfl⟩,?_⟩
 rintro j ⟨j1,j2⟩
 refine zI (fun c=> ?_) (fun c=>⟨(),?_,rfl,trivial⟩)
 ·obtain⟨q,hq⟩:=yD (l:=Q) (i:=j) (by omega)
  refine⟨⟨by omega,by omega⟩,_,_,_,_,_,_,yIo hq,⟨i.sd,i.price,q.price⟩,rfl,rfl,rfl,trivial,fun _ _=>Cv.cnd.mk (fun g=>⟨(),?_,rfl,trivial⟩) (fun g=>⟨j+1,wjn (by omega),⟨by omega,?_⟩,by dsimp only;omega,k0q⟩)⟩
  ·rw[List.any_eq_true];exact⟨q,yWt hq,g⟩
  ·rw[yXt,hq,List.any_append,j2]
   show(false||([q].any fun x=>dP i.sd i.price x.price))=false
   simp only[List.any_cons,List.any_nil,Bool.or_false,y2m]
   exact g
 ·have:j=Q.length:=by omega
  rw[this,yWu (yXl _)]at j2
  exact j2
theorem zUw:stuckC.ok Tryz.prog 168:=okw mixed (gokc zCz (gokc zZc (gokc zUg (gokc yAh (gokc zOi (gokc zUp gok0)))))) 0 (fun _=>yPu) (fun _=>yPv) [] Tryz.func168 yMx
open Go Cv Go.Proofs
def pB (c:Cmd) (why:Int):List Rep:=[⟨2,c.id,0,0,0,0,0,why⟩]
def ofF (x:wB) (k:Int):Int:=match x.fills.find? fun f=>decide (f.inst=k)with
 |some f=>f.price
 |none=>x.price
def wK (p:Prd) (inst:Int) (x:wB):Int×Int:=if x.implied=false then((gN p inst x.price).1,(gN p inst x.price).2.1)else(ofF x (p.legs inst).1,ofF x (p.legs inst).2.1)
def zGz (p:Prd) (r:Rep) (near far:Int):List Rep:=[{r with inst:=(p.legs r.inst).1,price:=near},{r with inst:=(p.legs r.inst).2.1,side:=3-r.side,price:=far}]
def pV (p:Prd) (x:wB) (r:Rep):List Rep:=r::if(p.legs r.inst).2.2=true then zGz p r (wK p r.inst x).1 (wK p r.inst x).2 else[]
def zBx (f:dK):Rep:=⟨3,f.id,f.inst,f.side,f.price,f.qty,f.left,0⟩
def mO (p:Prd) (c:Cmd) (x:wB) (left:Int):List Rep:=x.fills.flatMap (fun f=>pV p x (zBx f))++pV p x ⟨3,c.id,c.inst,c.side,x.price,x.qty,left,0⟩
def pD (p:Prd) (c:Cmd):List wB→Int→List Rep
 |[],_=>[]
 |x::l,left=>mO p c x (left-x.qty)++pD p c l (left-x.qty)
structure MkX where
 B:List (List zH)
 U:List Int
 R:List Rep
def zMk (U:List Int) (id:Int):List Int:=if id∈U then U else U++[id]
def aJ (p:Prd) (B:List (List zH)) (U:List Int) (c:Cmd):MkX:=match j9 p B c.inst (decide (c.side=2)) c.price c.qty with
 |⟨ts,left,B'⟩=>⟨if left≠0∧c.time=1 then(z0h p B' c.inst c.id c.side c.price left).1 else B',zMk U c.id,
  (⟨1,c.id,c.inst,c.side,c.price,c.qty,c.qty,0⟩::pD p c ts c.qty)++if left≠0∧c.time≠1 then[⟨4,c.id,c.inst,c.side,c.price,left,0,0⟩]else[]⟩
def Cmd.lst (c:Cmd):Int:=if c.time=3 then c.qty else c.least
def rE (p:Prd) (B:List (List zH)) (U:List Int) (c:Cmd):MkX:=
 if p.price c.inst c.price≠0 then⟨B,U,pB c (p.price c.inst c.price)⟩
 else if c.id∈U then⟨B,U,pB c 25⟩
 else if 250≤z6a B then⟨B,U,pB c 13⟩
 else if 0<c.lst∧c.qty-(j9 p B c.inst (decide (c.side=2)) c.price c.qty).left<c.lst then⟨B,U,pB c 28⟩
 else if c.time=1∧cR p B c.inst (decide (c.side=2)) c.price c.qty=true then⟨B,U,pB c 23⟩
 else aJ p B U c
def b9 (B:List (List zH)) (U:List Int) (id inst:Int) (o:zH):MkX:=⟨(kE B id o.qty).1,U,[⟨4,id,inst,o.side,o.price,o.qty,0,0⟩]⟩
def zCg (B:List (List zH)) (U:List Int) (id q inst:Int) (o:zH):MkX:=⟨(kE B id q).1,U,[⟨5,id,inst,o.side,o.price,q,o.qty-q,0⟩]⟩
def c8 (p:Prd) (B:List (List zH)) (U:List Int) (c:Cmd) (inst:Int) (o:zH):MkX:=
 if p.price inst c.price≠0 then⟨B,U,pB c (p.price inst c.price)⟩
 else if c.price=o.price∧c.qty≤o.qty then zCg B U c.id (o.qty-c.qty) inst o
 else if cR p (kE B c.id o.qty).1 inst (decide (o.side=2)) c.price c.qty=true then⟨B,U,pB c 23⟩
 else
  let x:=b9 B U c.id inst o
  let y:=aJ p x.B U ⟨1,c.id,inst,o.side,c.price,c.qty,0,1,[]⟩
  ⟨y.B,y.U,x.R++y.R⟩
def doF (p:Prd) (B:List (List zH)) (U:List Int) (c:Cmd):MkX:=
 if c.right≠0 then⟨B,U,pB c c.right⟩
 else if c.kind=1 then rE p B U c
 else if(yH B c.id).2.2=false then⟨B,U,pB c 26⟩
 else if c.kind=4 then c8 p B U c (yH B c.id).1 (yH B c.id).2.1
 else if c.kind=2∨(yH B c.id).2.1.qty≤c.qty then b9 B U c.id (yH B c.id).1 (yH B c.id).2.1
 else zCg B U c.id c.qty (yH B c.id).1 (yH B c.id).2.1
structure Mkt.Rep (m:Mkt) (p:Prd) (B:List (List zH)) (U:List Int):Prop where
 ep:m.p=p
 s:m.s.Rep p B
 u:m.used=U
@[reducible] def zCn (m:Mkt):List AObj:=[y3 m 0,y3 m 1,y3 m 2,y3 m 3,y3 m 4]
@[reducible] def yKp (x:wB):V:= .agg [zA x.price,zA x.qty,yF x.implied,roV 6 (x.fills.map yT)]
@[reducible] def tRp:Nat:=85
@[reducible] def zZb (l:List Rep):AObj:= .own tRp 8 (l.map x7)
structure RjI where
 c:Cmd
 why:Int
def rejC:Con:=con1 RjI (fun i=>[zMt i.c,zA i.why]) (fun _=>[]) (fun _=>True) (fun _=> .own 0) (fun i=>[zZb (pB i.c i.why)])
structure MsI where
 m:Mkt
 r:Rep
 near:Int
 far:Int
@[reducible] def Mkt.fine (m:Mkt):Prop:=m.p.check=0∧m.p.small
def mspreadC:Con:=con1 MsI (fun i=>[.nm 0 0,yUs i.r,zA i.near,zA i.far]) (fun i=>zCn i.m) (fun i=>i.m.fine∧(i.r.side=1∨i.r.side=2)) (fun _=> .own 5) (fun i=>zCn i.m++[zZb (zGz i.m.p i.r i.near i.far)])
structure MiN where
 m:Mkt
 inst:Int
def misC:Con:=con1 MiN (fun i=>[.nm 0 0,zA i.inst]) (fun i=>zCn i.m) (fun i=>i.m.fine) (fun i=>yF (i.m.p.legs i.inst).2.2) (fun i=>zCn i.m)
structure OfI where
 x:wB
 k:Int
@[reducible] def zTx (x:wB) (n:Nat):List AObj:=[.cells [zA x.price,zA x.qty,yF x.implied,.own n] 321,.fro 6 (x.fills.map yT)]
def ofC:Con:=con1 OfI (fun i=>[zA i.k,.nm 0 0]) (fun i=>zTx i.x 1) (fun i=>i.x.fills.length≤1000000) (fun i=>zA (ofF i.x i.k)) (fun i=>zTx i.x 1)
def ofA:List SAnn:=[{ι:=Nat,slots:=fun j=>[(9,zA j)],rows:=fun _=>[]}]
structure MpI where
 m:Mkt
 inst:Int
 x:wB
def mpricesC:Con:=con1 MpI (fun i=>[.nm 0 0,zA i.inst,yKp i.x]) (fun i=>zCn i.m) (fun i=>i.m.fine∧yU i.x.price∧i.x.fills.length≤1000000) (fun i=> .tup [zA (wK i.m.p i.inst i.x).1,zA (wK i.m.p i.inst i.x).2]) (fun i=>zCn i.m)
structure StI' where
 m:Mkt
 c:Cmd
 x:wB
 left:Int
def StI'.out (i:StI') (j:Nat):List Rep:=(i.x.fills.take j).flatMap fun f=>pV i.m.p i.x (zBx f)
def mstepC:Con:=con1 StI' (fun i=>[.nm 0 0,zMt i.c,yKp i.x,zA i.left]) (fun i=>zCn i.m) (fun i=>i.m.fine∧yU i.x.price∧i.x.fills.length≤1000000∧(i.c.side=1∨i.c.side=2)∧∀f∈i.x.fills,f.side=1∨f.side=2) (fun _=> .own 5) (fun i=>zCn i.m++[zZb (mO i.m.p i.c i.x i.left)])
def yOy (i:StI'):List SAnn:=[{ι:=Nat,slots:=fun j=>[(9,.nm 0 0),(17,zA j)],rows:=fun j=>[.cells [.own 1] 106,zZb (i.out j)]}]
end Sx
