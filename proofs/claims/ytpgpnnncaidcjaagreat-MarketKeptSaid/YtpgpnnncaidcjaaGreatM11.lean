/- Texts of ours, one behind the other: a walk that the kernel reckons, and contracts of functions. No condition. -/
import Derived.Test.YtpgpnnncaidcjaaGreatM10
namespace Sx
set_option linter.unusedVariables false
set_option maxRecDepth 100000
open Go Cv Go.Proofs
def kpC:Con:=con1 AbI (fun i=>[prdV i.x,roV 9 (i.l.map cmdE)]) (fun _=>[]) (fun i=>i.raw) (fun _=>yO true) (fun _=>[])
def iD (l:List Int):List D:=l.map fun n=> .v (.int .i64 n)
def ivT (t T:Nat):SAnn:={ι:=List Int,slots:=fun _=>[(t,.nm 0 0)],rows:=fun l=>[.vec (iD l) T],slots0:=fun _=>[(t,.nm 0 0)],rows0:=fun l=>[.vec (iD l) T]}
def iv3:SAnn:={ι:=List Int×List Int×List Int,slots:=fun _=>[(8,.nm 0 0),(9,.nm 1 0),(10,.nm 2 0)],rows:=fun l=>[.vec (iD l.1) 64,.vec (iD l.2.1) 65,.vec (iD l.2.2) 66],slots0:=fun _=>[(8,.nm 0 0),(9,.nm 1 0),(10,.nm 2 0)],rows0:=fun l=>[.vec (iD l.1) 64,.vec (iD l.2.1) 65,.vec (iD l.2.2) 66]}
def doJ (a b:Nat):SAnn:={ι:=Mkt×List Rep,slots:=fun _=>[(a,.nm 0 0),(b,.own 1)],rows:=fun j=>[zJn j.1,zRn j.2],slots0:=fun _=>[(a,.nm 0 0)],rows0:=fun j=>[zJn j.1]}
def kpA:List SAnn:=[
 {ι:=Nat×Mkt×List Int×List Int×List Int,slots:=fun j=>[(6,.nm 0 0),(8,.nm 1 0),(9,.nm 2 0),(10,.nm 3 0),(11,zB j.1)],rows:=fun j=>[zJn j.2.1,.vec (iD j.2.2.1) 64,.vec (iD j.2.2.2.1) 65,.vec (iD j.2.2.2.2) 66]},
 {ι:=Nat×List Int×List Int×List Int,slots:=fun j=>[(8,.nm 0 0),(9,.nm 1 0),(10,.nm 2 0),(13,zB j.1)],rows:=fun j=>[.vec (iD j.2.1) 64,.vec (iD j.2.2.1) 65,.vec (iD j.2.2.2) 66]},
 {ι:=Nat,slots:=fun j=>[(15,zB j)],rows:=fun _=>[]},
 {ι:=Nat,slots:=fun j=>[(16,zB j)],rows:=fun _=>[]}]
def kpJ:List (Nat×SAnn):=[(4,yQi 5),(36,bj 40),(44,doJ 6 12),(76,bj 93),(118,ivT 10 66),(128,bj 189),(130,ivT 8 64),(136,bj 209),(88,ivT 8 64),(92,bj 118),(15,iv3),(180,bj 248)]
open Go Cv Go.Proofs
def zVc (a:AbI):Prop:=Sx.AObj.cells [V.d (D.v (Value.string (sb a.x.code))),V.own 0,V.d (D.v (.int .i64 a.x.tick)),V.d (D.v (.int .i64 a.x.low)),V.d (D.v (.int .i64 a.x.high)),V.d (D.v (.int .i64 a.x.wide)),V.d (D.v (.int .i64 a.x.rule)),V.d (D.v (.int .i64 a.x.top)),V.d (D.v (.int .i64 a.x.least)),V.d (D.v (.int .i64 a.x.part)),V.own ((0:Nat)+(1:Nat))] 29=Sx.AObj.cells [V.d (D.v (Value.string (sb a.x.code))),V.own 0,V.d (D.v (.int .i64 a.x.tick)),V.d (D.v (.int .i64 a.x.low)),V.d (D.v (.int .i64 a.x.high)),V.d (D.v (.int .i64 a.x.wide)),V.d (D.v (.int .i64 a.x.rule)),V.d (D.v (.int .i64 a.x.top)),V.d (D.v (.int .i64 a.x.least)),V.d (D.v (.int .i64 a.x.part)),V.own ((0:Nat)+(1:Nat))] 29∧AObj.fro 1 (iE a.x.settle)=AObj.fro 1 (iE a.x.settle)∧AObj.fro 1 (iE a.x.months)=AObj.fro 1 (iE a.x.months)
def zOa (a:Prd) (b:AbI):Prop:=Sx.AObj.cells (fZ (zGq ((0:Nat)+(1:Nat)+(1:Nat)+(1:Nat)) (jC [] 0 []) 3) [sV a.code,V.own 1,zB a.tick,zB a.low,zB a.high,zB a.wide,zB a.rule,zB a.top,zB a.least,zB a.part,V.own 2]) (29:TypeId)=Sx.AObj.cells (fZ (zGq ((0:Nat)+(1:Nat)+(1:Nat)+(1:Nat)) (jC [] 0 []) 3) [sV a.code,V.own 1,zB a.tick,zB a.low,zB a.high,zB a.wide,zB a.rule,zB a.top,zB a.least,zB a.part,V.own 2]) (29:TypeId)∧AObj.fro 1 (iE a.months)=AObj.fro 1 (iE a.months)∧AObj.fro 1 (iE a.settle)=AObj.fro 1 (iE a.settle)∧zVc b
def zIo (a:Nat×Mkt×List Int×List Int×List Int) (b:Prd) (c:AbI):Prop:=AObj.vec (iD a.snd.snd.fst) (64:TypeId)=AObj.vec (iD a.snd.snd.fst) (64:TypeId)∧AObj.vec (iD a.snd.snd.snd.fst) (65:TypeId)=AObj.vec (iD a.snd.snd.snd.fst) (65:TypeId)∧AObj.vec (iD a.snd.snd.snd.snd) (66:TypeId)=AObj.vec (iD a.snd.snd.snd.snd) (66:TypeId)∧zOa b c
def zMu (a:Bool→Prop) (b:Bool) (c:MfI) (d:Nat×Mkt×List Int×List Int×List Int) (e:Prd) (f:AbI):Prop:=a b∧Sx.AObj.cells [V.d (D.v (.int .i64 (zJ c.B c.id).snd.fst.id)),V.d (D.v (.int .i64 (zJ c.B c.id).snd.fst.side)),V.d (D.v (.int .i64 (zJ c.B c.id).snd.fst.price)),V.d (D.v (.int .i64 (zJ c.B c.id).snd.fst.qty)),V.d (D.v (.bool (zJ c.B c.id).snd.fst.top))] 68=Sx.AObj.cells [V.d (D.v (.int .i64 (zJ c.B c.id).snd.fst.id)),V.d (D.v (.int .i64 (zJ c.B c.id).snd.fst.side)),V.d (D.v (.int .i64 (zJ c.B c.id).snd.fst.price)),V.d (D.v (.int .i64 (zJ c.B c.id).snd.fst.qty)),V.d (D.v (.bool (zJ c.B c.id).snd.fst.top))] 68∧AObj.adt Mkt 5 yI c.m=AObj.adt Mkt 5 yI c.m∧zIo d e f
def zCm (a:Mkt×List Rep) (b:Prd) (c:AbI):Prop:=AObj.adt Mkt 5 yI a.fst=AObj.adt Mkt 5 yI a.fst∧AObj.own tRp 8 (List.map yM a.snd)=AObj.own tRp 8 (List.map yM a.snd)∧zOa b c
def zNz (a:List Int×List Int×List Int) (b:Mkt×List Rep) (c:Prd) (d:AbI):Prop:=AObj.vec (iD a.snd.fst) (65:TypeId)=AObj.vec (iD a.snd.fst) (65:TypeId)∧AObj.vec (iD a.snd.snd) (66:TypeId)=AObj.vec (iD a.snd.snd) (66:TypeId)∧zCm b c d
def zUg (a:Bool→Prop) (b:Bool) (c:List Int×List Int×List Int) (d:Mkt×List Rep) (e:Prd) (f:AbI):Prop:=a b∧AObj.vec (iD c.fst) (64:TypeId)=AObj.vec (iD c.fst) (64:TypeId)∧zNz c d e f
def zPc (a:Bool→Prop) (b:List Int×List Int×List Int) (c:Mkt×List Rep) (d:Prd) (e:AbI):Prop:=∃(f:Bool),f=true∧zUg a f b c d e
def zWl (a:List Int×List Int×List Int) (b:Mkt×List Rep) (c:Prd) (d:AbI):Prop:=AObj.vec (iD a.snd.fst) (65:TypeId)=AObj.vec (iD a.snd.fst) (65:TypeId)∧zCm b c d
def zYb (a:List Int) (b:List Int×List Int×List Int) (c:Mkt×List Rep) (d:Prd) (e:AbI):Prop:=AObj.vec (iD a) 66=AObj.vec (iD a) 66∧zWl b c d e
def zVn (a:Bool→Prop) (b:Bool) (c:List Int) (d:List Int) (e:List Int×List Int×List Int) (f:Mkt×List Rep) (g:Prd) (h:AbI):Prop:=a b∧AObj.vec (iD c) 64=AObj.vec (iD c) 64∧zYb d e f g h
def zXe (a:Bool→Prop) (b:Bool) (c:Nat×Mkt×List Int×List Int×List Int) (d:Prd) (e:AbI):Prop:=a b∧AObj.adt Mkt 5 yI c.snd.fst=AObj.adt Mkt 5 yI c.snd.fst∧zIo c d e
def zXg (a:List Int×List Int×List Int→Prop) (b:List Int×List Int×List Int) (c:Mkt×List Rep) (d:Prd) (e:AbI):Prop:=a b∧zCm c d e
def zWn (a:List Int×List Int×List Int) (b:List Int×List Int×List Int) (c:List Int×List Int×List Int→Prop) (d:Mkt×List Rep) (e:Prd) (f:AbI):Prop:=AObj.vec (iD a.snd.snd) (66:TypeId)=AObj.vec (iD b.snd.snd) (66:TypeId)∧zXg c a d e f
def zVz (a:List Int×List Int×List Int) (b:List Int×List Int×List Int) (c:List Int×List Int×List Int→Prop) (d:Mkt×List Rep) (e:Prd) (f:AbI):Prop:=AObj.vec (iD a.snd.fst) (65:TypeId)=AObj.vec (iD b.snd.fst) (65:TypeId)∧zWn a b c d e f
def zUi (a:List Int→Prop) (b:List Int) (c:List Int×List Int×List Int) (d:Mkt×List Rep) (e:Prd) (f:AbI):Prop:=a b∧AObj.vec (iD c.fst) (64:TypeId)=AObj.vec (iD c.fst) (64:TypeId)∧zWl c d e f
def zWb (a:List Int→Prop) (b:List Int) (c:List Int) (d:List Int×List Int×List Int) (e:Mkt×List Rep) (f:Prd) (g:AbI):Prop:=a b∧zYb c d e f g
def vG (a:List Int):=(List.drop (0:Nat) (iD a))
def zDy (a:List Int) (b:Int) (c:Int) (d:Int):=([]++(vG a).set b.toNat (D.v (.int .i64 (IntKind.i64.wrap (c-d)))))
def qV (a:Nat×List Int×List Int×List Int) (b:Mkt×List Rep):Prop:=0≤(↑a.fst:Int)∧(↑a.fst:Int)<(↑(List.map yM b.snd).length:Int)
def Vkp (i:AbI):Prop:=
 ∃(a:Prd),∃(b:Prd→Prop),(∃(c:Prd),sb c.code=sb i.x.code∧iE c.months=iE i.x.months∧c.tick=i.x.tick∧c.low=i.x.low∧c.high=i.x.high∧c.wide=i.x.wide∧c.rule=i.x.rule∧c.top=i.x.top∧c.least=i.x.least∧c.part=i.x.part∧iE c.settle=iE i.x.settle∧(((-9223372036854775808)≤c.tick∧c.tick≤9223372036854775807)∧((-9223372036854775808)≤c.wide∧c.wide≤9223372036854775807)∧((-9223372036854775808)≤c.rule∧c.rule≤9223372036854775807)∧((-9223372036854775808)≤c.top∧c.top≤9223372036854775807)∧((-9223372036854775808)≤c.least∧c.least≤9223372036854775807)∧((-9223372036854775808)≤c.part∧c.part≤9223372036854775807)∧c.months.length≤9223372036854775807)∧∀(d:Unit),True→∃(e:Prd),sb e.code=sb [(206:UInt8),(169:UInt8)]∧e.tick=yE c∧e.low=(-20)*yE c∧e.high=100*yE c∧e.wide=yE c*(5+zK c.wide 0 60)∧e.rule=1+zK c.rule 0 2∧e.top=zK c.top 0 9∧e.least=1+zK c.least 0 4∧e.part=zK c.part 0 100∧AObj.fro 1 (iE e.months)=AObj.fro 1 (iE (k8 (kN c).toNat))∧AObj.fro 1 (iE e.settle)=AObj.fro 1 (iE (kB (yE c) (kN c).toNat))∧b e∧zVc i)∧∀(c:Prd),b c→∃(d:Prd),sb d.code=sb c.code∧iE d.months=iE c.months∧d.tick=c.tick∧d.low=c.low∧d.high=c.high∧d.wide=c.wide∧d.rule=c.rule∧d.top=c.top∧d.least=c.least∧d.part=c.part∧iE d.settle=iE c.settle∧(xZ d)∧(∀(e:Unit),d.check=0→∃(f:Nat×Mkt×List Int×List Int×List Int),(↑f.fst:Int)=0∧AObj.adt Mkt 5 yI f.snd.fst=AObj.adt Mkt 5 yI (Mkt.mk d (gX d) [])∧List.map V.d (iD f.snd.snd.fst)=(Sx.V.agg (List.replicate 80 (V.d (D.v (.int .i64 0))))).cl∧List.map V.d (iD f.snd.snd.snd.fst)=(Sx.V.agg (List.replicate 80 (V.d (D.v (.int .i64 0))))).cl∧List.map V.d (iD f.snd.snd.snd.snd)=(Sx.V.agg (List.replicate 32 (V.d (D.v (.int .i64 0))))).cl∧∃(g:Nat×Mkt×List Int×List Int×List Int→Prop),∃(h:Nat×Mkt×List Int×List Int×List Int→Nat),g f∧∀(j:Nat×Mkt×List Int×List Int×List Int),g j→∃(k:Bool),∃(l:Bool→Prop),cnd (decide ((↑j.fst:Int)<(↑(List.map cmdE i.l).length:Int))) (∃(m:Bool),m=decide ((↑j.fst:Int)<60)∧zXe l m j c i) (∃(m:Bool),m=false∧zXe l m j c i)∧∀(m:Bool),l m→cnd m (∃(n:Mkt×List Rep),AObj.adt Mkt 5 yI n.fst=AObj.adt Mkt 5 yI j.snd.fst∧∃(p:Mkt×List Rep→Prop),((0≤(↑j.fst:Int)∧(↑j.fst:Int)<(↑(List.map cmdE i.l).length:Int))∧∃(q:Int),∃(r:Int),∃(s:Int),∃(t:Int),∃(u:Int),∃(v:Int),∃(w:Int),∃(x:Int),∃(y:ByteArray),zF (List.map cmdE i.l) (↑j.fst:Int).toNat 0 9=some [D.v (.int .i64 q),D.v (.int .i64 r),D.v (.int .i64 s),D.v (.int .i64 t),D.v (.int .i64 u),D.v (.int .i64 v),D.v (.int .i64 w),D.v (.int .i64 x),D.v (Value.string y)]∧∃(z:TmI),sb z.p.code=sb c.code∧iE z.p.months=iE c.months∧z.p.tick=c.tick∧z.p.low=c.low∧z.p.high=c.high∧z.p.wide=c.wide∧z.p.rule=c.rule∧z.p.top=c.top∧z.p.least=c.least∧z.p.part=c.part∧iE z.p.settle=iE c.settle∧z.c.kind=q∧z.c.id=r∧z.c.inst=s∧z.c.side=t∧z.c.price=u∧z.c.qty=v∧z.c.least=w∧z.c.time=x∧sb z.c.label=y∧z.i=(↑j.fst:Int)∧(z.p.check=0∧(z.p.code.length≤1099511627776∧z.p.months.length≤1099511627776∧z.p.settle.length≤1099511627776)∧(((-9223372036854775808)≤z.c.kind∧z.c.kind≤9223372036854775807)∧((-9223372036854775808)≤z.c.id∧z.c.id≤9223372036854775807)∧((-9223372036854775808)≤z.c.inst∧z.c.inst≤9223372036854775807)∧((-9223372036854775808)≤z.c.side∧z.c.side≤9223372036854775807)∧((-9223372036854775808)≤z.c.price∧z.c.price≤9223372036854775807)∧((-9223372036854775808)≤z.c.qty∧z.c.qty≤9223372036854775807)∧((-9223372036854775808)≤z.c.least∧z.c.least≤9223372036854775807)∧(-9223372036854775808)≤z.c.time∧z.c.time≤9223372036854775807)∧0≤z.i∧z.i≤1000000)∧∀(a_1:Unit),True→∃(a_2:EnI),a_2.c.kind=(qN z).kind∧a_2.c.id=(qN z).id∧a_2.c.inst=(qN z).inst∧a_2.c.side=(qN z).side∧a_2.c.price=(qN z).price∧a_2.c.qty=(qN z).qty∧a_2.c.least=(qN z).least∧a_2.c.time=(qN z).time∧sb a_2.c.label=sb (qN z).label∧AObj.adt Mkt 5 yI a_2.m=AObj.adt Mkt 5 yI n.fst∧(gM a_2)∧∀(a_3:Mkt),a_3.Rep a_2.p a_2.X.B a_2.X.U→∃(a_4:Mkt×List Rep),AObj.adt Mkt 5 yI a_4.fst=AObj.adt Mkt 5 yI a_3∧List.map yM a_4.snd=List.map yM a_2.X.R∧p a_4∧zIo j c i)∧∀(q:Mkt×List Rep),p q→∃(r:Nat×List Int×List Int×List Int),(↑r.fst:Int)=0∧AObj.vec (iD r.snd.fst) (64:TypeId)=AObj.vec (iD j.snd.snd.fst) (64:TypeId)∧AObj.vec (iD r.snd.snd.fst) (65:TypeId)=AObj.vec (iD j.snd.snd.snd.fst) (65:TypeId)∧AObj.vec (iD r.snd.snd.snd) (66:TypeId)=AObj.vec (iD j.snd.snd.snd.snd) (66:TypeId)∧∃(s:Nat×List Int×List Int×List Int→Prop),∃(t:Nat×List Int×List Int×List Int→Nat),s r∧∀(u:Nat×List Int×List Int×List Int),s u→cnd (decide ((↑u.fst:Int)<(↑(List.map yM q.snd).length:Int))) (∃(v:List Int×List Int×List Int),AObj.vec (iD v.fst) (64:TypeId)=AObj.vec (iD u.snd.fst) (64:TypeId)∧AObj.vec (iD v.snd.fst) (65:TypeId)=AObj.vec (iD u.snd.snd.fst) (65:TypeId)∧AObj.vec (iD v.snd.snd) (66:TypeId)=AObj.vec (iD u.snd.snd.snd) (66:TypeId)∧∃(w:List Int×List Int×List Int→Prop),((qV u q)∧∃(x:Int),zF (List.map yM q.snd) (↑u.fst:Int).toNat ((0:Nat)+(1:Nat)) 1=some [D.v (.int .i64 x)]∧(qV u q)∧∃(y:Int),zF (List.map yM q.snd) (↑u.fst:Int).toNat ((0:Nat)+(0:Nat)) 1=some [D.v (.int .i64 y)]∧cnd (y==2) (cnd ((↑(List.map yM q.snd).length:Int) !=1) (∃(z:Unit),true=false∧True) (∃(z:List Int×List Int×List Int),AObj.vec (iD z.fst) (64:TypeId)=AObj.vec (iD v.fst) (64:TypeId)∧zVz z v w q c i)) (∃(z:Bool),∃(a_1:Bool→Prop),cnd (decide (x<1)) (zPc a_1 v q c i) (cnd (decide (x≥80)) (zPc a_1 v q c i) ((qV u q)∧∃(a_2:Int),zF (List.map yM q.snd) (↑u.fst:Int).toNat ((0:Nat)+(2:Nat)) 1=some [D.v (.int .i64 a_2)]∧cnd (decide (a_2<0)) (zPc a_1 v q c i) ((qV u q)∧∃(a_3:Int),zF (List.map yM q.snd) (↑u.fst:Int).toNat ((0:Nat)+(2:Nat)) 1=some [D.v (.int .i64 a_3)]∧∃(a_4:Bool),a_4=decide (a_3≥32)∧zUg a_1 a_4 v q c i)))∧∀(a_2:Bool),a_1 a_2→cnd a_2 (∃(a_3:Unit),true=false∧True) ((qV u q)∧∃(a_3:Int),zF (List.map yM q.snd) (↑u.fst:Int).toNat ((0:Nat)+(0:Nat)) 1=some [D.v (.int .i64 a_3)]∧cnd (a_3==1) ((qV u q)∧∃(a_4:Int),zF (List.map yM q.snd) (↑u.fst:Int).toNat ((0:Nat)+(5:Nat)) 1=some [D.v (.int .i64 a_4)]∧(0≤x∧x<(↑(80:Nat):Int))∧x.toNat<(List.drop 0 (iD v.fst)).length∧(qV u q)∧∃(a_5:Int),zF (List.map yM q.snd) (↑u.fst:Int).toNat ((0:Nat)+(2:Nat)) 1=some [D.v (.int .i64 a_5)]∧(0≤x∧x<(↑(80:Nat):Int))∧x.toNat<(List.drop 0 (iD v.snd.fst)).length∧∃(a_6:List Int×List Int×List Int),AObj.vec (iD a_6.fst) (64:TypeId)=AObj.vec ([]++(List.drop 0 (iD v.fst)).set x.toNat (D.v (.int .i64 a_4))) (64:TypeId)∧AObj.vec (iD a_6.snd.fst) (65:TypeId)=AObj.vec ([]++(List.drop 0 (iD v.snd.fst)).set x.toNat (D.v (.int .i64 a_5))) (65:TypeId)∧zWn a_6 v w q c i) (cnd (a_3==3) (∃(a_4:List Int),AObj.vec (iD a_4) 66=AObj.vec (iD v.snd.snd) (66:TypeId)∧∃(a_5:List Int→Prop),((qV u q)∧∃(a_6:Int),zF (List.map yM q.snd) (↑u.fst:Int).toNat ((0:Nat)+(3:Nat)) 1=some [D.v (.int .i64 a_6)]∧cnd (a_6==1) ((qV u q)∧∃(a_7:Int),zF (List.map yM q.snd) (↑u.fst:Int).toNat ((0:Nat)+(2:Nat)) 1=some [D.v (.int .i64 a_7)]∧(qV u q)∧∃(a_8:Int),zF (List.map yM q.snd) (↑u.fst:Int).toNat ((0:Nat)+(2:Nat)) 1=some [D.v (.int .i64 a_8)]∧(0≤a_8∧a_8<(↑(32:Nat):Int))∧∃(a_9:Int),(vG a_4)[a_8.toNat]?=some (D.v (.int .i64 a_9))∧(qV u q)∧∃(a_10:Int),zF (List.map yM q.snd) (↑u.fst:Int).toNat ((0:Nat)+(5:Nat)) 1=some [D.v (.int .i64 a_10)]∧(0≤a_7∧a_7<(↑(32:Nat):Int))∧a_7.toNat<(vG a_4).length∧∃(a_11:List Int),AObj.vec (iD a_11) 66=AObj.vec ([]++(vG a_4).set a_7.toNat (D.v (.int .i64 (IntKind.i64.wrap (a_9+a_10))))) 66∧zUi a_5 a_11 v q c i) ((qV u q)∧∃(a_7:Int),zF (List.map yM q.snd) (↑u.fst:Int).toNat ((0:Nat)+(2:Nat)) 1=some [D.v (.int .i64 a_7)]∧(qV u q)∧∃(a_8:Int),zF (List.map yM q.snd) (↑u.fst:Int).toNat ((0:Nat)+(2:Nat)) 1=some [D.v (.int .i64 a_8)]∧(0≤a_8∧a_8<(↑(32:Nat):Int))∧∃(a_9:Int),(vG a_4)[a_8.toNat]?=some (D.v (.int .i64 a_9))∧(qV u q)∧∃(a_10:Int),zF (List.map yM q.snd) (↑u.fst:Int).toNat ((0:Nat)+(5:Nat)) 1=some [D.v (.int .i64 a_10)]∧(0≤a_7∧a_7<(↑(32:Nat):Int))∧a_7.toNat<(vG a_4).length∧∃(a_11:List Int),AObj.vec (iD a_11) 66=AObj.vec (zDy a_4 a_7 a_9 a_10) 66∧zUi a_5 a_11 v q c i))∧∀(a_6:List Int),a_5 a_6→∃(a_7:List Int),AObj.vec (iD a_7) 64=AObj.vec (iD v.fst) (64:TypeId)∧∃(a_8:List Int→Prop),(∃(a_9:Bool),∃(a_10:Bool→Prop),((qV u q)∧∃(a_11:Int),zF (List.map yM q.snd) (↑u.fst:Int).toNat ((0:Nat)+(2:Nat)) 1=some [D.v (.int .i64 a_11)]∧(0≤x∧x<(↑(80:Nat):Int))∧∃(a_12:Int),(List.drop 0 (iD v.snd.fst))[x.toNat]?=some (D.v (.int .i64 a_12))∧∃(a_13:Bool),a_13=(a_11==a_12)∧zVn a_10 a_13 a_7 a_6 v q c i)∧∀(a_11:Bool),a_10 a_11→cnd a_11 ((0≤x∧x<(↑(80:Nat):Int))∧∃(a_12:Int),(vG a_7)[x.toNat]?=some (D.v (.int .i64 a_12))∧(qV u q)∧∃(a_13:Int),zF (List.map yM q.snd) (↑u.fst:Int).toNat ((0:Nat)+(5:Nat)) 1=some [D.v (.int .i64 a_13)]∧(0≤x∧x<(↑(80:Nat):Int))∧x.toNat<(vG a_7).length∧∃(a_14:List Int),AObj.vec (iD a_14) 64=AObj.vec (zDy a_7 x a_12 a_13) 64∧zWb a_8 a_14 a_6 v q c i) (∃(a_12:List Int),AObj.vec (iD a_12) 64=AObj.vec (iD a_7) 64∧zWb a_8 a_12 a_6 v q c i))∧∀(a_9:List Int),a_8 a_9→∃(a_10:Bool),∃(a_11:Bool→Prop),((qV u q)∧∃(a_12:Int),zF (List.map yM q.snd) (↑u.fst:Int).toNat ((0:Nat)+(6:Nat)) 1=some [D.v (.int .i64 a_12)]∧(0≤x∧x<(↑(80:Nat):Int))∧∃(a_13:Int),(vG a_9)[x.toNat]?=some (D.v (.int .i64 a_13))∧∃(a_14:Bool),a_14=(a_12 !=a_13)∧zVn a_11 a_14 a_9 a_6 v q c i)∧∀(a_12:Bool),a_11 a_12→cnd a_12 (∃(a_13:Unit),true=false∧True) (∃(a_13:List Int×List Int×List Int),AObj.vec (iD a_13.fst) (64:TypeId)=AObj.vec (iD a_9) 64∧AObj.vec (iD a_13.snd.fst) (65:TypeId)=AObj.vec (iD v.snd.fst) (65:TypeId)∧AObj.vec (iD a_13.snd.snd) (66:TypeId)=AObj.vec (iD a_6) 66∧zXg w a_13 q c i)) (∃(a_4:List Int),AObj.vec (iD a_4) 64=AObj.vec (iD v.fst) (64:TypeId)∧∃(a_5:List Int→Prop),((0≤x∧x<(↑(80:Nat):Int))∧∃(a_6:Int),(vG a_4)[x.toNat]?=some (D.v (.int .i64 a_6))∧(qV u q)∧∃(a_7:Int),zF (List.map yM q.snd) (↑u.fst:Int).toNat ((0:Nat)+(5:Nat)) 1=some [D.v (.int .i64 a_7)]∧(0≤x∧x<(↑(80:Nat):Int))∧x.toNat<(vG a_4).length∧∃(a_8:List Int),AObj.vec (iD a_8) 64=AObj.vec (zDy a_4 x a_6 a_7) 64∧a_5 a_8∧zNz v q c i)∧∀(a_6:List Int),a_5 a_6→∃(a_7:Bool),∃(a_8:Bool→Prop),((qV u q)∧∃(a_9:Int),zF (List.map yM q.snd) (↑u.fst:Int).toNat ((0:Nat)+(6:Nat)) 1=some [D.v (.int .i64 a_9)]∧(0≤x∧x<(↑(80:Nat):Int))∧∃(a_10:Int),(vG a_6)[x.toNat]?=some (D.v (.int .i64 a_10))∧∃(a_11:Bool),a_11=(a_9 !=a_10)∧a_8 a_11∧AObj.vec (iD a_6) 64=AObj.vec (iD a_6) 64∧zNz v q c i)∧∀(a_9:Bool),a_8 a_9→cnd a_9 (∃(a_10:Unit),true=false∧True) (∃(a_10:List Int×List Int×List Int),AObj.vec (iD a_10.fst) (64:TypeId)=AObj.vec (iD a_6) 64∧zVz a_10 v w q c i))))))∧∀(x:List Int×List Int×List Int),w x→∃(y:Nat×List Int×List Int×List Int),(↑y.fst:Int)=IntKind.i64.wrap ((↑u.fst:Int)+1)∧AObj.vec (iD y.snd.fst) (64:TypeId)=AObj.vec (iD x.fst) (64:TypeId)∧AObj.vec (iD y.snd.snd.fst) (65:TypeId)=AObj.vec (iD x.snd.fst) (65:TypeId)∧AObj.vec (iD y.snd.snd.snd) (66:TypeId)=AObj.vec (iD x.snd.snd) (66:TypeId)∧s y∧t y<t u∧zCm q c i) (∃(v:Nat),(↑v:Int)=0∧∃(w:Nat→Prop),∃(x:Nat→Nat),w v∧∀(y:Nat),w y→cnd (decide ((↑y:Int)<(xC c))) ((0≤(↑y:Int)∧(↑y:Int)<(↑(32:Nat):Int))∧∃(z:Int),(List.drop 0 (iD u.snd.snd.snd))[(↑y:Int).toNat]?=some (D.v (.int .i64 z))∧cnd (z !=0) (∃(a_1:Unit),true=false∧True) (∃(a_1:Nat),(↑a_1:Int)=IntKind.i64.wrap ((↑y:Int)+1)∧w a_1∧x a_1<x y∧AObj.vec (iD u.snd.fst) (64:TypeId)=AObj.vec (iD u.snd.fst) (64:TypeId)∧AObj.vec (iD u.snd.snd.fst) (65:TypeId)=AObj.vec (iD u.snd.snd.fst) (65:TypeId)∧AObj.vec (iD u.snd.snd.snd) (66:TypeId)=AObj.vec (iD u.snd.snd.snd) (66:TypeId)∧zCm q c i)) (∃(z:Nat×Mkt×List Int×List Int×List Int),(↑z.fst:Int)=IntKind.i64.wrap ((↑j.fst:Int)+1)∧AObj.adt Mkt 5 yI z.snd.fst=AObj.adt Mkt 5 yI q.fst∧AObj.vec (iD z.snd.snd.fst) (64:TypeId)=AObj.vec (iD u.snd.fst) (64:TypeId)∧AObj.vec (iD z.snd.snd.snd.fst) (65:TypeId)=AObj.vec (iD u.snd.snd.fst) (65:TypeId)∧AObj.vec (iD z.snd.snd.snd.snd) (66:TypeId)=AObj.vec (iD u.snd.snd.snd) (66:TypeId)∧g z∧h z<h j∧zOa c i))) (∃(n:Nat),(↑n:Int)=1∧∃(p:Nat→Prop),∃(q:Nat→Nat),p n∧∀(r:Nat),p r→cnd (decide ((↑r:Int)<80)) (∃(s:MfI),s.id=(↑r:Int)∧AObj.adt Mkt 5 yI s.m=AObj.adt Mkt 5 yI j.snd.fst∧(s.m.Rep s.p s.B s.U∧BOk s.p s.B)∧∀(t:Unit),True→∃(u:Bool),∃(v:Bool→Prop),((0≤(↑r:Int)∧(↑r:Int)<(↑(80:Nat):Int))∧∃(w:Int),(List.drop 0 (iD j.snd.snd.fst))[(↑r:Int).toNat]?=some (D.v (.int .i64 w))∧cnd (!(zJ s.B s.id).snd.snd==decide (w>0)) (∃(x:Bool),x=true∧zMu v x s j c i) (cnd (zJ s.B s.id).snd.snd ((0≤(↑r:Int)∧(↑r:Int)<(↑(80:Nat):Int))∧∃(x:Int),(List.drop 0 (iD j.snd.snd.fst))[(↑r:Int).toNat]?=some (D.v (.int .i64 x))∧∃(y:Bool),y=((zJ s.B s.id).snd.fst.qty !=x)∧zMu v y s j c i) (∃(x:Bool),x=false∧zMu v x s j c i)))∧∀(w:Bool),v w→cnd w (∃(x:Unit),true=false∧True) (∃(x:Nat),(↑x:Int)=IntKind.i64.wrap ((↑r:Int)+1)∧p x∧q x<q r∧AObj.adt Mkt 5 yI s.m=AObj.adt Mkt 5 yI j.snd.fst∧zIo j c i)) (∃(s:Unit),True∧∀(t:Unit),True→∃(u:Unit),true=true∧True)))∧∀(e:Unit),d.check≠0→∃(f:Unit),true=false∧True
theorem eqkp (i:AbI):Vkp i=walk Tryz.prog ([(20,kprodC),(10,newMC),(21,tameC),(13,doC),(26,mfindC),(15,known17C)]) 0 (kpJ) (kpA) [] Tryz.f5 (Tryz.f5.body.getD .skip) (kpC.pat i) (kpC.pre i) (kpC.alts i):=by kernel_rfl
open Go Cv Go.Proofs
structure yRe where
 s:MSt
 p:Prd
 B:List (List zD)
 inst:Int
 side:Int
 price:Int
 q:Int
structure HdI where
 s:List UInt8
 n:Int
open Go Cv Go.Proofs
set_option linter.unusedSimpArgs false
open Go Cv Go.Proofs
theorem yDm {p:Prd} {B:List (List zD)} (h:BWf p B) (U:List Int) (c:Cmd):(doF p B U c).R.length≤1503000003:=by
 have hbl:=h.ok.bl
 have hrj:∀w,(f0 c w).length≤1503000003:=fun w=>by simp[f0]
 rw[doF]
 split
 ·exact hrj _
 rename_i hr
 have hr:c.right=0:=by simpa using hr
 split
 ·rename_i hk
  obtain⟨_,hq,_⟩:=zAy hr hk
  rw[dQ]
  split
  ·exact hrj _
  rename_i hp
  have hp:p.price c.inst c.price=0:=by simpa using hp
  have hin:=zHf hp
  split
  ·exact hrj _
  split
  ·exact hrj _
  split
  ·exact hrj _
  split
  ·exact hrj _
  have:=sX h U (c:=c) (by omega) hq
  omega
 rename_i hk
 split
 ·exact hrj _
 rename_i hf
 have hf:(zJ B c.id).2.2=true:=by simpa using hf
 have hf:zJ B c.id=((zJ B c.id).1,(zJ B c.id).2.1,true):=by rw[← hf]
 obtain⟨hin,_⟩:=zPm h hf
 split
 ·rename_i h4
  have hq:=bV hr hk (by omega)
  rw[uG]
  split
  ·exact hrj _
  split
  ·simp[uK]
  split
  ·exact hrj _
  have:=sX (h.take c.id (zJ B c.id).2.1.qty) U (c:=⟨1,c.id,(zJ B c.id).1,(zJ B c.id).2.1.side,c.price,c.qty,0,1,[]⟩) (by dsimp only;rw[bY];exact hin) hq
  dsimp only
  rw[List.length_append]
  have e1:(jJ B U c.id (zJ B c.id).1 (zJ B c.id).2.1).R.length=1:=rfl
  have e2:(jJ B U c.id (zJ B c.id).1 (zJ B c.id).2.1).B=(yT B c.id (zJ B c.id).2.1.qty).1:=rfl
  rw[e1,e2]
  omega
 split
 ·simp[jJ]
 ·simp[uK]
open Go Cv Go.Proofs
theorem yEo (a:Int):∃c,IntKind.i64.wrap a=a+c*18446744073709551616:=by
 by_cases h:a % 18446744073709551616≥9223372036854775808
 ·refine⟨-(a / 18446744073709551616)-1,?_⟩
  have:IntKind.i64.wrap a=a % 18446744073709551616-18446744073709551616:=by
   simp only[IntKind.wrap,IntKind.bits,IntKind.signed]
   exact if_pos (by simpa using h)
  omega
 ·refine⟨-(a / 18446744073709551616),?_⟩
  have:IntKind.i64.wrap a=a % 18446744073709551616:=by
   simp only[IntKind.wrap,IntKind.bits,IntKind.signed]
   exact if_neg (by simpa using h)
  omega
theorem z7y (a c:Int):IntKind.i64.wrap (a+c*18446744073709551616)=IntKind.i64.wrap a:=by
 have e:(a+c*18446744073709551616) % 2 ^ IntKind.i64.bits=a % 2 ^ IntKind.i64.bits:=Int.add_mul_emod_self_right a c _
 simp only[IntKind.wrap,e]
theorem z1w (a b:Int):IntKind.i64.wrap (IntKind.i64.wrap a+b)=IntKind.i64.wrap (a+b):=by
 obtain⟨c,h⟩:=yEo a
 rw[h,show a+c*18446744073709551616+b=a+b+c*18446744073709551616 by omega,z7y]
def tab (n:Nat) (f:Int→Int):List Int:=(List.range n).map fun(k:Nat)=>f k
theorem zOe {n k:Nat} (f:Int→Int) (h:k<n):(iD (tab n f))[k]? =some (D.v (.int .i64 (f k))):=by
 rw[iD,tab,List.getElem?_map,List.getElem?_map,List.getElem?_range h];rfl
theorem e8 (n:Nat) (f:Int→Int):(iD (tab n f)).length=n:=by rw[iD,tab,List.length_map,List.length_map,List.length_range]
theorem yDg {n k:Nat} (f:Int→Int) (v:Int):(iD (tab n f)).set k (D.v (.int .i64 v))=iD (tab n (upd f k v)):=by
 apply List.ext_getElem?
 intro j
 rcases Nat.lt_or_ge j n with hj|hj
 ·rw[zOe _ hj,List.getElem?_set,zOe _ hj,e8]
  dsimp only[upd]
  by_cases e:k=j
  ·subst e;rw[if_pos rfl,if_pos hj,if_pos rfl]
  ·rw[if_neg e,if_neg (by omega)]
 ·rw[List.getElem?_eq_none (by rw[List.length_set,e8];exact hj),List.getElem?_eq_none (by rw[e8];exact hj)]
theorem zYi {n:Nat} {f g:Int→Int} (h:∀k:Nat,k<n→f k=g k):tab n f=tab n g:=List.map_congr_left fun k hk=>h k (List.mem_range.1 hk)
theorem gH {n:Nat} {k:Int} (f:Int→Int) (h:0≤k∧k<n):(List.drop 0 (iD (tab n f)))[k.toNat]? =some (D.v (.int .i64 (f k))):=by
 obtain⟨m,rfl⟩:∃m:Nat,k=m:=⟨k.toNat,by omega⟩
 exact zOe f (by omega)
theorem bQ {n:Nat} {k:Int} (f:Int→Int) (v:Int) (h:0≤k):[]++(List.drop 0 (iD (tab n f))).set k.toNat (D.v (.int .i64 v))=iD (tab n (upd f k v)):=by
 obtain⟨m,rfl⟩:∃m:Nat,k=m:=⟨k.toNat,by omega⟩
 exact yDg f v
theorem yCv (t:TmI) (h0:0≤t.i∧t.i≤59):1≤(qN t).id∧(qN t).id≤60:=by
 have:=xK (n:=t.c.id) (lo:=0) (hi:=30) (by decide)
 rw[qN]
 split
 ·dsimp only;omega
 ·dsimp only[xG];omega
theorem yIo {p:Prd} {B:List (List zD)} (h:BWf p B) (id:Int):(zJ B id).2.2=decide (qB B id>0)∧((zJ B id).2.2=true→(zJ B id).2.1.qty=qB B id):=by
 cases c:(zJ B id).2.2 with
 |true=>
  obtain⟨k,L,f1,hL,ho,hid⟩:=zSu c
  have h1:=zCn h hL ho
  have h2:=((h.od k L hL).1 _ ho).q
  rw[hid]at h1
  exact⟨(decide_eq_true (by omega)).symm,fun _=>h1.symm⟩
 |false=>
  have hn:h8 B id=none:=by
   rw[zJ]at c
   split at c
   ·assumption
   ·cases c
  have:qB B id=0:=zDm fun L hL o ho e=>by
   have:=tU hn L hL
   rw[hasId_iff.2 (List.mem_map.2 ⟨o,ho,e⟩)]at this
   cases this
  exact⟨(decide_eq_false (by omega)).symm,fun e=>by cases e⟩
structure KpS (p:Prd) (m:Mkt) (B:List (List zD)) (U:List Int) (S:Stm) (N:Int→Int):Prop where
 r:m.Rep p B U
 b:BOk p B
 a:Acc B U
 n:kJ B≤250
 f:Fits (fun id=>1≤id∧id≤79) S B
 z:∀n:Nat,n<p.months.length→N n=0
theorem vkp (i:AbI) (h:kpC.cnd i):Vkp i:=by
 obtain⟨hraw,hcraw,hlen⟩:i.raw:=h
 have hc:=zQk i.x
 have hs:=zPo i.x
 have hml:(List.map cmdE i.l).length=i.l.length:=List.length_map _
 unfold Vkp zWb zUi zVz zWn zXg zXe zVn zYb zWl zPc zUg zNz zCm qV zDy vG zMu zIo zOa zVc gM xC xZ
 rw[hml]
 refine⟨xU i.x,fun y=>y=xU i.x,⟨i.x,rfl,rfl,rfl,rfl,rfl,rfl,rfl,rfl,rfl,rfl,rfl,hraw,fun _ _=>⟨xU i.x,rfl,rfl,rfl,rfl,rfl,rfl,rfl,rfl,rfl,rfl,rfl,rfl,by(repeat'(first|exact trivial|exact rfl|apply And.intro))⟩⟩,?_⟩
 rintro _ rfl
 refine⟨xU i.x,rfl,rfl,rfl,rfl,rfl,rfl,rfl,rfl,rfl,rfl,rfl,hs,fun _ _=> ?_,fun _ hne=>absurd hc hne⟩
 have hcb:=z2f hc
 have hml6:=(kA hc).m6
 have ecl:∀n,(Sx.V.agg (List.replicate n (V.d (D.v (.int .i64 0))))).cl=List.map V.d (iD (tab n fun _=>0)):=fun n=>by
  rw[iD,tab]
  show List.replicate n _=_
  rw[eq_comm,List.map_map,List.map_map,List.eq_replicate_iff]
  simp
 refine⟨(0,mk0 (xU i.x),tab 80 fun _=>0,tab 80 fun _=>0,tab 32 fun _=>0),rfl,rfl,(ecl 80).symm,(ecl 80).symm,(ecl 32).symm,fun y=>(y.1≤60∧y.1≤i.l.length)∧∃B U S N,KpS (xU i.x) y.2.1 B U S N∧y.2.2=(tab 80 S.left,tab 80 S.own,tab 32 fun m=>IntKind.i64.wrap (N m)),fun y=>60-y.1,⟨⟨Nat.zero_le _,Nat.zero_le _⟩,_,_,⟨fun _=>0,fun _=>0⟩,fun _=>0,⟨z0j _,BOk.new hc hs,?_,?_,⟨fun x=> ?_,?_,?_⟩,fun _ _=>rfl⟩,rfl⟩,?_⟩
 ·intro L hL o ho
  rw[List.eq_of_mem_replicate hL]at ho
  cases ho
 ·rw[kJ,List.map_replicate];simp
 ·exact(zDm fun L hL o ho=>by rw[List.eq_of_mem_replicate hL]at ho;cases ho).symm
 ·intro k L hL o ho
  rw[List.eq_of_mem_replicate (List.mem_of_getElem? hL)]at ho
  cases ho
 ·intro L hL o ho
  rw[List.eq_of_mem_replicate hL]at ho
  cases ho
 rintro⟨j,m,T⟩ ⟨⟨hj60,hjl⟩,B,U,S,N,hK,hT⟩
 dsimp only at hj60 hjl hK hT ⊢
 subst hT
 refine⟨true,fun b=>b=decide (j<i.l.length∧j<60),zL (fun c=>⟨_,rfl,?_,by(repeat'(first|exact trivial|exact rfl|apply And.intro))⟩) (fun c=>⟨_,rfl,?_,by(repeat'(first|exact trivial|exact rfl|apply And.intro))⟩),fun b hb=> ?_⟩
 ·show decide ((j:Int)<60)=decide (j<i.l.length∧j<60)
  rw[Bool.eq_iff_iff,decide_eq_true_eq,decide_eq_true_eq];omega
 ·exact(decide_eq_false (by omega)).symm
 subst hb
 have hM:=hK.r
 have hB:=hK.b
 have hwf:BWf (xU i.x) B:=by have:=hM.s;exact this.wf hB
 refine zL (fun hb=> ?_) (fun _=> ?_)
 ·obtain⟨hb1,hb2⟩:=hb
  obtain⟨c,hcj⟩:=z9 (l:=i.l) (i:=j) hb1
  have hcr:=hcraw c (List.mem_of_getElem? hcj)
  obtain⟨C,hC⟩:∃C:Cmd,C=qN ⟨xU i.x,c,j⟩:=⟨_,rfl⟩
  have hlb:C.label.length≤140737488355328:=by
   have:C.label=[]:=by rw[hC];exact zTs _
   rw[this];decide
  have hqt:1≤C.qty∧C.qty≤12:=by rw[hC];exact z8a _
  have hid:1≤C.id∧C.id≤60:=by rw[hC];exact yCv _ (by dsimp only;omega)
  have hst:=yNf hwf hK.a (c:=C) (D:=fun id=>1≤id∧id≤79) (by omega) hK.n hK.f
  have hacc:=(yBx (p:=xU i.x) hK.a C).acc
  have hXl:=yDm hwf U C
  obtain⟨X,hX⟩:∃X,X=doF (xU i.x) B U C:=⟨_,rfl⟩
  rw[← hX]at hst hacc hXl
  have hB':BOk (xU i.x) X.B:=by rw[hX];exact mdo hM hB C
  refine⟨(m,[]),rfl,fun y=>y.1.Rep (xU i.x) X.B X.U∧y.2=X.R,⟨⟨by omega,by omega⟩,c.kind,c.id,c.inst,c.side,c.price,c.qty,c.least,c.time,sb c.label,yQt hcj,⟨xU i.x,c,j⟩,rfl,rfl,rfl,rfl,rfl,rfl,rfl,rfl,rfl,rfl,rfl,rfl,rfl,rfl,rfl,rfl,rfl,rfl,rfl,rfl,rfl,⟨hc,hs,hcr,by dsimp only;omega,by dsimp only;omega⟩,fun _ _=>⟨⟨m,xU i.x,B,U,C,X⟩,by rw[hC],by rw[hC],by rw[hC],by rw[hC],by rw[hC],by rw[hC],by rw[hC],by rw[hC],by rw[hC],rfl,⟨⟨hM,hB⟩,hlb,⟨by dsimp only;omega,by dsimp only;omega⟩,hX⟩,fun o ho=>⟨(o,X.R),rfl,rfl,⟨ho,rfl⟩,by(repeat'(first|exact trivial|exact rfl|apply And.intro))⟩⟩⟩,?_⟩
  rintro⟨o,R⟩ ⟨ho,hR⟩
  dsimp only at ho hR ⊢
  subst hR
  have hRl:(List.map yM X.R).length=X.R.length:=List.length_map _
  rw[hRl]
  have hg:∀(k:Nat) (r:Rep),X.R[k]? =some r→(r.kind=2∧X.R.length=1)∨StG (xU i.x) (fun id=>1≤id∧id≤79) (qR S (X.R.take k)) r:=fun k r hr=>by
   rcases hst with⟨w,e⟩|⟨_,hall,_⟩
   ·rw[e]at hr ⊢
    cases k with
    |zero=>cases hr;exact .inl ⟨rfl,rfl⟩
    |succ k=>cases hr
   ·exact .inr (zKk hall hr)
  have hend:KpS (xU i.x) o X.B X.U (qR S X.R) fun n=>N n+kF X.R n:=by
   rcases hst with⟨w,e⟩|⟨h1,_,h3,h4⟩
   ·rw[e]at ho hB' hacc ⊢
    have e2:qR S (f0 C w)=S:=by rw[f0,rQ];exact zYj rfl
    dsimp only
    rw[e2]
    exact⟨ho,hB',hacc,hK.n,hK.f,fun n hn=>by rw[hK.z n hn];rfl⟩
   ·exact⟨ho,hB',hacc,h1,h3,fun n hn=>by rw[hK.z n hn,h4 n (Nat.zero_le _) hn];rfl⟩
  refine⟨(0,tab 80 S.left,tab 80 S.own,tab 32 fun m=>IntKind.i64.wrap (N m)),rfl,rfl,rfl,rfl,fun y=>y.1≤X.R.length∧y.2=(tab 80 (qR S (X.R.take y.1)).left,tab 80 (qR S (X.R.take y.1)).own,tab 32 fun m=>IntKind.i64.wrap (N m+kF (X.R.take y.1) m)),fun y=>X.R.length-y.1,⟨Nat.zero_le _,?_⟩,?_⟩
  ·dsimp only
   rw[List.take_zero]
   have e:(fun m=>IntKind.i64.wrap (N m+kF [] m))=fun m=>IntKind.i64.wrap (N m):=funext fun m=>by rw[kF,Int.add_zero]
   rw[e];rfl
  rintro⟨k,Y⟩ ⟨hk,hY⟩
  dsimp only at hk hY ⊢
  subst hY
  refine zL (fun e=> ?_) (fun e=> ?_)
  ·obtain⟨r,hr⟩:=z9 (l:=X.R) (i:=k) (by omega)
   have htk:X.R.take (k+1)=X.R.take k++[r]:=by rw[List.take_add_one,hr];rfl
   have g0:zF (List.map yM X.R) k (0+0) 1=some [D.v (.int .i64 r.kind)]:=elA hr (by simp[yM]) rfl
   have g1:zF (List.map yM X.R) k (0+1) 1=some [D.v (.int .i64 r.id)]:=elA hr (by simp[yM]) rfl
   have g2:zF (List.map yM X.R) k (0+2) 1=some [D.v (.int .i64 r.inst)]:=elA hr (by simp[yM]) rfl
   have g3:zF (List.map yM X.R) k (0+3) 1=some [D.v (.int .i64 r.side)]:=elA hr (by simp[yM]) rfl
   have g5:zF (List.map yM X.R) k (0+5) 1=some [D.v (.int .i64 r.qty)]:=elA hr (by simp[yM]) rfl
   have g6:zF (List.map yM X.R) k (0+6) 1=some [D.v (.int .i64 r.left)]:=elA hr (by simp[yM]) rfl
   have hrg:=hg k r hr
   have hrk:(0:Int)≤k∧(k:Int)<X.R.length:=by omega
   have hnx:(tab 80 (qR S (X.R.take (k+1))).left,tab 80 (qR S (X.R.take (k+1))).own,tab 32 fun m=>IntKind.i64.wrap (N m+kF (X.R.take (k+1)) m))=(tab 80 (stN (qR S (X.R.take k)) r).left,tab 80 (stN (qR S (X.R.take k)) r).own,tab 32 fun m=>IntKind.i64.wrap (N m+kF (X.R.take k) m+one r m)):=by
    rw[htk,gV]
    have e:(fun m=>IntKind.i64.wrap (N m+kF (List.take k X.R++[r]) m))=fun m=>IntKind.i64.wrap (N m+kF (List.take k X.R) m+one r m):=funext fun m=>by
     rw[fX,kF,kF];congr 1;omega
    rw[e];rfl
   generalize qR S (X.R.take k)=T at hrg hnx ⊢
   obtain⟨M,hM'⟩:∃M:Int→Int,M=fun m=>N m+kF (X.R.take k) m:=⟨_,rfl⟩
   have eM:(tab 32 fun m=>IntKind.i64.wrap (N m+kF (X.R.take k) m))=tab 32 fun m=>IntKind.i64.wrap (M m):=by rw[hM']
   have eM2:(tab 32 fun m=>IntKind.i64.wrap (N m+kF (X.R.take k) m+one r m))=tab 32 fun m=>IntKind.i64.wrap (M m+one r m):=by rw[hM']
   rw[eM]
   rw[eM2]at hnx
   clear hM' eM eM2
   have hone:r.kind≠3→(tab 32 fun m=>IntKind.i64.wrap (M m))=tab 32 fun m=>IntKind.i64.wrap (M m+one r m):=fun e=>zYi fun m _=>by
    rw[one,if_neg fun h=>e h.1,Int.add_zero]
   refine⟨(tab 80 T.left,tab 80 T.own,tab 32 fun m=>IntKind.i64.wrap (M m)),rfl,rfl,rfl,fun y=>y=(tab 80 (stN T r).left,tab 80 (stN T r).own,tab 32 fun m=>IntKind.i64.wrap (M m+one r m)),⟨hrk,r.id,g1,hrk,r.kind,g0,Cv.cnd.mk (fun e=> ?_) (fun e=> ?_)⟩,?_⟩
   ·have e:r.kind=2:=by simpa using e
    have h1:X.R.length=1:=by
     rcases hrg with h|G
     ·exact h.2
     ·rcases G.k with h|h|h|h<;>omega
    refine Cv.cnd.mk (fun e2=> ?_) (fun _=>⟨_,rfl,rfl,rfl,?_,by(repeat'(first|exact trivial|exact rfl|apply And.intro))⟩)
    ·rw[h1]at e2;simp at e2
    ·rw[zYj e,hone (by omega)]
   have e:r.kind≠2:=by simpa using e
   have G:StG (xU i.x) (fun id=>1≤id∧id≤79) T r:=hrg.resolve_left fun h=>e h.1
   have gd:1≤r.id∧r.id≤79:=G.d
   have gi:=G.i
   have gq:=G.q
   have gl:=G.l
   have r80:0≤r.id∧r.id<((80:Nat):Int):=by omega
   have r32:0≤r.inst∧r.inst<((32:Nat):Int):=by omega
   have l80:∀f,r.id.toNat<(List.drop 0 (iD (tab 80 f))).length:=fun f=>by
    have:=e8 80 f
    show r.id.toNat<(iD (tab 80 f)).length
    omega
   have l32:∀f,r.inst.toNat<(List.drop 0 (iD (tab 32 f))).length:=fun f=>by
    have:=e8 32 f
    show r.inst.toNat<(iD (tab 32 f)).length
    omega
   refine⟨true,fun b=>b=false,zL (fun c=>by omega) (fun _=>zL (fun c=>by omega) (fun _=>⟨hrk,r.inst,g2,zL (fun c=>by omega) (fun _=>⟨hrk,r.inst,g2,_,rfl,decide_eq_false (by omega),by(repeat'(first|exact trivial|exact rfl|apply And.intro))⟩)⟩)),?_⟩
   rintro _ rfl
   refine Cv.cnd.mk (fun e=>absurd e (by decide)) (fun _=>⟨hrk,r.kind,g0,Cv.cnd.mk (fun k1=> ?_) (fun k1=>Cv.cnd.mk (fun k3=> ?_) (fun k3=> ?_))⟩)
   ·have k1:r.kind=1:=by simpa using k1
    refine⟨hrk,r.qty,g5,r80,l80 _,hrk,r.inst,g2,r80,l80 _,⟨(tab 80 (upd T.left r.id r.qty),tab 80 (upd T.own r.id r.inst),tab 32 fun m=>IntKind.i64.wrap (M m)),congrArg (fun l=>AObj.vec l 64) (bQ _ _ r80.1).symm,congrArg (fun l=>AObj.vec l 65) (bQ _ _ r80.1).symm,rfl,?_,by(repeat'(first|exact trivial|exact rfl|apply And.intro))⟩⟩
    rw[stN,if_pos k1,hone (by omega)]
   ·have k3:r.kind=3:=by simpa using k3
    obtain⟨q1,s12,G3⟩:1≤r.qty∧(r.side=1∨r.side=2)∧((r.inst=T.own r.id∧r.qty≤T.left r.id∧r.left=T.left r.id-r.qty)∨(r.inst≠T.own r.id∧((xU i.x).legs (T.own r.id)).2.2=true∧(r.inst=((xU i.x).legs (T.own r.id)).1∨r.inst=((xU i.x).legs (T.own r.id)).2.1)∧r.left=T.left r.id)):=by
     rcases G.k with h|h|h|h
     ·omega
     ·exact h.2
     ·omega
     ·omega
    have hput:∀x:Int,x=one r r.inst→tab 32 (upd (fun m=>IntKind.i64.wrap (M m)) r.inst (IntKind.i64.wrap (IntKind.i64.wrap (M r.inst)+x)))=tab 32 fun m=>IntKind.i64.wrap (M m+one r m):=fun x hx=>zYi fun m _=>by
     dsimp only[upd]
     by_cases c:(m:Int)=r.inst
     ·rw[if_pos c,z1w,hx,c]
     ·rw[if_neg c,one,if_neg fun h=>c h.2.symm,Int.add_zero]
    refine⟨tab 32 fun m=>IntKind.i64.wrap (M m),rfl,fun y=>y=tab 32 fun m=>IntKind.i64.wrap (M m+one r m),⟨hrk,r.side,g3,Cv.cnd.mk (fun s1=>⟨hrk,r.inst,g2,hrk,r.inst,g2,r32,_,gH (fun m=>IntKind.i64.wrap (M m)) r32,hrk,r.qty,g5,r32,l32 _,_,congrArg (fun l=>AObj.vec l 66) (bQ _ _ r32.1).symm,?_,by(repeat'(first|exact trivial|exact rfl|apply And.intro))⟩) (fun s1=>⟨hrk,r.inst,g2,hrk,r.inst,g2,r32,_,gH (fun m=>IntKind.i64.wrap (M m)) r32,hrk,r.qty,g5,r32,l32 _,_,congrArg (fun l=>AObj.vec l 66) (bQ _ _ r32.1).symm,?_,by(repeat'(first|exact trivial|exact rfl|apply And.intro))⟩)⟩,?_⟩
    ·have s1:r.side=1:=by simpa using s1
     exact hput r.qty (by rw[one,if_pos ⟨k3,rfl⟩,if_pos s1])
    ·have s1:¬r.side=1:=by simpa using s1
     exact hput (-r.qty) (by rw[one,if_pos ⟨k3,rfl⟩,if_neg s1])
    rintro _ rfl
    have eO:(stN T r).own=T.own:=by
     by_cases c:r.inst=T.own r.id
     ·rw[nM (by omega) e fun _=>c]
     ·rw[eZ k3 c]
    have eL:(stN T r).left r.id=r.left:=by
     by_cases c:r.inst=T.own r.id
     ·rw[nM (by omega) e fun _=>c];exact if_pos rfl
     ·rw[eZ k3 c];omega
    refine⟨tab 80 T.left,rfl,fun y=>y=tab 80 (stN T r).left,⟨true,fun b=>b=decide (r.inst=T.own r.id),⟨hrk,r.inst,g2,r80,_,gH T.own r80,_,rfl,?_,by(repeat'(first|exact trivial|exact rfl|apply And.intro))⟩,?_⟩,?_⟩
    ·show(r.inst==T.own r.id)=decide (r.inst=T.own r.id)
     rw[Bool.eq_iff_iff,beq_iff_eq,decide_eq_true_eq]
    ·rintro _ rfl
     refine zL (fun c=>⟨r80,_,gH T.left r80,hrk,r.qty,g5,r80,l80 _,_,congrArg (fun l=>AObj.vec l 64) (bQ _ _ r80.1).symm,?_,by(repeat'(first|exact trivial|exact rfl|apply And.intro))⟩) (fun c=>⟨_,rfl,?_,by(repeat'(first|exact trivial|exact rfl|apply And.intro))⟩)
     ·rw[w64 (by omega),nM (by omega) e fun _=>c]
      have:T.left r.id-r.qty=r.left:=by omega
      rw[this]
     ·rw[eZ k3 c]
    rintro _ rfl
    refine⟨true,fun b=>b=false,⟨hrk,r.left,g6,r80,_,gH (stN T r).left r80,_,rfl,?_,by(repeat'(first|exact trivial|exact rfl|apply And.intro))⟩,?_⟩
    ·rw[eL];simp
    rintro _ rfl
    exact Cv.cnd.mk (fun e=>absurd e (by decide)) (fun _=>⟨(tab 80 (stN T r).left,tab 80 T.own,tab 32 fun m=>IntKind.i64.wrap (M m+one r m)),rfl,rfl,rfl,by rw[eO],by(repeat'(first|exact trivial|exact rfl|apply And.intro))⟩)
   ·have k1:r.kind≠1:=by simpa using k1
    have k3:r.kind≠3:=by simpa using k3
    have hl:r.left=T.left r.id-r.qty:=by
     rcases G.k with h|h|h|h<;>omega
    have hb:0≤r.left∧r.left≤T.left r.id∧T.left r.id≤r.left+1000000:=by omega
    have en:stN T r=⟨upd T.left r.id r.left,T.own⟩:=nM k1 e fun h=>absurd h k3
    refine⟨tab 80 T.left,rfl,fun y=>y=tab 80 (stN T r).left,⟨r80,_,gH T.left r80,hrk,r.qty,g5,r80,l80 _,_,congrArg (fun l=>AObj.vec l 64) (bQ _ _ r80.1).symm,?_,by(repeat'(first|exact trivial|exact rfl|apply And.intro))⟩,?_⟩
    ·rw[en]
     have:IntKind.i64.wrap (T.left r.id-r.qty)=r.left:=by rw[← hl];exact w64 (by omega)
     rw[this]
    rintro _ rfl
    refine⟨true,fun b=>b=false,⟨hrk,r.left,g6,r80,_,gH (stN T r).left r80,_,rfl,?_,by(repeat'(first|exact trivial|exact rfl|apply And.intro))⟩,?_⟩
    ·rw[en]
     have:upd T.left r.id r.left r.id=r.left:=if_pos rfl
     dsimp only
     rw[this];simp
    rintro _ rfl
    refine Cv.cnd.mk (fun e=>absurd e (by decide)) (fun _=>⟨(tab 80 (stN T r).left,tab 80 T.own,tab 32 fun m=>IntKind.i64.wrap (M m)),rfl,rfl,rfl,?_,by(repeat'(first|exact trivial|exact rfl|apply And.intro))⟩)
    rw[en,hone k3]
   ·rintro _ rfl
    exact⟨(k+1,tab 80 (stN T r).left,tab 80 (stN T r).own,tab 32 fun m=>IntKind.i64.wrap (M m+one r m)),by rw[w64 (by omega)];rfl,rfl,rfl,rfl,⟨by dsimp only;omega,hnx.symm⟩,by dsimp only;omega,by(repeat'(first|exact trivial|exact rfl|apply And.intro))⟩
  ·have hkl:k=X.R.length:=by omega
   subst hkl
   rw[List.take_length]
   have hiE:(iE (xU i.x).months).length=(xU i.x).months.length:=xH _
   rw[hiE]
   refine⟨0,rfl,fun n=>n≤(xU i.x).months.length,fun n=>(xU i.x).months.length-n,Nat.zero_le _,fun n hn=>zL (fun e=> ?_) (fun e=> ?_)⟩
   ·refine⟨⟨by omega,by omega⟩,_,gH (fun m=>IntKind.i64.wrap (N m+kF X.R m)) ⟨by omega,by omega⟩,Cv.cnd.mk (fun e2=> ?_) (fun _=>⟨n+1,by rw[w64 (by omega)];rfl,by omega,by dsimp only;omega,by(repeat'(first|exact trivial|exact rfl|apply And.intro))⟩)⟩
    have:=hend.z n (by omega)
    rw[this]at e2
    exact absurd e2 (by decide)
   ·exact⟨(j+1,o,tab 80 (qR S X.R).left,tab 80 (qR S X.R).own,tab 32 fun m=>IntKind.i64.wrap (N m+kF X.R m)),by rw[w64 (by omega)];rfl,rfl,rfl,rfl,rfl,⟨⟨by dsimp only;omega,by dsimp only;omega⟩,_,_,_,_,hend,rfl⟩,by dsimp only;omega,by(repeat'(first|exact trivial|exact rfl|apply And.intro))⟩
 ·refine⟨1,rfl,fun k=>1≤k∧k≤80,fun k=>80-k,⟨by decide,by decide⟩,fun k hk=>zL (fun e=> ?_) (fun _=>⟨(),trivial,fun _ _=>⟨(),rfl,trivial⟩⟩)⟩
  obtain⟨f1,f2⟩:=yIo hwf (k:Int)
  have hlf:=hK.f.lf (k:Int)
  have hgt:(List.drop 0 (iD (tab 80 S.left)))[((k:Nat):Int).toNat]? =_:=gH (n:=80) (k:=(k:Int)) S.left (by omega)
  refine⟨⟨m,xU i.x,B,U,k⟩,rfl,rfl,⟨hM,hB⟩,fun _ _=>⟨true,fun b=>b=false,⟨⟨by omega,by omega⟩,_,hgt,Cv.cnd.mk (fun e2=> ?_) (fun _=>Cv.cnd.mk (fun c=>⟨⟨by omega,by omega⟩,_,hgt,_,rfl,?_,by(repeat'(first|exact trivial|exact rfl|apply And.intro))⟩) (fun _=>⟨_,rfl,rfl,by(repeat'(first|exact trivial|exact rfl|apply And.intro))⟩))⟩,?_⟩⟩
  ·dsimp only at e2
   rw[f1,hlf]at e2
   simp at e2
  ·dsimp only at c ⊢
   rw[f2 c,hlf];simp
  rintro _ rfl
  exact Cv.cnd.mk (fun e=>absurd e (by decide)) (fun _=>⟨k+1,by rw[w64 (by omega)];rfl,by omega,by dsimp only;omega,by(repeat'(first|exact trivial|exact rfl|apply And.intro))⟩)
end Sx
