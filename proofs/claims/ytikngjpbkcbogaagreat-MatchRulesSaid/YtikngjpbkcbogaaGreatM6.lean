/- Texts of ours, one behind the other: a walk that the kernel reckons, and contracts of functions. No condition. -/
import Derived.Laws.Externs
import Derived.Test.YtikngjpbkcbogaaGreatM5
namespace Sx
set_option linter.unusedVariables false
set_option maxRecDepth 100000
open Go Cv Go.Proofs
def zBr (s:List UInt8):Prop:=
 ∃(i0:Nat×Nat),(↑i0.snd:Int)=0∧sb s=sb s∧i0.fst=0∧∃(I:Nat×Nat→Prop),∃(μ:Nat×Nat→Nat),I i0∧∀(i:Nat×Nat),I i→cnd (i.fst.blt (sb s).size) (∃(i0:Bool),∃(I_1:Bool→Prop),cnd (decide ((↑(Utf8.decode (sb s) i.fst).fst:Int)≥65)) (cnd (decide ((↑(Utf8.decode (sb s) i.fst).fst:Int)≤90)) (∃(i':Bool),i'=!true∧I_1 i'∧Sx.AObj.iter (sb s) (i.fst+(Utf8.decode (sb s) i.fst).snd)=Sx.AObj.iter (sb s) (i.fst+(Utf8.decode (sb s) i.fst).snd)) (cnd (decide ((↑(Utf8.decode (sb s) i.fst).fst:Int)≥913)) (cnd (decide ((↑(Utf8.decode (sb s) i.fst).fst:Int)≤937)) (∃(i':Bool),i'=!(↑(Utf8.decode (sb s) i.fst).fst:Int) !=930∧I_1 i'∧Sx.AObj.iter (sb s) (i.fst+(Utf8.decode (sb s) i.fst).snd)=Sx.AObj.iter (sb s) (i.fst+(Utf8.decode (sb s) i.fst).snd)) (∃(i':Bool),i'=!false∧I_1 i'∧Sx.AObj.iter (sb s) (i.fst+(Utf8.decode (sb s) i.fst).snd)=Sx.AObj.iter (sb s) (i.fst+(Utf8.decode (sb s) i.fst).snd))) (∃(i':Bool),i'=!false∧I_1 i'∧Sx.AObj.iter (sb s) (i.fst+(Utf8.decode (sb s) i.fst).snd)=Sx.AObj.iter (sb s) (i.fst+(Utf8.decode (sb s) i.fst).snd)))) (cnd (decide ((↑(Utf8.decode (sb s) i.fst).fst:Int)≥913)) (cnd (decide ((↑(Utf8.decode (sb s) i.fst).fst:Int)≤937)) (∃(i':Bool),i'=!(↑(Utf8.decode (sb s) i.fst).fst:Int) !=930∧I_1 i'∧Sx.AObj.iter (sb s) (i.fst+(Utf8.decode (sb s) i.fst).snd)=Sx.AObj.iter (sb s) (i.fst+(Utf8.decode (sb s) i.fst).snd)) (∃(i':Bool),i'=!false∧I_1 i'∧Sx.AObj.iter (sb s) (i.fst+(Utf8.decode (sb s) i.fst).snd)=Sx.AObj.iter (sb s) (i.fst+(Utf8.decode (sb s) i.fst).snd))) (∃(i':Bool),i'=!false∧I_1 i'∧Sx.AObj.iter (sb s) (i.fst+(Utf8.decode (sb s) i.fst).snd)=Sx.AObj.iter (sb s) (i.fst+(Utf8.decode (sb s) i.fst).snd)))∧∀(i_1:Bool),I_1 i_1→cnd i_1 (∃(o:Unit),qU s=false∧True) (∃(i':Nat×Nat),(↑i'.snd:Int)=IntKind.i64.wrap ((↑i.snd:Int)+1)∧sb s=sb s∧i'.fst=i.fst+(Utf8.decode (sb s) i.fst).snd∧I i'∧μ i'<μ i∧True)) (cnd (decide ((↑i.snd:Int)≥1)) (∃(o:Unit),qU s=decide ((↑i.snd:Int)≤4)∧True) (∃(o:Unit),qU s=false∧True))
theorem zVs (hG:GOk Tryz.prog ([])) (h:∀(s:List UInt8),r3prodC.cnd s→zBr s):r3prodC.ok Tryz.prog 93:=okw mixed hG 0 (fun _=>z1b) (fun s=>z0k s) [] Tryz.func93 h
@[reducible] def zO (p:Prd):AObj:=Sx.AObj.cells [V.d (D.v (Value.string (sb p.code))),V.own (0:Nat),V.d (D.v (.int .i64 p.tick)),V.d (D.v (.int .i64 p.low)),V.d (D.v (.int .i64 p.high)),V.d (D.v (.int .i64 p.wide)),V.d (D.v (.int .i64 p.rule)),V.d (D.v (.int .i64 p.top)),V.d (D.v (.int .i64 p.least)),V.d (D.v (.int .i64 p.part)),V.own ((0:Nat)+(1:Nat))] (25:Nat)
@[reducible] def bG (p:Prd) (i:Nat) (o:Unit) (I:Nat→Prop) (μ:Nat→Nat) (I_1:Bool→Prop):Prop:=∀(i_1:Bool),I_1 i_1→cnd i_1 (∃(o:Unit),p.check=1∧True) (∃(i':Nat),(↑i':Int)=IntKind.i64.wrap ((↑i:Int)+1)∧I i'∧μ i'<μ i∧zO p=zO p∧AObj.fro 1 (iE p.settle)=AObj.fro 1 (iE p.settle)∧AObj.fro 1 (iE p.months)=AObj.fro 1 (iE p.months))
def pT (p:Prd):Prop:=
 ∃(i:List UInt8),sb i=sb p.code∧i.length≤1099511627776∧∀(o:Unit),True→cnd (!qU i) (∃(o:Unit),p.check=12∧True) (∃(i0:Bool),∃(I:Bool→Prop),cnd (decide ((↑(iE p.months).length:Int)<2)) (∃(i':Bool),i'=true∧I i'∧zO p=zO p∧AObj.fro 1 (iE p.settle)=AObj.fro 1 (iE p.settle)∧AObj.fro 1 (iE p.months)=AObj.fro 1 (iE p.months)) (∃(i':Bool),i'=decide ((↑(iE p.months).length:Int)>6)∧I i'∧zO p=zO p∧AObj.fro 1 (iE p.settle)=AObj.fro 1 (iE p.settle)∧AObj.fro 1 (iE p.months)=AObj.fro 1 (iE p.months))∧∀(i:Bool),I i→cnd i (∃(o:Unit),p.check=1∧True) (∃(i0:Nat),(↑i0:Int)=0∧∃(I:Nat→Prop),∃(μ:Nat→Nat),I i0∧∀(i:Nat),I i→cnd (decide ((↑i:Int)<(↑(iE p.months).length:Int))) (∃(i0:Bool),∃(I_1:Bool→Prop),((0≤(↑i:Int)∧(↑i:Int)<(↑(iE p.months).length:Int))∧∃(n:Int),zI (iE p.months) (↑i:Int).toNat 0 1=some [D.v (.int .i64 n)]∧cnd (decide (n<0)) (∃(i':Bool),i'=true∧I_1 i'∧zO p=zO p∧AObj.fro 1 (iE p.settle)=AObj.fro 1 (iE p.settle)∧AObj.fro 1 (iE p.months)=AObj.fro 1 (iE p.months)) ((0≤(↑i:Int)∧(↑i:Int)<(↑(iE p.months).length:Int))∧∃(n:Int),zI (iE p.months) (↑i:Int).toNat 0 1=some [D.v (.int .i64 n)]∧cnd (decide (n>1199)) (∃(i':Bool),i'=true∧I_1 i'∧zO p=zO p∧AObj.fro 1 (iE p.settle)=AObj.fro 1 (iE p.settle)∧AObj.fro 1 (iE p.months)=AObj.fro 1 (iE p.months)) (cnd (decide ((↑i:Int)>0)) ((0≤IntKind.i64.wrap ((↑i:Int)-1)∧IntKind.i64.wrap ((↑i:Int)-1)<(↑(iE p.months).length:Int))∧∃(n:Int),zI (iE p.months) (IntKind.i64.wrap ((↑i:Int)-1)).toNat 0 1=some [D.v (.int .i64 n)]∧(0≤(↑i:Int)∧(↑i:Int)<(↑(iE p.months).length:Int))∧∃(n_1:Int),zI (iE p.months) (↑i:Int).toNat 0 1=some [D.v (.int .i64 n_1)]∧∃(i':Bool),i'=decide (n≥n_1)∧I_1 i'∧zO p=zO p∧AObj.fro 1 (iE p.settle)=AObj.fro 1 (iE p.settle)∧AObj.fro 1 (iE p.months)=AObj.fro 1 (iE p.months)) (∃(i':Bool),i'=false∧I_1 i'∧zO p=zO p∧AObj.fro 1 (iE p.settle)=AObj.fro 1 (iE p.settle)∧AObj.fro 1 (iE p.months)=AObj.fro 1 (iE p.months)))))∧bG p i o I μ I_1) (∃(i0:Bool),∃(I:Bool→Prop),cnd (decide (p.tick<1)) (∃(i':Bool),i'=true∧I i'∧zO p=zO p∧AObj.fro 1 (iE p.settle)=AObj.fro 1 (iE p.settle)∧AObj.fro 1 (iE p.months)=AObj.fro 1 (iE p.months)) (cnd (decide (p.tick>1000)) (∃(i':Bool),i'=true∧I i'∧zO p=zO p∧AObj.fro 1 (iE p.settle)=AObj.fro 1 (iE p.settle)∧AObj.fro 1 (iE p.months)=AObj.fro 1 (iE p.months)) (IntKind.i64=IntKind.i64∧p.tick≠0∧cnd (p.low.tmod p.tick !=0) (∃(i':Bool),i'=true∧I i'∧zO p=zO p∧AObj.fro 1 (iE p.settle)=AObj.fro 1 (iE p.settle)∧AObj.fro 1 (iE p.months)=AObj.fro 1 (iE p.months)) (IntKind.i64=IntKind.i64∧p.tick≠0∧cnd (p.high.tmod p.tick !=0) (∃(i':Bool),i'=true∧I i'∧zO p=zO p∧AObj.fro 1 (iE p.settle)=AObj.fro 1 (iE p.settle)∧AObj.fro 1 (iE p.months)=AObj.fro 1 (iE p.months)) (IntKind.i64=IntKind.i64∧p.tick≠0∧∃(i':Bool),i'=(p.wide.tmod p.tick !=0)∧I i'∧zO p=zO p∧AObj.fro 1 (iE p.settle)=AObj.fro 1 (iE p.settle)∧AObj.fro 1 (iE p.months)=AObj.fro 1 (iE p.months)))))∧∀(i:Bool),I i→cnd i (∃(o:Unit),p.check=22∧True) (∃(i0:Nat),(↑i0:Int)=0∧∃(I:Nat→Prop),∃(μ:Nat→Nat),I i0∧∀(i:Nat),I i→cnd (decide ((↑i:Int)<(↑(iE p.settle).length:Int))) ((0≤(↑i:Int)∧(↑i:Int)<(↑(iE p.settle).length:Int))∧∃(n:Int),zI (iE p.settle) (↑i:Int).toNat 0 1=some [D.v (.int .i64 n)]∧IntKind.i64=IntKind.i64∧p.tick≠0∧cnd (n.tmod p.tick !=0) (∃(o:Unit),p.check=22∧True) (∃(i':Nat),(↑i':Int)=IntKind.i64.wrap ((↑i:Int)+1)∧I i'∧μ i'<μ i∧zO p=zO p∧AObj.fro 1 (iE p.settle)=AObj.fro 1 (iE p.settle)∧AObj.fro 1 (iE p.months)=AObj.fro 1 (iE p.months))) (∃(i0:Bool),∃(I:Bool→Prop),cnd (decide (p.low<(-1000000))) (∃(i':Bool),i'=true∧I i'∧zO p=zO p∧AObj.fro 1 (iE p.settle)=AObj.fro 1 (iE p.settle)∧AObj.fro 1 (iE p.months)=AObj.fro 1 (iE p.months)) (cnd (decide (p.low≥p.high)) (∃(i':Bool),i'=true∧I i'∧zO p=zO p∧AObj.fro 1 (iE p.settle)=AObj.fro 1 (iE p.settle)∧AObj.fro 1 (iE p.months)=AObj.fro 1 (iE p.months)) (cnd (decide (p.high>1000000)) (∃(i':Bool),i'=true∧I i'∧zO p=zO p∧AObj.fro 1 (iE p.settle)=AObj.fro 1 (iE p.settle)∧AObj.fro 1 (iE p.months)=AObj.fro 1 (iE p.months)) (cnd (decide (p.wide<0)) (∃(i':Bool),i'=true∧I i'∧zO p=zO p∧AObj.fro 1 (iE p.settle)=AObj.fro 1 (iE p.settle)∧AObj.fro 1 (iE p.months)=AObj.fro 1 (iE p.months)) (∃(i':Bool),i'=decide (p.wide>IntKind.i64.wrap (p.high-p.low))∧I i'∧zO p=zO p∧AObj.fro 1 (iE p.settle)=AObj.fro 1 (iE p.settle)∧AObj.fro 1 (iE p.months)=AObj.fro 1 (iE p.months)))))∧∀(i:Bool),I i→cnd i (∃(o:Unit),p.check=23∧True) (cnd ((↑(iE p.settle).length:Int) !=(↑(iE p.months).length:Int)) (∃(o:Unit),p.check=1∧True) (∃(i0:Nat),(↑i0:Int)=0∧∃(I:Nat→Prop),∃(μ:Nat→Nat),I i0∧∀(i:Nat),I i→cnd (decide ((↑i:Int)<(↑(iE p.settle).length:Int))) (∃(i0:Bool),∃(I_1:Bool→Prop),((0≤(↑i:Int)∧(↑i:Int)<(↑(iE p.settle).length:Int))∧∃(n:Int),zI (iE p.settle) (↑i:Int).toNat 0 1=some [D.v (.int .i64 n)]∧cnd (decide (n<p.low)) (∃(i':Bool),i'=true∧I_1 i'∧zO p=zO p∧AObj.fro 1 (iE p.settle)=AObj.fro 1 (iE p.settle)∧AObj.fro 1 (iE p.months)=AObj.fro 1 (iE p.months)) ((0≤(↑i:Int)∧(↑i:Int)<(↑(iE p.settle).length:Int))∧∃(n:Int),zI (iE p.settle) (↑i:Int).toNat 0 1=some [D.v (.int .i64 n)]∧∃(i':Bool),i'=decide (n>p.high)∧I_1 i'∧zO p=zO p∧AObj.fro 1 (iE p.settle)=AObj.fro 1 (iE p.settle)∧AObj.fro 1 (iE p.months)=AObj.fro 1 (iE p.months)))∧bG p i o I μ I_1) (∃(i0:Bool),∃(I:Bool→Prop),cnd (decide (p.rule<1)) (∃(i':Bool),i'=true∧I i'∧zO p=zO p∧AObj.fro 1 (iE p.settle)=AObj.fro 1 (iE p.settle)∧AObj.fro 1 (iE p.months)=AObj.fro 1 (iE p.months)) (∃(i':Bool),i'=decide (p.rule>3)∧I i'∧zO p=zO p∧AObj.fro 1 (iE p.settle)=AObj.fro 1 (iE p.settle)∧AObj.fro 1 (iE p.months)=AObj.fro 1 (iE p.months))∧∀(i:Bool),I i→cnd i (∃(o:Unit),p.check=31∧True) (∃(i0:Bool),∃(I:Bool→Prop),cnd (decide (p.top<0)) (∃(i':Bool),i'=true∧I i'∧zO p=zO p∧AObj.fro 1 (iE p.settle)=AObj.fro 1 (iE p.settle)∧AObj.fro 1 (iE p.months)=AObj.fro 1 (iE p.months)) (cnd (decide (p.top>1000000)) (∃(i':Bool),i'=true∧I i'∧zO p=zO p∧AObj.fro 1 (iE p.settle)=AObj.fro 1 (iE p.settle)∧AObj.fro 1 (iE p.months)=AObj.fro 1 (iE p.months)) (cnd (decide (p.least<1)) (∃(i':Bool),i'=true∧I i'∧zO p=zO p∧AObj.fro 1 (iE p.settle)=AObj.fro 1 (iE p.settle)∧AObj.fro 1 (iE p.months)=AObj.fro 1 (iE p.months)) (cnd (decide (p.least>1000)) (∃(i':Bool),i'=true∧I i'∧zO p=zO p∧AObj.fro 1 (iE p.settle)=AObj.fro 1 (iE p.settle)∧AObj.fro 1 (iE p.months)=AObj.fro 1 (iE p.months)) (cnd (decide (p.part<0)) (∃(i':Bool),i'=true∧I i'∧zO p=zO p∧AObj.fro 1 (iE p.settle)=AObj.fro 1 (iE p.settle)∧AObj.fro 1 (iE p.months)=AObj.fro 1 (iE p.months)) (∃(i':Bool),i'=decide (p.part>100)∧I i'∧zO p=zO p∧AObj.fro 1 (iE p.settle)=AObj.fro 1 (iE p.settle)∧AObj.fro 1 (iE p.months)=AObj.fro 1 (iE p.months))))))∧∀(i:Bool),I i→cnd i (∃(o:Unit),p.check=24∧True) (∃(o:Unit),p.check=0∧True))))))))))
theorem zPp (hG:GOk Tryz.prog ([(93,r3prodC)])) (h:∀(p:Prd),r5checkC.cnd p→pT p):r5checkC.ok Tryz.prog 58:=okw mixed hG 0 (fun _=>zWb) (fun _=>zTt) [] Tryz.func58 h
def tP (p:Prd):Prop:=
 ∃(i:Prd),sb i.code=sb p.code∧iE i.months=iE p.months∧i.tick=p.tick∧i.low=p.low∧i.high=p.high∧i.wide=p.wide∧i.rule=p.rule∧i.top=p.top∧i.least=p.least∧i.part=p.part∧iE i.settle=iE p.settle∧(i.code.length≤1099511627776∧i.months.length≤1099511627776∧i.settle.length≤1099511627776)∧∀(o:Unit),True→cnd (i.check !=0) (∃(o:Unit),(↑p.count:Int)=0∧True) (IntKind.i64=IntKind.i64∧(2:Int)≠(0:Int)∧∃(o:Unit),(↑p.count:Int)=IntKind.i64.wrap ((↑(iE p.months).length:Int)+IntKind.i64.wrap ((IntKind.i64.wrap ((↑(iE p.months).length:Int)*IntKind.i64.wrap ((↑(iE p.months).length:Int)-1))).tdiv 2))∧True)
theorem zPj (hG:GOk Tryz.prog ([(58,r5checkC)])) (h:∀(p:Prd),r5countC.cnd p→tP p):r5countC.ok Tryz.prog 26:=okw mixed hG 0 (fun _=>[]) (fun _=>[]) [] Tryz.func26 h
@[reducible] def dQ (i:h9):AObj:=Sx.AObj.cells [V.d (D.v (Value.string (sb i.p.code))),V.own (0:Nat),V.d (D.v (.int .i64 i.p.tick)),V.d (D.v (.int .i64 i.p.low)),V.d (D.v (.int .i64 i.p.high)),V.d (D.v (.int .i64 i.p.wide)),V.d (D.v (.int .i64 i.p.rule)),V.d (D.v (.int .i64 i.p.top)),V.d (D.v (.int .i64 i.p.least)),V.d (D.v (.int .i64 i.p.part)),V.own ((0:Nat)+(1:Nat))] (25:Nat)
def zDc (i:h9):Prop:=
 ∃(i_1:Prd),sb i_1.code=sb i.p.code∧iE i_1.months=iE i.p.months∧i_1.tick=i.p.tick∧i_1.low=i.p.low∧i_1.high=i.p.high∧i_1.wide=i.p.wide∧i_1.rule=i.p.rule∧i_1.top=i.p.top∧i_1.least=i.p.least∧i_1.part=i.p.part∧iE i_1.settle=iE i.p.settle∧(i_1.code.length≤1099511627776∧i_1.months.length≤1099511627776∧i_1.settle.length≤1099511627776)∧∀(o:Unit),True→cnd (i_1.check !=0) (∃(o:Unit),(i.p.legs i.n).fst=0∧(i.p.legs i.n).snd.fst=0∧(i.p.legs i.n).snd.snd=false∧True) (cnd (decide (i.n<0)) (∃(o:Unit),(i.p.legs i.n).fst=0∧(i.p.legs i.n).snd.fst=0∧(i.p.legs i.n).snd.snd=false∧True) (cnd (decide (i.n<(↑(iE i.p.months).length:Int))) (∃(o:Unit),(i.p.legs i.n).fst=i.n∧(i.p.legs i.n).snd.fst=i.n∧(i.p.legs i.n).snd.snd=false∧True) (∃(i0:Nat),(↑(zZ i.p.months.length i0):Int)=(↑(iE i.p.months).length:Int)∧(↑i0:Int)=0∧∃(I:Nat→Prop),∃(μ:Nat→Nat),I i0∧∀(i_2:Nat),I i_2→cnd (decide ((↑i_2:Int)<(↑(iE i.p.months).length:Int))) (∃(i0:Nat×Nat),(↑(zZ i.p.months.length i0.fst+i0.snd):Int)=(↑(zZ i.p.months.length i_2):Int)∧(↑i0.fst:Int)=(↑i_2:Int)∧(↑(i0.fst+1+i0.snd):Int)=IntKind.i64.wrap ((↑i_2:Int)+1)∧∃(I_1:Nat×Nat→Prop),∃(μ_1:Nat×Nat→Nat),I_1 i0∧∀(i_3:Nat×Nat),I_1 i_3→cnd (decide ((↑(i_3.fst+1+i_3.snd):Int)<(↑(iE i.p.months).length:Int))) (cnd ((↑(zZ i.p.months.length i_3.fst+i_3.snd):Int)==i.n) (∃(o:Unit),(i.p.legs i.n).fst=(↑i_3.fst:Int)∧(i.p.legs i.n).snd.fst=(↑(i_3.fst+1+i_3.snd):Int)∧(i.p.legs i.n).snd.snd=true∧True) (∃(i':Nat×Nat),(↑(zZ i.p.months.length i'.fst+i'.snd):Int)=IntKind.i64.wrap ((↑(zZ i.p.months.length i_3.fst+i_3.snd):Int)+1)∧(↑i'.fst:Int)=(↑i_3.fst:Int)∧(↑(i'.fst+1+i'.snd):Int)=IntKind.i64.wrap ((↑(i_3.fst+1+i_3.snd):Int)+1)∧I_1 i'∧μ_1 i'<μ_1 i_3∧dQ i=dQ i∧AObj.fro 1 (iE i.p.settle)=AObj.fro 1 (iE i.p.settle)∧AObj.fro 1 (iE i.p.months)=AObj.fro 1 (iE i.p.months))) (∃(i':Nat),(↑(zZ i.p.months.length i'):Int)=(↑(zZ i.p.months.length i_3.fst+i_3.snd):Int)∧(↑i':Int)=IntKind.i64.wrap ((↑i_3.fst:Int)+1)∧I i'∧μ i'<μ i_2∧dQ i=dQ i∧AObj.fro 1 (iE i.p.settle)=AObj.fro 1 (iE i.p.settle)∧AObj.fro 1 (iE i.p.months)=AObj.fro 1 (iE i.p.months))) (∃(o:Unit),(i.p.legs i.n).fst=0∧(i.p.legs i.n).snd.fst=0∧(i.p.legs i.n).snd.snd=false∧True))))
theorem zUi (hG:GOk Tryz.prog ([(58,r5checkC)])) (h:∀(i:h9),r5legsC.cnd i→zDc i):r5legsC.ok Tryz.prog 27:=okw mixed hG 0 (fun _=>[]) (fun i=>zYs i) [] Tryz.func27 h
@[reducible] def uY:AObj:=Sx.AObj.cells (Sx.V.agg [V.d (D.v (Value.string (ByteArray.mk #[]))),V.d (D.v (Value.slice none (0:Nat) (0:Nat))),V.d (D.v (.int .i64 0)),V.d (D.v (.int .i64 0)),V.d (D.v (.int .i64 0)),V.d (D.v (.int .i64 0)),V.d (D.v (.int .i64 0)),V.d (D.v (.int .i64 0)),V.d (D.v (.int .i64 0)),V.d (D.v (.int .i64 0)),V.d (D.v (Value.slice none (0:Nat) (0:Nat)))]).cl (25:Nat)
@[reducible] def uP (x:Prd):AObj:=Sx.AObj.cells [V.d (D.v (Value.string (sb x.code))),V.own (0:Nat),V.d (D.v (.int .i64 x.tick)),V.d (D.v (.int .i64 x.low)),V.d (D.v (.int .i64 x.high)),V.d (D.v (.int .i64 x.wide)),V.d (D.v (.int .i64 x.rule)),V.d (D.v (.int .i64 x.top)),V.d (D.v (.int .i64 x.least)),V.d (D.v (.int .i64 x.part)),V.own ((0:Nat)+(1:Nat))] (25:Nat)
@[reducible] def rI (x:Prd) (i:WiI) (o:Unit) (i_1:WiI) (I:Unit→Prop):Prop:=∃(i_2:WiI),i_2.n=x.top∧i_2.lo=0∧i_2.hi=9∧(((-9223372036854775808)≤i_2.n∧i_2.n≤9223372036854775807)∧(-1000000)≤i_2.lo∧i_2.lo≤i_2.hi∧i_2.hi≤1000000)∧∀(o:Unit),True→x.part=x.part∧x.least=x.least∧∃(i_3:WiI),i_3.n=x.least∧i_3.lo=0∧i_3.hi=4∧(((-9223372036854775808)≤i_3.n∧i_3.n≤9223372036854775807)∧(-1000000)≤i_3.lo∧i_3.lo≤i_3.hi∧i_3.hi≤1000000)∧∀(o:Unit),True→x.part=x.part∧∃(i_4:WiI),i_4.n=x.part∧i_4.lo=0∧i_4.hi=100∧(((-9223372036854775808)≤i_4.n∧i_4.n≤9223372036854775807)∧(-1000000)≤i_4.lo∧i_4.lo≤i_4.hi∧i_4.hi≤1000000)∧∀(o:Unit),True→∃(i':Unit),sb [(206:UInt8),(169:UInt8)]=ByteArray.mk #[(206:UInt8),(169:UInt8)]∧True∧z9 x=IntKind.i64.wrap (1+zD i_1.n i_1.lo i_1.hi)∧(-20)*z9 x=IntKind.i64.wrap ((-20)*IntKind.i64.wrap (1+zD i_1.n i_1.lo i_1.hi))∧100*z9 x=IntKind.i64.wrap (100*IntKind.i64.wrap (1+zD i_1.n i_1.lo i_1.hi))∧(0:Int)=(0:Int)∧1+zD x.rule 0 2=IntKind.i64.wrap (1+zD i.n i.lo i.hi)∧zD x.top 0 9=zD i_2.n i_2.lo i_2.hi∧1+zD x.least 0 4=IntKind.i64.wrap (1+zD i_3.n i_3.lo i_3.hi)∧zD x.part 0 100=zD i_4.n i_4.lo i_4.hi∧True∧I i'∧uY=uY∧uP x=uP x∧AObj.fro 1 (iE x.settle)=AObj.fro 1 (iE x.settle)∧AObj.fro 1 (iE x.months)=AObj.fro 1 (iE x.months)
@[reducible] def aC (x:Prd) (i:WiI) (o:Unit) (i_1:WiI) (I:Unit→Prop) (i_2:WiI) (i_3:WiI):Prop:=∃(i_4:WiI),i_4.n=x.part∧i_4.lo=0∧i_4.hi=100∧(((-9223372036854775808)≤i_4.n∧i_4.n≤9223372036854775807)∧(-1000000)≤i_4.lo∧i_4.lo≤i_4.hi∧i_4.hi≤1000000)∧∀(o:Unit),True→∃(i':Unit),sb [(206:UInt8),(169:UInt8)]=ByteArray.mk #[(206:UInt8),(169:UInt8)]∧True∧z9 x=IntKind.i64.wrap (1+zD i_1.n i_1.lo i_1.hi)∧(-20)*z9 x=IntKind.i64.wrap ((-20)*IntKind.i64.wrap (1+zD i_1.n i_1.lo i_1.hi))∧100*z9 x=IntKind.i64.wrap (100*IntKind.i64.wrap (1+zD i_1.n i_1.lo i_1.hi))∧(0:Int)=(0:Int)∧1+zD x.rule 0 2=IntKind.i64.wrap (1+zD i.n i.lo i.hi)∧zD x.top 0 9=zD i_2.n i_2.lo i_2.hi∧1+zD x.least 0 4=IntKind.i64.wrap (1+zD i_3.n i_3.lo i_3.hi)∧zD x.part 0 100=zD i_4.n i_4.lo i_4.hi∧True∧I i'∧uY=uY∧uP x=uP x∧AObj.fro 1 (iE x.settle)=AObj.fro 1 (iE x.settle)∧AObj.fro 1 (iE x.months)=AObj.fro 1 (iE x.months)
def zKs (x:Prd):Prop:=
 ∃(i:WiI),i.n=(↑(iE x.months).length:Int)∧i.lo=0∧i.hi=3∧(((-9223372036854775808)≤i.n∧i.n≤9223372036854775807)∧(-1000000)≤i.lo∧i.lo≤i.hi∧i.hi≤1000000)∧∀(o:Unit),True→∃(i_1:WiI),i_1.n=x.tick∧i_1.lo=0∧i_1.hi=9∧(((-9223372036854775808)≤i_1.n∧i_1.n≤9223372036854775807)∧(-1000000)≤i_1.lo∧i_1.lo≤i_1.hi∧i_1.hi≤1000000)∧∀(o:Unit),True→∃(i0:Unit),∃(I:Unit→Prop),((∃(i:WiI),i.n=x.rule∧i.lo=0∧i.hi=2∧(((-9223372036854775808)≤i.n∧i.n≤9223372036854775807)∧(-1000000)≤i.lo∧i.lo≤i.hi∧i.hi≤1000000)∧∀(o:Unit),True→x.part=x.part∧x.least=x.least∧x.top=x.top∧(∃(i_2:WiI),i_2.n=x.top∧i_2.lo=0∧i_2.hi=9∧(((-9223372036854775808)≤i_2.n∧i_2.n≤9223372036854775807)∧(-1000000)≤i_2.lo∧i_2.lo≤i_2.hi∧i_2.hi≤1000000)∧∀(o:Unit),True→x.part=x.part∧x.least=x.least∧(∃(i_3:WiI),i_3.n=x.least∧i_3.lo=0∧i_3.hi=4∧(((-9223372036854775808)≤i_3.n∧i_3.n≤9223372036854775807)∧(-1000000)≤i_3.lo∧i_3.lo≤i_3.hi∧i_3.hi≤1000000)∧∀(o:Unit),True→x.part=x.part∧(aC x i o i_1 I i_2 i_3)∧x.part=x.part∧aC x i o i_1 I i_2 i_3)∧x.part=x.part∧x.least=x.least∧∃(i_3:WiI),i_3.n=x.least∧i_3.lo=0∧i_3.hi=4∧(((-9223372036854775808)≤i_3.n∧i_3.n≤9223372036854775807)∧(-1000000)≤i_3.lo∧i_3.lo≤i_3.hi∧i_3.hi≤1000000)∧∀(o:Unit),True→x.part=x.part∧aC x i o i_1 I i_2 i_3)∧x.part=x.part∧x.least=x.least∧x.top=x.top∧rI x i o i_1 I)∧x.part=x.part∧x.least=x.least∧x.top=x.top∧x.rule=x.rule∧∃(i:WiI),i.n=x.rule∧i.lo=0∧i.hi=2∧(((-9223372036854775808)≤i.n∧i.n≤9223372036854775807)∧(-1000000)≤i.lo∧i.lo≤i.hi∧i.hi≤1000000)∧∀(o:Unit),True→x.part=x.part∧x.least=x.least∧x.top=x.top∧rI x i o i_1 I)∧∀(i_2:Unit),I i_2→∃(i_3:WiI),i_3.n=x.wide∧i_3.lo=0∧i_3.hi=60∧(((-9223372036854775808)≤i_3.n∧i_3.n≤9223372036854775807)∧(-1000000)≤i_3.lo∧i_3.lo≤i_3.hi∧i_3.hi≤1000000)∧∀(o:Unit),True→∃(i0:Nat),(↑i0:Int)=0∧sb [(206:UInt8),(169:UInt8)]=sb [(206:UInt8),(169:UInt8)]∧z9 x=z9 x∧(-20)*z9 x=(-20)*z9 x∧100*z9 x=100*z9 x∧z9 x*(5+zD x.wide 0 60)=IntKind.i64.wrap (IntKind.i64.wrap (1+zD i_1.n i_1.lo i_1.hi)*IntKind.i64.wrap (5+zD i_3.n i_3.lo i_3.hi))∧1+zD x.rule 0 (2:Int)=(1:Int)+zD x.rule 0 2∧zD x.top 0 9=zD x.top 0 (9:Int)∧(1:Int)+zD x.least 0 (4:Int)=(1:Int)+zD x.least 0 4∧zD x.part 0 100=zD x.part 0 100∧iE (qM i0)=[]∧iE (xV (z9 x) i0)=[]∧∃(I:Nat→Prop),∃(μ:Nat→Nat),I i0∧∀(i_4:Nat),I i_4→cnd (decide ((↑i_4:Int)<IntKind.i64.wrap (2+zD i.n i.lo i.hi))) (((iE (qM i_4)).length+1)*(8:Nat)≤(70368744177664:Nat)∧((iE (xV (z9 x) i_4)).length+1)*(8:Nat)≤(70368744177664:Nat)∧∃(i':Nat),(↑i':Int)=IntKind.i64.wrap ((↑i_4:Int)+1)∧sb [(206:UInt8),(169:UInt8)]=sb [(206:UInt8),(169:UInt8)]∧z9 x=z9 x∧(-20)*z9 x=(-20)*z9 x∧100*z9 x=100*z9 x∧z9 x*(5+zD x.wide 0 60)=z9 x*(5+zD x.wide 0 60)∧1+zD x.rule 0 (2:Int)=(1:Int)+zD x.rule 0 2∧zD x.top 0 9=zD x.top 0 (9:Int)∧(1:Int)+zD x.least 0 (4:Int)=(1:Int)+zD x.least 0 4∧zD x.part 0 100=zD x.part 0 100∧iE (qM i')=iE (qM i_4)++[[D.v (.int .i64 (IntKind.i64.wrap (IntKind.i64.wrap (10*(↑i_4:Int))+3)))]]∧iE (xV (z9 x) i')=iE (xV (z9 x) i_4)++[[D.v (.int .i64 (IntKind.i64.wrap (IntKind.i64.wrap (1+zD i_1.n i_1.lo i_1.hi)*IntKind.i64.wrap (10+(↑i_4:Int)))))]]∧I i'∧μ i'<μ i_4∧uY=uY∧uP x=uP x∧AObj.fro 1 (iE x.settle)=AObj.fro 1 (iE x.settle)∧AObj.fro 1 (iE x.months)=AObj.fro 1 (iE x.months)) (∃(o:Unit),sb [(206:UInt8),(169:UInt8)]=sb [(206:UInt8),(169:UInt8)]∧iE (qM (kN x).toNat)=iE (qM i_4)∧z9 x=z9 x∧(-20)*z9 x=(-20)*z9 x∧100*z9 x=100*z9 x∧z9 x*(5+zD x.wide 0 60)=z9 x*(5+zD x.wide 0 60)∧1+zD x.rule 0 (2:Int)=(1:Int)+zD x.rule 0 2∧zD x.top 0 9=zD x.top 0 (9:Int)∧(1:Int)+zD x.least 0 (4:Int)=(1:Int)+zD x.least 0 4∧zD x.part 0 100=zD x.part 0 100∧iE (xV (z9 x) (kN x).toNat)=iE (xV (z9 x) i_4)∧True)
theorem zZh (hG:GOk Tryz.prog ([(13,withinC)])) (h:∀(x:Prd),kprodC.cnd x→zKs x):kprodC.ok Tryz.prog 8:=okw mixed hG 0 (fun x=>z3w x) (fun x=>z7n x) [] Tryz.func8 h
set_option linter.unusedSimpArgs false
open Go Cv Go.Proofs
theorem z1v (s:List UInt8) (h:r3prodC.cnd s):zBr s:=by
 have h:s.length≤1099511627776:=h
 have hr:=zAy s
 unfold zBr
 refine⟨(0,0),rfl,rfl,rfl,fun x=>x.1≤s.length∧x.2+(wM s x.1).length=(jP s).length∧(jP s).all jO=((wM s x.1).all fun y=>jO y.2),fun x=>s.length-x.1,⟨by omega,by rw[jP,List.length_map];simp,by rw[jP,List.all_map];rfl⟩,?_⟩
 rintro⟨p,n⟩ ⟨h1,h2,h3⟩
 dsimp only at h1 h2 h3 ⊢
 refine Cv.cnd.mk (fun hp=> ?_) (fun hp=> ?_)
 ·have hp:p<s.length:=by simpa[Nat.blt_eq]using hp
  have hw:=uS s hp
  rw[wA hp,List.length_cons]at h2
  rw[wA hp,List.all_cons]at h3
  generalize hc:(Utf8.decode (sb s) p).1=c at h2 h3 ⊢
  generalize hww:(Utf8.decode (sb s) p).2=w at h2 h3 hw ⊢
  dsimp only at h3
  have g0:∀b:Bool,(b=true→jO c=true)→(b=false→jO c=false)→b=jO c:=fun b e1 e2=>by cases b<;>simp_all
  refine⟨true,fun b=>b= !jO c,?_,fun b hb=> ?_⟩
  ·refine zT (fun c1=>zT (fun c2=>⟨_,rfl,?_,by(repeat'(first|exact trivial|exact rfl|apply And.intro))⟩) (fun c2=>zT (fun c3=>zT (fun c4=>⟨_,rfl,?_,by(repeat'(first|exact trivial|exact rfl|apply And.intro))⟩) (fun c4=>⟨_,rfl,?_,by(repeat'(first|exact trivial|exact rfl|apply And.intro))⟩)) (fun c3=>⟨_,rfl,?_,by(repeat'(first|exact trivial|exact rfl|apply And.intro))⟩))) (fun c1=>zT (fun c3=>zT (fun c4=>⟨_,rfl,?_,by(repeat'(first|exact trivial|exact rfl|apply And.intro))⟩) (fun c4=>⟨_,rfl,?_,by(repeat'(first|exact trivial|exact rfl|apply And.intro))⟩)) (fun c3=>⟨_,rfl,?_,by(repeat'(first|exact trivial|exact rfl|apply And.intro))⟩))
   all_goals congr 1
   all_goals refine g0 _ (fun e=> ?_) (fun e=> ?_)
   all_goals first|(simp[jO]at*;done)|(simp[jO]at*;omega)
  ·subst hb
   refine Cv.cnd.mk (fun e=>⟨(),?_,trivial⟩) (fun e=>⟨(p+w,n+1),?_,rfl,rfl,⟨hw.2,by(first|omega|(dsimp only;omega)),?_⟩,by(first|omega|(dsimp only;omega)),trivial⟩)
   ·have e:jO c=false:=by simpa using e
    rw[qU,h3,e];rfl
   ·rw[w64 (by omega)];rfl
   ·have e:jO c=true:=by simpa using e
    rw[h3,e];rfl
 ·have hp:s.length≤p:=by have:=zSo hp;simpa using this
  rw[vK hp]at h2 h3
  have h3:(jP s).all jO=true:=h3
  have hn:n=(jP s).length:=by simpa using h2
  have hne:(s=[])↔(jP s).length=0:=by
   constructor
   ·intro e;subst e;rfl
   ·intro e
    cases s with
    |nil=>rfl
    |cons b l=>
     rw[jP,List.length_map,wA (by simp)]at e
     simp at e
  refine zT (fun c=>⟨(),?_,trivial⟩) (fun c=>⟨(),?_,trivial⟩)
  ·have:¬s=[]:=by rw[hne];omega
   rw[qU,h3,decide_eq_true this,hn]
   simp only[Bool.true_and]
   congr 1
   simp only[eq_iff_iff];omega
  ·have:s=[]:=by rw[hne];omega
   rw[qU,this];rfl
theorem zPr:r3prodC.ok Tryz.prog 93:=zVs gok0 z1v
theorem hD:∀(l:List Int) (a:Int),l.foldl min a≤a∧∀x∈l,l.foldl min a≤x
 |[],a=>⟨Int.le_refl _,by simp⟩
 |b::l,a=>by
  obtain⟨h1,h2⟩:=hD l (min a b)
  rw[List.foldl_cons]
  refine⟨by omega,fun x hx=> ?_⟩
  rcases List.mem_cons.1 hx with rfl|hx
  ·omega
  ·exact h2 x hx
theorem gH:∀(l:List Int) (a:Int),a≤l.foldl max a∧∀x∈l,x≤l.foldl max a
 |[],a=>⟨Int.le_refl _,by simp⟩
 |b::l,a=>by
  obtain⟨h1,h2⟩:=gH l (max a b)
  rw[List.foldl_cons]
  refine⟨by omega,fun x hx=> ?_⟩
  rcases List.mem_cons.1 hx with rfl|hx
  ·omega
  ·exact h2 x hx
theorem cE:∀(l:List Int) (a:Int),l.foldl min a=a∨l.foldl min a∈l
 |[],a=> .inl rfl
 |b::l,a=>by
  rw[List.foldl_cons]
  rcases cE l (min a b)with h|h
  ·rcases Int.le_total a b with e|e
   ·left;rw[h];omega
   ·right;rw[h,show min a b=b by omega];exact List.mem_cons_self
  ·exact .inr (List.mem_cons_of_mem _ h)
theorem cF:∀(l:List Int) (a:Int),l.foldl max a=a∨l.foldl max a∈l
 |[],a=> .inl rfl
 |b::l,a=>by
  rw[List.foldl_cons]
  rcases cF l (max a b)with h|h
  ·rcases Int.le_total a b with e|e
   ·right;rw[h,show max a b=b by omega];exact List.mem_cons_self
   ·left;rw[h];omega
  ·exact .inr (List.mem_cons_of_mem _ h)
theorem z1n {l:List Int} {x:Int} (h:x∈l):gG l≤x:=by
 cases l with
 |nil=>cases h
 |cons a l=>
  rw[gG,List.tail_cons,List.headD_cons]
  rcases List.mem_cons.1 h with rfl|h
  ·exact(hD l x).1
  ·exact(hD l a).2 x h
theorem zZx {l:List Int} {x:Int} (h:x∈l):x≤g7 l:=by
 cases l with
 |nil=>cases h
 |cons a l=>
  rw[g7,List.tail_cons,List.headD_cons]
  rcases List.mem_cons.1 h with rfl|h
  ·exact(gH l x).1
  ·exact(gH l a).2 x h
theorem zEs {l:List Int} (h:l≠[]):gG l∈l:=by
 cases l with
 |nil=>exact absurd rfl h
 |cons a l=>
  rw[gG,List.tail_cons,List.headD_cons]
  rcases cE l a with h|h
  ·rw[h];exact List.mem_cons_self
  ·exact List.mem_cons_of_mem _ h
theorem zEx {l:List Int} (h:l≠[]):g7 l∈l:=by
 cases l with
 |nil=>exact absurd rfl h
 |cons a l=>
  rw[g7,List.tail_cons,List.headD_cons]
  rcases cF l a with h|h
  ·rw[h];exact List.mem_cons_self
  ·exact List.mem_cons_of_mem _ h
theorem zRz (p:Prd) (h:r5checkC.cnd p):pT p:=by
 obtain⟨h1,h2,h3⟩:p.small:=h
 unfold pT bG
 simp only[yX]
 refine⟨p.code,rfl,h1,fun _ _=>Cv.cnd.mk (fun c1=>⟨(),by rw[Prd.check,if_pos c1],trivial⟩) fun c1=> ?_⟩
 have c1:qU p.code=true:=by simpa using c1
 have e1:p.check=if !yU p.months then 1 else if !xK p then 22 else if xL p then 23 else if yW p then 1 else if xU p then 31 else if xE p then 24 else 0:=by
  rw[Prd.check,if_neg (by simp[c1])]
 refine⟨true,fun b=>b=(decide (p.months.length<2)||decide (p.months.length>6)),zT (fun c=>⟨true,rfl,?_,by(repeat'(first|exact trivial|exact rfl|apply And.intro))⟩) (fun c=>⟨_,rfl,?_,by(repeat'(first|exact trivial|exact rfl|apply And.intro))⟩),fun b hb=> ?_⟩
 ·rw[decide_eq_true (show p.months.length<2 by omega)];rfl
 ·rw[decide_eq_false (show ¬p.months.length<2 by omega),Bool.false_or]
  congr 1;simp only[eq_iff_iff];omega
 subst hb
 refine Cv.cnd.mk (fun c2=> ?_) (fun c2=> ?_)
 ·have:yU p.months=false:=by
   simp only[Bool.or_eq_true,decide_eq_true_eq]at c2
   rw[yU]
   rcases c2 with c2|c2
   ·rw[decide_eq_false (show ¬2≤p.months.length by omega)];simp
   ·rw[decide_eq_false (show ¬p.months.length≤6 by omega)];simp
  exact⟨(),by rw[e1,if_pos (by rw[this];rfl)],trivial⟩
 have c2:2≤p.months.length∧p.months.length≤6:=by
  simp only[Bool.or_eq_false_iff,decide_eq_false_iff_not]at c2;omega
 have em:yU p.months=(List.range p.months.length).all (xP p.months):=by
  rw[yU,decide_eq_true c2.1,decide_eq_true c2.2];simp
 refine⟨0,rfl,fun j=>j≤p.months.length∧∀k<j,xP p.months k=true,fun j=>p.months.length-j,⟨by omega,fun k hk=>by omega⟩,?_⟩
 rintro j ⟨g1,g2⟩
 refine zT (fun hj=> ?_) (fun hj=> ?_)
 ·obtain⟨m,hm⟩:=z8 (l:=p.months) (i:=j) (by omega)
  have hmj:p.months.getD j 0=m:=zP hm
  refine⟨true,fun b=>b= !xP p.months j,⟨⟨by omega,by omega⟩,m,elI hm,zT (fun c=>⟨true,rfl,?_,by(repeat'(first|exact trivial|exact rfl|apply And.intro))⟩) (fun c=>⟨⟨by omega,by omega⟩,m,elI hm,zT (fun d=>⟨true,rfl,?_,by(repeat'(first|exact trivial|exact rfl|apply And.intro))⟩) (fun d=>zT (fun e=> ?_) (fun e=>⟨false,rfl,?_,by(repeat'(first|exact trivial|exact rfl|apply And.intro))⟩))⟩)⟩,fun b hb=> ?_⟩
  ·rw[xP,hmj,decide_eq_false (show ¬0≤m by omega)];rfl
  ·rw[xP,hmj,decide_eq_false (show ¬m≤1199 by omega)];simp
  ·obtain⟨m',hm'⟩:=z8 (l:=p.months) (i:=j-1) (by omega)
   rw[w64 (by omega),show((j:Int)-1).toNat=j-1 by omega]
   refine⟨⟨by omega,by omega⟩,m',elI hm',⟨by omega,by omega⟩,m,elI hm,_,rfl,?_,by(repeat'(first|exact trivial|exact rfl|apply And.intro))⟩
   rw[xP,hmj,zP hm',decide_eq_true (show 0≤m by omega),decide_eq_true (show m≤1199 by omega),decide_eq_false (show ¬j=0 by omega)]
   simp only[Bool.true_and,Bool.false_or]
   by_cases hlt:m'<m
   ·rw[decide_eq_true hlt,decide_eq_false (by omega)];rfl
   ·rw[decide_eq_false hlt,decide_eq_true (by omega)];rfl
  ·rw[xP,hmj,decide_eq_true (show 0≤m by omega),decide_eq_true (show m≤1199 by omega),decide_eq_true (show j=0 by omega)];rfl
  ·subst hb
   refine Cv.cnd.mk (fun c=>⟨(),?_,trivial⟩) (fun c=>⟨j+1,by rw[w64 (by omega)];rfl,⟨by omega,fun k hk=> ?_⟩,by(first|omega|(dsimp only;omega)),by(repeat'(first|exact trivial|exact rfl|apply And.intro))⟩)
   ·have c:xP p.months j=false:=by simpa using c
    rw[e1,if_pos (by rw[em,lI (k:=j) (by omega) c];rfl)]
   ·have c:xP p.months j=true:=by simpa using c
    rcases Nat.lt_or_ge k j with h|h
    ·exact g2 k h
    ·obtain rfl:k=j:=by omega
     exact c
 have em:yU p.months=true:=by rw[em];exact zEg fun k hk=>g2 k (by omega)
 have e2:p.check=if !xK p then 22 else if xL p then 23 else if yW p then 1 else if xU p then 31 else if xE p then 24 else 0:=by
  rw[e1,if_neg (by simp[em])]
 have et:xK p=((decide (1≤p.tick) && decide (p.tick≤1000) && !xO p.tick p.low && !xO p.tick p.high && !xO p.tick p.wide) && !p.settle.any (xO p.tick)):=rfl
 refine⟨true,fun b=>b= !(decide (1≤p.tick) && decide (p.tick≤1000) && !xO p.tick p.low && !xO p.tick p.high && !xO p.tick p.wide),zT (fun d1=>⟨true,rfl,?_,by(repeat'(first|exact trivial|exact rfl|apply And.intro))⟩) (fun d1=>zT (fun d2=>⟨true,rfl,?_,by(repeat'(first|exact trivial|exact rfl|apply And.intro))⟩) (fun d2=>⟨trivial,by omega,Cv.cnd.mk (fun d3=>⟨true,rfl,?_,by(repeat'(first|exact trivial|exact rfl|apply And.intro))⟩) (fun d3=>⟨trivial,by omega,Cv.cnd.mk (fun d4=>⟨true,rfl,?_,by(repeat'(first|exact trivial|exact rfl|apply And.intro))⟩) (fun d4=>⟨trivial,by omega,_,rfl,?_,by(repeat'(first|exact trivial|exact rfl|apply And.intro))⟩)⟩)⟩)),fun b hb=> ?_⟩
 ·rw[decide_eq_false (show ¬1≤p.tick by omega)];rfl
 ·rw[decide_eq_false (show ¬p.tick≤1000 by omega)];simp
 ·have d3:xO p.tick p.low=true:=d3
  rw[d3];simp
 ·have d4:xO p.tick p.high=true:=d4
  rw[d4];simp
 ·have d3:xO p.tick p.low=false:=d3
  have d4:xO p.tick p.high=false:=d4
  rw[d3,d4,decide_eq_true (show 1≤p.tick by omega),decide_eq_true (show p.tick≤1000 by omega)]
  show xO p.tick p.wide=_
  simp
 subst hb
 refine Cv.cnd.mk (fun c3=> ?_) (fun c3=> ?_)
 ·have c3:(decide (1≤p.tick) && decide (p.tick≤1000) && !xO p.tick p.low && !xO p.tick p.high && !xO p.tick p.wide)=false:=by
   rw[Bool.not_eq_true']at c3
   exact c3
  exact⟨(),by rw[e2,if_pos (by rw[et,c3];rfl)],trivial⟩
 have c3:(decide (1≤p.tick) && decide (p.tick≤1000) && !xO p.tick p.low && !xO p.tick p.high && !xO p.tick p.wide)=true:=by simpa using c3
 have ht1:1≤p.tick:=by
  simp only[Bool.and_eq_true,decide_eq_true_eq]at c3;exact c3.1.1.1.1
 rw[c3,Bool.true_and]at et
 refine⟨0,rfl,fun j=>j≤p.settle.length∧∀k<j,∀x,p.settle[k]? =some x→xO p.tick x=false,fun j=>p.settle.length-j,⟨by omega,fun k hk=>by omega⟩,?_⟩
 rintro j ⟨g1,g2⟩
 refine zT (fun hj=> ?_) (fun hj=> ?_)
 ·obtain⟨m,hm⟩:=z8 (l:=p.settle) (i:=j) (by omega)
  refine⟨⟨by omega,by omega⟩,m,elI hm,trivial,by omega,Cv.cnd.mk (fun c=>⟨(),?_,trivial⟩) (fun c=>⟨j+1,by rw[w64 (by omega)];rfl,⟨by omega,fun k hk x hx=> ?_⟩,by(first|omega|(dsimp only;omega)),by(repeat'(first|exact trivial|exact rfl|apply And.intro))⟩)⟩
  ·have c:xO p.tick m=true:=c
   have:p.settle.any (xO p.tick)=true:=by rw[List.any_eq_true];exact⟨m,List.mem_of_getElem? hm,c⟩
   rw[e2,if_pos (by rw[et,this];rfl)]
  ·rcases Nat.lt_or_ge k j with h|h
   ·exact g2 k h x hx
   ·obtain rfl:k=j:=by omega
    rw[hm]at hx;cases hx;exact c
 have et:xK p=true:=by
  rw[et]
  have:p.settle.any (xO p.tick)=false:=by
   rw[List.any_eq_false]
   intro x hx
   obtain⟨k,hk⟩:=List.getElem?_of_mem hx
   rw[g2 k (by have:=(List.getElem?_eq_some_iff.1 hk).1;omega) x hk];simp
  rw[this];rfl
 have e3:p.check=if xL p then 23 else if yW p then 1 else if xU p then 31 else if xE p then 24 else 0:=by
  rw[e2,if_neg (by simp[et])]
 refine⟨true,fun b=>b=xL p,zT (fun d1=>⟨true,rfl,?_,by(repeat'(first|exact trivial|exact rfl|apply And.intro))⟩) (fun d1=>zT (fun d2=>⟨true,rfl,?_,by(repeat'(first|exact trivial|exact rfl|apply And.intro))⟩) (fun d2=>zT (fun d3=>⟨true,rfl,?_,by(repeat'(first|exact trivial|exact rfl|apply And.intro))⟩) (fun d3=>zT (fun d4=>⟨true,rfl,?_,by(repeat'(first|exact trivial|exact rfl|apply And.intro))⟩) (fun d4=>⟨_,rfl,?_,by(repeat'(first|exact trivial|exact rfl|apply And.intro))⟩)))),fun b hb=> ?_⟩
 ·simp[xL,d1]
 ·simp[xL,d2]
 ·simp[xL,d3]
 ·simp[xL,d4]
 ·rw[w64 (by omega)];simp[xL,d1,d2,d3,d4]
 subst hb
 refine Cv.cnd.mk (fun c4=>⟨(),by rw[e3,if_pos c4],trivial⟩) (fun c4=> ?_)
 have e4:p.check=if yW p then 1 else if xU p then 31 else if xE p then 24 else 0:=by
  rw[e3,if_neg (by simp[c4])]
 refine Cv.cnd.mk (fun d6=>⟨(),?_,trivial⟩) (fun d6=> ?_)
 ·have d6:¬(p.settle.length:Int)=p.months.length:=by simpa using d6
  rw[e4,if_pos (by simp[yW];omega)]
 have d6:p.settle.length=p.months.length:=by
  have:(p.settle.length:Int)=p.months.length:=by simpa using d6
  omega
 have hne:p.settle≠[]:=by intro e;rw[e]at d6;simp at d6;omega
 refine⟨0,rfl,fun j=>j≤p.settle.length∧∀k<j,∀x,p.settle[k]? =some x→p.low≤x∧x≤p.high,fun j=>p.settle.length-j,⟨by omega,fun k hk=>by omega⟩,?_⟩
 rintro j ⟨g3,g4⟩
 refine zT (fun hj=> ?_) (fun hj=> ?_)
 ·obtain⟨m,hm⟩:=z8 (l:=p.settle) (i:=j) (by omega)
  have hmm:=List.mem_of_getElem? hm
  refine⟨true,fun b=>b=(decide (m<p.low)||decide (m>p.high)),⟨⟨by omega,by omega⟩,m,elI hm,zT (fun c=>⟨true,rfl,?_,by(repeat'(first|exact trivial|exact rfl|apply And.intro))⟩) (fun c=>⟨⟨by omega,by omega⟩,m,elI hm,_,rfl,?_,by(repeat'(first|exact trivial|exact rfl|apply And.intro))⟩)⟩,fun b hb=> ?_⟩
  ·rw[decide_eq_true c];rfl
  ·rw[decide_eq_false c,Bool.false_or]
  ·subst hb
   refine Cv.cnd.mk (fun c=>⟨(),?_,trivial⟩) (fun c=>⟨j+1,by rw[w64 (by omega)];rfl,⟨by omega,fun k hk x hx=> ?_⟩,by(first|omega|(dsimp only;omega)),by(repeat'(first|exact trivial|exact rfl|apply And.intro))⟩)
   ·have l1:=z1n hmm
    have l2:=zZx hmm
    rw[e4,if_pos (by
     simp only[Bool.or_eq_true,decide_eq_true_eq]at c
     simp only[yW,Bool.or_eq_true,decide_eq_true_eq]
     rcases c with c|c
     ·left;right;omega
     ·right;omega)]
   ·rcases Nat.lt_or_ge k j with h|h
    ·exact g4 k h x hx
    ·obtain rfl:k=j:=by omega
     rw[hm]at hx;cases hx
     simp only[Bool.or_eq_false_iff,decide_eq_false_iff_not]at c
     omega
 have hset:yW p=false:=by
  have all:∀x∈p.settle,p.low≤x∧x≤p.high:=fun x hx=>by
   obtain⟨k,hk⟩:=List.getElem?_of_mem hx
   exact g4 k (by have:=(List.getElem?_eq_some_iff.1 hk).1;omega) x hk
  have a1:=all _ (zEs hne)
  have a2:=all _ (zEx hne)
  simp only[yW,Bool.or_eq_false_iff,decide_eq_false_iff_not]
  omega
 have e5:p.check=if xU p then 31 else if xE p then 24 else 0:=by
  rw[e4,if_neg (by simp[hset])]
 refine⟨true,fun b=>b=xU p,zT (fun d1=>⟨true,rfl,?_,by(repeat'(first|exact trivial|exact rfl|apply And.intro))⟩) (fun d1=>⟨_,rfl,?_,by(repeat'(first|exact trivial|exact rfl|apply And.intro))⟩),fun b hb=> ?_⟩
 ·simp[xU,d1]
 ·simp[xU,d1]
 subst hb
 refine Cv.cnd.mk (fun c6=>⟨(),by rw[e5,if_pos c6],trivial⟩) (fun c6=> ?_)
 have e6:p.check=if xE p then 24 else 0:=by rw[e5,if_neg (by simp[c6])]
 refine⟨true,fun b=>b=xE p,zT (fun d1=>⟨true,rfl,?_,by(repeat'(first|exact trivial|exact rfl|apply And.intro))⟩) (fun d1=>zT (fun d2=>⟨true,rfl,?_,by(repeat'(first|exact trivial|exact rfl|apply And.intro))⟩) (fun d2=>zT (fun d3=>⟨true,rfl,?_,by(repeat'(first|exact trivial|exact rfl|apply And.intro))⟩) (fun d3=>zT (fun d4=>⟨true,rfl,?_,by(repeat'(first|exact trivial|exact rfl|apply And.intro))⟩) (fun d4=>zT (fun d5=>⟨true,rfl,?_,by(repeat'(first|exact trivial|exact rfl|apply And.intro))⟩) (fun d5=>⟨_,rfl,?_,by(repeat'(first|exact trivial|exact rfl|apply And.intro))⟩))))),fun b hb=> ?_⟩
 ·simp[xE,d1]
 ·simp[xE,d2]
 ·simp[xE,d3]
 ·simp[xE,d4]
 ·simp[xE,d5]
 ·simp[xE,d1,d2,d3,d4,d5]
 subst hb
 exact Cv.cnd.mk (fun c7=>⟨(),by rw[e6,if_pos c7],trivial⟩) (fun c7=>⟨(),by rw[e6,if_neg (by simp[c7])],trivial⟩)
theorem rF:r5checkC.ok Tryz.prog 58:=zPp (gokc zPr gok0) zRz
theorem dV {p:Prd} (h:p.check=0):p.count=p.months.length+p.months.length*(p.months.length-1) / 2:=by rw[Prd.count,if_pos h]
theorem rR {p:Prd} (h:p.check≠0):p.count=0:=by rw[Prd.count,if_neg h]
theorem zVm (p:Prd) (h:r5countC.cnd p):tP p:=by
 have hs:p.small:=h
 unfold tP
 simp only[yX]
 refine⟨p,rfl,rfl,rfl,rfl,rfl,rfl,rfl,rfl,rfl,rfl,rfl,hs,fun _ _=>Cv.cnd.mk (fun c=>⟨(),?_,trivial⟩) (fun c=>⟨trivial,by decide,(),?_,trivial⟩)⟩
 ·rw[rR (by simpa using c)];rfl
 ·have c:p.check=0:=by simpa using c
  have m6:=(qB c).m6
  have m2:=(qB c).m2
  rw[dV c]
  generalize p.months.length=n at*
  have:n=2∨n=3∨n=4∨n=5∨n=6:=by omega
  rcases this with rfl|rfl|rfl|rfl|rfl<;>decide
theorem zJw:r5countC.ok Tryz.prog 26:=zPj (gokc rF gok0) zVm
theorem zUn:∀n≤6,∀a<n,∀b<n-1-a,xW n (zZ n a+b) n 0=((a:Int),((a+1+b:Nat):Int),true)∧zZ n a+b<n+n*(n-1) / 2∧n≤zZ n a+b:=by decide
theorem zOr:∀n≤6,zZ n n=n+n*(n-1) / 2:=by decide
theorem zZk {p:Prd} (h:p.check=0) {a b:Nat} (ha:a<p.months.length) (hb:b<p.months.length-1-a):p.legs ((zZ p.months.length a+b:Nat):Int)=((a:Int),((a+1+b:Nat):Int),true):=by
 obtain⟨h1,h2,h3⟩:=zUn _ (qB h).m6 a ha b hb
 rw[Prd.legs,if_neg (by rw[dV h];omega),if_neg (by omega),Int.toNat_natCast]
 exact h1
theorem zYg (i:h9) (h:r5legsC.cnd i):zDc i:=by
 have hs:i.p.small:=h
 unfold zDc
 simp only[yX]
 refine⟨i.p,rfl,rfl,rfl,rfl,rfl,rfl,rfl,rfl,rfl,rfl,rfl,hs,fun _ _=>Cv.cnd.mk (fun c=> ?_) (fun c=>zT (fun c1=> ?_) (fun c1=>zT (fun c2=> ?_) (fun c2=> ?_)))⟩
 ·rw[Prd.legs,if_pos (by rw[rR (by simpa using c)];omega)];(repeat'(first|exact rfl|exact trivial|assumption|apply And.intro|refine fun(_:Unit) (_:True)=>?_|refine Exists.intro () ?_|omega|(dsimp only;omega)))
 ·rw[Prd.legs,if_pos (.inl c1)];(repeat'(first|exact rfl|exact trivial|assumption|apply And.intro|refine fun(_:Unit) (_:True)=>?_|refine Exists.intro () ?_|omega|(dsimp only;omega)))
 ·have c:i.p.check=0:=by simpa using c
  rw[Prd.legs,if_neg (by rw[dV c];omega),if_pos c2];(repeat'(first|exact rfl|exact trivial|assumption|apply And.intro|refine fun(_:Unit) (_:True)=>?_|refine Exists.intro () ?_|omega|(dsimp only;omega)))
 ·have c:i.p.check=0:=by simpa using c
  have m6:=(qB c).m6
  obtain⟨k,hk⟩:∃k:Nat,i.n=k:=⟨i.n.toNat,by omega⟩
  have sp:=fun(a b:Nat) ha hb=>zZk (p:=i.p) c (a:=a) (b:=b) ha hb
  have fe:=zOr _ m6
  have out:i.p.count≤k→i.p.legs (k:Int)=(0,0,false):=fun e=>by rw[Prd.legs,if_pos (by omega)]
  rw[dV c,← fe]at out
  rw[hk]at c2 ⊢
  generalize hn:i.p.months.length=n at*
  refine⟨0,rfl,rfl,fun m=>m≤n∧zZ n m≤k,fun m=>n-m,⟨by omega,by show n≤k;omega⟩,?_⟩
  rintro m ⟨g1,g2⟩
  have hf:=tA m6 g1
  refine zT (fun c4=> ?_) (fun c4=> ?_)
  ·refine⟨(m,0),rfl,rfl,by rw[w64 (by omega)];simp,fun x=>x.1=m∧x.2≤n-1-m∧zZ n m+x.2≤k,fun x=>n-1-m-x.2,⟨rfl,by(first|omega|(dsimp only;omega)),by(first|omega|(dsimp only;omega))⟩,?_⟩
   rintro⟨a,b⟩ ⟨g3,g4,g5⟩
   dsimp only at g3 g4 g5 ⊢
   subst g3
   refine zT (fun c5=>Cv.cnd.mk (fun e=> ?_) (fun e=> ?_)) (fun c5=> ?_)
   ·have e:((zZ n a+b:Nat):Int)=(k:Int):=by simpa using e
    have:=sp a b (by omega) (by omega)
    rw[e]at this
    rw[this];(repeat'(first|exact rfl|exact trivial|assumption|apply And.intro|refine fun(_:Unit) (_:True)=>?_|refine Exists.intro () ?_|omega|(dsimp only;omega)))
   ·have e:¬((zZ n a+b:Nat):Int)=(k:Int):=by simpa using e
    refine⟨(a,b+1),?_,rfl,?_,⟨rfl,by(first|omega|(dsimp only;omega)),by(first|omega|(dsimp only;omega))⟩,by(first|omega|(dsimp only;omega)),by(repeat'(first|exact trivial|exact rfl|apply And.intro))⟩
    ·rw[w64 (by omega)];dsimp only;omega
    ·rw[w64 (by omega)];dsimp only;omega
   ·refine⟨a+1,?_,by rw[w64 (by omega)];rfl,⟨by omega,?_⟩,by(first|omega|(dsimp only;omega)),by(repeat'(first|exact trivial|exact rfl|apply And.intro))⟩
    ·rw[zZ];omega
    ·rw[zZ];omega
  ·obtain rfl:m=n:=by omega
   rw[out g2];(repeat'(first|exact rfl|exact trivial|assumption|apply And.intro|refine fun(_:Unit) (_:True)=>?_|refine Exists.intro () ?_|omega|(dsimp only;omega)))
theorem zOh:r5legsC.ok Tryz.prog 27:=zUi (gokc rF gok0) zYg
theorem zGl (x:Prd):1≤z9 x∧z9 x≤10:=by
 have:=yY (n:=x.tick) (lo:=0) (hi:=9) (by omega)
 rw[z9];omega
theorem zWq (x:Prd):2≤kN x∧kN x≤5:=by
 have:=yY (n:=(x.months.length:Int)) (lo:=0) (hi:=3) (by omega)
 rw[kN];omega
theorem zBm {a b m n:Int} (ha:0≤a∧a≤m) (hb:0≤b∧b≤n):0≤a*b∧a*b≤m*n:=by
 refine⟨Int.mul_nonneg ha.1 hb.1,?_⟩
 exact Int.le_trans (Int.mul_le_mul_of_nonneg_right ha.2 hb.1) (Int.mul_le_mul_of_nonneg_left hb.2 (by omega))
theorem zDp (j:Nat):iE (qM (j+1))=iE (qM j)++[[D.v (.int .i64 (10*(j:Int)+3))]]:=by
 rw[qM,List.range_succ,List.map_append,iE,List.map_append];rfl
theorem zEa (t:Int) (j:Nat):iE (xV t (j+1))=iE (xV t j)++[[D.v (.int .i64 (t*(10+(j:Int))))]]:=by
 rw[xV,List.range_succ,List.map_append,iE,List.map_append];rfl
theorem fC (j:Nat):(qM j).length=j:=by simp[qM]
theorem v9 (t:Int) (j:Nat):(xV t j).length=j:=by simp[xV]
theorem z6y (x:Prd) (h:kprodC.cnd x):zKs x:=by
 obtain⟨h1,h2,h3,h4,h5,h6,h7⟩:x.raw:=h
 have hw: -1000000≤(0:Int):=by decide
 have bt:=yY (n:=x.tick) (lo:=0) (hi:=9) (by omega)
 have bw:=yY (n:=x.wide) (lo:=0) (hi:=60) (by omega)
 have br:=yY (n:=x.rule) (lo:=0) (hi:=2) (by omega)
 have bl:=yY (n:=x.least) (lo:=0) (hi:=4) (by omega)
 have bn:=yY (n:=(x.months.length:Int)) (lo:=0) (hi:=3) (by omega)
 have kt:=zGl x
 have kn:=zWq x
 have w1:IntKind.i64.wrap (1+zD x.tick 0 9)=z9 x:=w64 (by omega)
 have w2:IntKind.i64.wrap (-20*IntKind.i64.wrap (1+zD x.tick 0 9))= -20*z9 x:=by rw[w1];exact w64 (by omega)
 have w3:IntKind.i64.wrap (100*IntKind.i64.wrap (1+zD x.tick 0 9))=100*z9 x:=by rw[w1];exact w64 (by omega)
 have w4:IntKind.i64.wrap (1+zD x.rule 0 2)=1+zD x.rule 0 2:=w64 (by omega)
 have w5:IntKind.i64.wrap (1+zD x.least 0 4)=1+zD x.least 0 4:=w64 (by omega)
 have w6:IntKind.i64.wrap (2+zD x.months.length 0 3)=kN x:=w64 (by omega)
 have mb:=zBm (a:=z9 x) (b:=5+zD x.wide 0 60) (m:=10) (n:=65) (by omega) (by omega)
 have w7:IntKind.i64.wrap (IntKind.i64.wrap (1+zD x.tick 0 9)*IntKind.i64.wrap (5+zD x.wide 0 60))=z9 x*(5+zD x.wide 0 60):=by
  rw[w1,w64 (x:=5+zD x.wide 0 60) (by omega)];exact w64 (by omega)
 unfold zKs rI aC
 simp only[yX]
 refine⟨⟨x.months.length,0,3⟩,rfl,rfl,rfl,⟨⟨by dsimp only;omega,by dsimp only;omega⟩,by dsimp only;omega,by dsimp only;omega,by dsimp only;omega⟩,fun _ _=>⟨⟨x.tick,0,9⟩,rfl,rfl,rfl,⟨h1,by dsimp only;omega,by dsimp only;omega,by dsimp only;omega⟩,fun _ _=> ?_⟩⟩
 dsimp only
 refine⟨(),fun _=>True,?_,fun _ _=> ?_⟩
 ·repeat'(first|exact trivial|exact rfl|exact w1.symm|exact w2.symm|exact w3.symm|exact w4.symm|exact w5.symm|apply And.intro|refine⟨⟨x.rule,0,2⟩,rfl,rfl,rfl,⟨h3,by dsimp only;omega,by dsimp only;omega,by dsimp only;omega⟩,fun _ _=> ?_⟩|refine⟨⟨x.top,0,9⟩,rfl,rfl,rfl,⟨h4,by dsimp only;omega,by dsimp only;omega,by dsimp only;omega⟩,fun _ _=> ?_⟩|refine⟨⟨x.least,0,4⟩,rfl,rfl,rfl,⟨h5,by dsimp only;omega,by dsimp only;omega,by dsimp only;omega⟩,fun _ _=> ?_⟩|refine⟨⟨x.part,0,100⟩,rfl,rfl,rfl,⟨h6,by dsimp only;omega,by dsimp only;omega,by dsimp only;omega⟩,fun _ _=> ?_⟩|refine⟨(),?_⟩)
 ·refine⟨⟨x.wide,0,60⟩,rfl,rfl,rfl,⟨h2,by dsimp only;omega,by dsimp only;omega,by dsimp only;omega⟩,fun _ _=> ?_⟩
  dsimp only
  rw[w7,w6]
  refine⟨0,by(first|exact rfl|exact trivial),by(first|exact rfl|exact trivial),by(first|exact rfl|exact trivial),by(first|exact rfl|exact trivial),by(first|exact rfl|exact trivial),by(first|exact rfl|exact trivial),by(first|exact rfl|exact trivial),by(first|exact rfl|exact trivial),by(first|exact rfl|exact trivial),by(first|exact rfl|exact trivial),by(first|exact rfl|exact trivial),by(first|exact rfl|exact trivial),fun j=>j≤(kN x).toNat,fun j=>(kN x).toNat-j,by omega,?_⟩
  intro j hj
  rw[fC,v9]
  refine zT (fun c=>⟨by omega,by omega,j+1,by rw[w64 (by omega)];rfl,by(first|exact rfl|exact trivial),by(first|exact rfl|exact trivial),by(first|exact rfl|exact trivial),by(first|exact rfl|exact trivial),by(first|exact rfl|exact trivial),by(first|exact rfl|exact trivial),by(first|exact rfl|exact trivial),by(first|exact rfl|exact trivial),by(first|exact rfl|exact trivial),?_,?_,by(first|omega|(dsimp only;omega)),by(first|omega|(dsimp only;omega)),by(repeat'(first|exact trivial|exact rfl|apply And.intro))⟩) (fun c=>⟨(),?_⟩)
  ·rw[zDp,w64 (x:=10*(j:Int)) (by omega),w64 (by omega)]
  ·have mj:=zBm (a:=z9 x) (b:=10+(j:Int)) (m:=10) (n:=20) (by omega) (by omega)
   rw[zEa,w1,w64 (x:=10+(j:Int)) (by omega),w64 (by omega)]
  ·have e:(kN x).toNat=j:=by omega
   rw[e];(repeat'(first|exact trivial|exact rfl|apply And.intro))
theorem kprod_ok:kprodC.ok Tryz.prog 8:=zZh (gokc lF gok0) z6y
open Go Cv Go.Proofs
structure Cmd where
 kind:Int
 id:Int
 inst:Int
 side:Int
 price:Int
 qty:Int
 least:Int
 time:Int
 label:List UInt8
 deriving DecidableEq
@[reducible] def Cmd.cells (c:Cmd):List V:=[zE c.kind,zE c.id,zE c.inst,zE c.side,zE c.price,zE c.qty,zE c.least,zE c.time,sV c.label]
@[reducible] def Cmd.raw (c:Cmd):Prop:=yM c.kind∧yM c.id∧yM c.inst∧yM c.side∧yM c.price∧yM c.qty∧yM c.least∧yM c.time
structure TmI where
 p:Prd
 c:Cmd
 i:Int
structure AbI where
 x:Prd
 l:List Cmd
def Top.pr (t:Top) (s:Nat):Int:=if s=0 then t.p1 else t.p2
def Top.hs (t:Top) (s:Nat):Bool:=if s=0 then t.has1 else t.has2
structure B2 where
 a:Bool
 b:Bool
open Go Cv Go.Proofs
open Go Cv Go.Proofs
open Go Cv Go.Proofs
structure ShI where
 a:Int
 b:Int
 c:Int
def add64C:Con:=con1 ShI (fun i=>[bH i.a,bH i.b,bH i.c]) (fun _=>[]) (fun i=>0≤i.a∧0≤i.b∧0≤i.c∧i.c≤1) (fun i=> .tup [bH ((i.a+i.b+i.c) % 18446744073709551616),bH ((i.a+i.b+i.c) / 18446744073709551616)]) (fun _=>[])
theorem zPh {P : Program} {f : FuncId} {fn : Func} (hf : P.funcs[f]? = some fn) (hname : (fn.name == "runtime.NumGoroutine") = false) (hb : fn.body.isNone = true) (hn : Extern.findNext fn = none) (he : Extern.find fn = some add64Entry) : add64C.ok P f := by
 intro i hc k L E w ys R hv
 obtain⟨h1,h2,h3,h4⟩:0≤i.a∧0≤i.b∧0≤i.c∧i.c≤1:=hc
 simp only[add64C,con1,VRL,VR,DR]at hv
 obtain⟨_,_,rfl,⟨rfl,_⟩,_,_,rfl,⟨rfl,_⟩,_,_,rfl,⟨rfl,_⟩,rfl⟩:=hv
 unfold Does
 rw[run_callFunc_extern hf hname hb hn he,run_add64 i.a i.b i.c h1 h2 h3 h4]
 simp only[Result.andThen]
 refine⟨_,List.mem_singleton.2 rfl,(),trivial,E,Ev.le.refl _,?_,R⟩
 simp only[add64C,con1,VR,VRL,DR]
 exact⟨_,rfl,_,_,rfl,⟨rfl,rfl⟩,_,_,rfl,⟨rfl,rfl⟩,rfl⟩
theorem zOt:add64C.ok Tryz.prog 159:=zPh Tryz.func159 (by kernel_rfl) (by kernel_rfl) (by kernel_rfl) (by kernel_rfl)
structure M2 where
 a:Int
 b:Int
def mul64C:Con:=con1 M2 (fun i=>[bH i.a,bH i.b]) (fun _=>[]) (fun i=>0≤i.a∧i.a≤2000000000∧0≤i.b∧i.b≤2000000000) (fun i=> .tup [bH 0,bH (i.a*i.b)]) (fun _=>[])
def div64C:Con:=con1 M2 (fun i=>[bH 0,bH i.a,bH i.b]) (fun _=>[]) (fun i=>0≤i.a∧i.a≤4000000000000000000∧1≤i.b∧i.b≤2000000000) (fun i=> .tup [bH (i.a / i.b),bH (i.a % i.b)]) (fun _=>[])
def ishareC:Con:=con1 ShI (fun i=>[zE i.a,zE i.b,zE i.c]) (fun _=>[]) (fun i=>0≤i.a∧i.a≤2000000000∧0≤i.b∧i.b≤2000000000∧1≤i.c∧i.c≤2000000000) (fun i=> .tup [zE (i.a*i.b / i.c),yN true]) (fun _=>[])
def isumC:Con:=con1 (List Int) (fun l=>[iV l]) (fun _=>[]) (fun l=>l.length≤1000∧∀x∈l,0≤x∧x≤1000000) (fun l=> .tup [zE l.sum,yN true]) (fun _=>[])
def z8x (l:List Int):List SAnn:=[{ι:=Nat,slots:=fun j=>[(4,bH (l.take j).sum),(5,zE 0),(11,zE j)],rows:=fun _=>[]}]
structure LqI where
 l:List Int
 q:Int
def yH (l:List Int) (q:Int):Bool:=decide (l.length≤250) && decide (0≤q) && l.all (fun n=>decide (1≤n) && decide (n≤1000000)) && decide (q≤l.sum)
def rightC:Con:=con1 LqI (fun i=>[iV i.l,zE i.q]) (fun _=>[]) (fun i=>i.l.length≤1000000∧yM i.q) (fun i=>yN (yH i.l i.q)) (fun _=>[])
def z3b (i:LqI):List SAnn:=[{ι:=Nat,slots:=fun j=>[(5,zE (i.l.take j).sum),(17,zE j)],rows:=fun _=>[]}]
def x0:List Int→Int→List Int
 |[],_=>[]
 |n::l,q=>min n q::x0 l (q-min n q)
def jS (l:List Int) (q:Int):List Int:=if yH l q=true then x0 l q else[]
def fifoC:Con:=con1 LqI (fun i=>[iV i.l,zE i.q]) (fun _=>[]) (fun i=>i.l.length≤1000000∧yM i.q) (fun _=> .own 0) (fun i=>[.own 2 1 (iE (jS i.l i.q))])
def z7z (i:LqI):List SAnn:=[{ι:=Nat,slots:=fun j=>[(5,.own 0),(1,zE (i.q-((x0 i.l i.q).take j).sum)),(15,zE j)],rows:=fun j=>[.own 2 1 (iE ((x0 i.l i.q).take j))]}]
open Go Cv Go.Proofs
def zKr (i:M2):Prop:=
 (0:Int)≤(32:Int)∧(0:Int)≤(32:Int)∧(0:Int)≤(32:Int)∧(0:Int)≤(32:Int)∧(0:Int)≤(32:Int)∧∃(o:Unit),0=IntKind.u64.wrap (IntKind.u64.wrap (IntKind.u64.wrap (u9 IntKind.u64 i.a 32*u9 IntKind.u64 i.b 32)+u9 IntKind.u64 (IntKind.u64.wrap (IntKind.u64.wrap (u9 IntKind.u64 i.a 32*cU IntKind.u64 i.b 4294967295)+u9 IntKind.u64 (IntKind.u64.wrap (cU IntKind.u64 i.a 4294967295*cU IntKind.u64 i.b 4294967295)) 32)) 32)+u9 IntKind.u64 (IntKind.u64.wrap (cU IntKind.u64 (IntKind.u64.wrap (IntKind.u64.wrap (u9 IntKind.u64 i.a 32*cU IntKind.u64 i.b 4294967295)+u9 IntKind.u64 (IntKind.u64.wrap (cU IntKind.u64 i.a 4294967295*cU IntKind.u64 i.b 4294967295)) 32)) 4294967295+IntKind.u64.wrap (cU IntKind.u64 i.a 4294967295*u9 IntKind.u64 i.b 32))) 32)∧i.a*i.b=IntKind.u64.wrap (i.a*i.b)∧True
theorem z1f (hG:GOk Tryz.prog ([])) (h:∀(i:M2),mul64C.cnd i→zKr i):mul64C.ok Tryz.prog 145:=okw mixed hG 0 (fun _=>[]) (fun _=>[]) [] Tryz.func145 h
def zIi (i:M2):Prop:=
 cnd (i.b==0) False (cnd (decide (i.b≤0)) False (IntKind.u64=IntKind.u64∧i.b≠0∧IntKind.u64=IntKind.u64∧i.b≠0∧∃(o:Unit),i.a / i.b=IntKind.u64.wrap (i.a.tdiv i.b)∧i.a % i.b=i.a.tmod i.b∧True))
theorem zZz (hG:GOk Tryz.prog ([])) (h:∀(i:M2),div64C.cnd i→zIi i):div64C.ok Tryz.prog 146:=okw mixed hG 0 (fun _=>[]) (fun _=>[]) [] Tryz.func146 h
def zDe (i:ShI):Prop:=
 cnd (decide (i.a<0)) (∃(o:Unit),i.a*i.b / i.c=0∧true=false∧True) (cnd (decide (i.b<0)) (∃(o:Unit),i.a*i.b / i.c=0∧true=false∧True) (cnd (decide (i.c<1)) (∃(o:Unit),i.a*i.b / i.c=0∧true=false∧True) (∃(i_1:M2),i_1.a=IntKind.u64.wrap i.a∧i_1.b=IntKind.u64.wrap i.b∧(0≤i_1.a∧i_1.a≤(2000000000:Int)∧(0:Int)≤i_1.b∧i_1.b≤2000000000)∧∀(o:Unit),True→cnd (decide (0≥IntKind.u64.wrap i.c)) (∃(o:Unit),i.a*i.b / i.c=0∧true=false∧True) (∃(i_2:M2),(0:Int)=(0:Int)∧i_2.a=i_1.a*i_1.b∧i_2.b=IntKind.u64.wrap i.c∧(0≤i_2.a∧i_2.a≤(4000000000000000000:Int)∧(1:Int)≤i_2.b∧i_2.b≤2000000000)∧∀(o:Unit),True→cnd (decide (i_2.a / i_2.b>9223372036854775807)) (∃(o:Unit),i.a*i.b / i.c=0∧true=false∧True) (∃(o:Unit),i.a*i.b / i.c=IntKind.i64.wrap (i_2.a / i_2.b)∧true=true∧True)))))
theorem zUk (hG:GOk Tryz.prog ([(145,mul64C),(146,div64C)])) (h:∀(i:ShI),ishareC.cnd i→zDe i):ishareC.ok Tryz.prog 133:=okw mixed hG 0 (fun _=>[]) (fun _=>[]) [] Tryz.func133 h
def zVw (l:List Int):Prop:=
 ∃(i0:Nat),(List.take i0 l).sum=(0:Int)∧(0:Int)=0∧(↑i0:Int)=0∧∃(I:Nat→Prop),∃(μ:Nat→Nat),I i0∧∀(i:Nat),I i→cnd (decide ((↑i:Int)<(↑(iE l).length:Int))) ((0≤(↑i:Int)∧(↑i:Int)<(↑(iE l).length:Int))∧∃(n:Int),zI (iE l) (↑i:Int).toNat 0 1=some [D.v (.int .i64 n)]∧∃(i_1:ShI),i_1.a=(List.take i l).sum∧i_1.b=IntKind.u64.wrap n∧i_1.c=0∧(0≤i_1.a∧0≤i_1.b∧0≤i_1.c∧i_1.c≤1)∧∀(o:Unit),True→(0:Int)≤(63:Int)∧∃(i':Nat),(List.take i' l).sum=(i_1.a+i_1.b+i_1.c) % (18446744073709551616:Int)∧(0:Int)=IntKind.i64.wrap (0+IntKind.i64.wrap (u9 IntKind.i64 n 63+IntKind.i64.wrap ((i_1.a+i_1.b+i_1.c) / (18446744073709551616:Int))))∧(↑i':Int)=IntKind.i64.wrap ((↑i:Int)+1)∧I i'∧μ i'<μ i∧True) ((0:Int)≤(63:Int)∧cnd (0 !=u9 IntKind.i64 (IntKind.i64.wrap (List.take i l).sum) 63) (∃(o:Unit),l.sum=0∧true=false∧True) (∃(o:Unit),l.sum=IntKind.i64.wrap (List.take i l).sum∧true=true∧True))
theorem z5d (hG:GOk Tryz.prog ([(159,add64C)])) (h:∀(l:List Int),isumC.cnd l→zVw l):isumC.ok Tryz.prog 156:=okw mixed hG 0 (fun _=>[]) (fun l=>z8x l) [] Tryz.func156 h
def zJr (i:LqI):Prop:=
 cnd (decide ((↑(iE i.l).length:Int)>250)) (∃(o:Unit),yH i.l i.q=false∧True) (cnd (decide (i.q<0)) (∃(o:Unit),yH i.l i.q=false∧True) (∃(i0:Nat),(List.take i0 i.l).sum=0∧(↑i0:Int)=0∧∃(I:Nat→Prop),∃(μ:Nat→Nat),I i0∧∀(i_1:Nat),I i_1→cnd (decide ((↑i_1:Int)<(↑(iE i.l).length:Int))) ((0≤(↑i_1:Int)∧(↑i_1:Int)<(↑(iE i.l).length:Int))∧∃(n:Int),zI (iE i.l) (↑i_1:Int).toNat 0 1=some [D.v (.int .i64 n)]∧cnd (decide (n<1)) (∃(o:Unit),yH i.l i.q=false∧True) (cnd (decide (n>1000000)) (∃(o:Unit),yH i.l i.q=false∧True) (∃(i':Nat),(List.take i' i.l).sum=IntKind.i64.wrap ((List.take i_1 i.l).sum+n)∧(↑i':Int)=IntKind.i64.wrap ((↑i_1:Int)+1)∧I i'∧μ i'<μ i_1∧True))) (∃(o:Unit),yH i.l i.q=decide (i.q≤(List.take i_1 i.l).sum)∧True)))
theorem z1d (hG:GOk Tryz.prog ([])) (h:∀(i:LqI),rightC.cnd i→zJr i):rightC.ok Tryz.prog 131:=okw mixed hG 0 (fun _=>[]) (fun i=>z3b i) [] Tryz.func131 h
def zTv (i:LqI):Prop:=
 ∃(i_1:LqI),iE i_1.l=iE i.l∧i_1.q=i.q∧(i_1.l.length≤(1000000:Nat)∧(-9223372036854775808:Int)≤i_1.q∧i_1.q≤9223372036854775807)∧∀(o:Unit),True→cnd (!yH i_1.l i_1.q) (∃(o:Unit),iE (jS i.l i.q)=[]∧True) (∃(i0:Nat),i.q-(List.take i0 (x0 i.l i.q)).sum=i.q∧(↑i0:Int)=0∧iE (List.take i0 (x0 i.l i.q))=[]∧∃(I:Nat→Prop),∃(μ:Nat→Nat),I i0∧∀(i_2:Nat),I i_2→cnd (decide ((↑i_2:Int)<(↑(iE i.l).length:Int))) ((0≤(↑i_2:Int)∧(↑i_2:Int)<(↑(iE i.l).length:Int))∧∃(n:Int),zI (iE i.l) (↑i_2:Int).toNat 0 1=some [D.v (.int .i64 n)]∧((iE (List.take i_2 (x0 i.l i.q))).length+1)*(8:Nat)≤(70368744177664:Nat)∧∃(i':Nat),i.q-(List.take i' (x0 i.l i.q)).sum=IntKind.i64.wrap (i.q-(List.take i_2 (x0 i.l i.q)).sum-min n (i.q-(List.take i_2 (x0 i.l i.q)).sum))∧(↑i':Int)=IntKind.i64.wrap ((↑i_2:Int)+1)∧iE (List.take i' (x0 i.l i.q))=iE (List.take i_2 (x0 i.l i.q))++[[D.v (.int .i64 (min n (i.q-(List.take i_2 (x0 i.l i.q)).sum)))]]∧I i'∧μ i'<μ i_2∧True) (∃(o:Unit),iE (jS i.l i.q)=iE (List.take i_2 (x0 i.l i.q))∧True))
theorem z3j (hG:GOk Tryz.prog ([(131,rightC)])) (h:∀(i:LqI),fifoC.cnd i→zTv i):fifoC.ok Tryz.prog 105:=okw mixed hG 0 (fun _=>[]) (fun i=>z7z i) [] Tryz.func105 h
open Go Cv Go.Proofs
theorem zCg {x:Int} (h0:0≤x) (h1:x<4294967296):cU .u64 x 4294967295=x:=by
 have e:cU .u64 x 4294967295=IntKind.u64.wrap ((BitVec.ofInt 64 x &&& BitVec.ofInt 64 4294967295).toNat:Int):=rfl
 obtain⟨n,rfl⟩:=Int.eq_ofNat_of_zero_le h0
 have hn:n<4294967296:=by omega
 rw[e,BitVec.toNat_and,BitVec.ofInt_natCast,BitVec.toNat_ofNat,show(BitVec.ofInt 64 4294967295).toNat=2 ^ 32-1 by decide,Nat.and_two_pow_sub_one_eq_mod]
 rw[show n % 2 ^ 64 % 2 ^ 32=n by omega,tQ (by omega)]
theorem pM {x:Int} (h0:0≤x) (h1:x<4294967296):u9 .u64 x 32=0:=by
 have:=pS .u64 x 32 (by decide)
 rw[show((32:Nat):Int)=32 by rfl]at this
 rw[this];omega
theorem zLx {a b m n:Int} (ha:0≤a∧a≤m) (hb:0≤b∧b≤n):0≤a*b∧a*b≤m*n:=
 ⟨Int.mul_nonneg ha.1 hb.1,Int.mul_le_mul ha.2 hb.2 hb.1 (by omega)⟩
theorem z3h (i:M2) (h:mul64C.cnd i):zKr i:=by
 obtain⟨h1,h2,h3,h4⟩:0≤i.a∧i.a≤2000000000∧0≤i.b∧i.b≤2000000000:=h
 have hm:=zLx ⟨h1,h2⟩ ⟨h3,h4⟩
 have hs:u9 IntKind.u64 (i.a*i.b) 32=(i.a*i.b) / 4294967296:=by
  have:=pS .u64 (i.a*i.b) 32 (by decide)
  rw[show((32:Nat):Int)=32 by rfl]at this
  exact this
 unfold zKr
 refine⟨by decide,by decide,by decide,by decide,by decide,(),?_,?_,trivial⟩
 ·rw[zCg h1 (by omega),zCg h3 (by omega),pM h1 (by omega),pM h3 (by omega),tQ (x:=i.a*i.b) (by omega),hs]
  simp only[Int.zero_mul,Int.mul_zero,Int.zero_add,Int.add_zero]
  rw[tQ (x:=0) (by omega)]
  simp only[Int.zero_add,Int.add_zero]
  rw[tQ (x:=i.a*i.b / 4294967296) (by omega),pM (x:=i.a*i.b / 4294967296) (by omega) (by omega),zCg (x:=i.a*i.b / 4294967296) (by omega) (by omega),tQ (x:=i.a*i.b / 4294967296) (by omega),pM (x:=i.a*i.b / 4294967296) (by omega) (by omega)]
  rfl
 ·rw[tQ (by omega)]
theorem zVg:mul64C.ok Tryz.prog 145:=z1f gok0 z3h
theorem z3v (i:M2) (h:div64C.cnd i):zIi i:=by
 obtain⟨h1,h2,h3,h4⟩:0≤i.a∧i.a≤4000000000000000000∧1≤i.b∧i.b≤2000000000:=h
 unfold zIi
 have hd:0≤i.a / i.b∧i.a / i.b≤i.a:=⟨Int.ediv_nonneg h1 (by omega),Int.ediv_le_self _ h1⟩
 refine Cv.cnd.mk (fun c=>absurd (eq_of_beq c) (by omega)) (fun _=>zT (fun c=>by omega) (fun _=>⟨rfl,by omega,rfl,by omega,(),?_,?_,trivial⟩))
 ·rw[Int.tdiv_eq_ediv_of_nonneg h1,tQ (by omega)]
 ·rw[Int.tmod_eq_emod_of_nonneg h1]
theorem zXe:div64C.ok Tryz.prog 146:=zZz gok0 z3v
theorem z1i (i:ShI) (h:ishareC.cnd i):zDe i:=by
 obtain⟨h1,h2,h3,h4,h5,h6⟩:0≤i.a∧i.a≤2000000000∧0≤i.b∧i.b≤2000000000∧1≤i.c∧i.c≤2000000000:=h
 have hm:=zLx ⟨h1,h2⟩ ⟨h3,h4⟩
 have hd:0≤i.a*i.b / i.c∧i.a*i.b / i.c≤i.a*i.b:=⟨Int.ediv_nonneg hm.1 (by omega),Int.ediv_le_self _ hm.1⟩
 unfold zDe
 rw[tQ (x:=i.a) (by omega),tQ (x:=i.b) (by omega),tQ (x:=i.c) (by omega)]
 refine zT (fun c=>by omega) (fun _=>zT (fun c=>by omega) (fun _=>zT (fun c=>by omega) (fun _=>⟨⟨i.a,i.b⟩,rfl,rfl,⟨h1,h2,h3,h4⟩,fun _ _=>zT (fun c=>by omega) (fun _=>⟨⟨i.a*i.b,i.c⟩,rfl,rfl,rfl,⟨hm.1,by dsimp only;omega,h5,h6⟩,fun _ _=>zT (fun c=>by dsimp only at c;omega) (fun _=>⟨(),?_,rfl,trivial⟩)⟩)⟩)))
 rw[w64 (by dsimp only;omega)]
theorem zAm:ishareC.ok Tryz.prog 133:=zUk (gokc zVg (gokc zXe gok0)) z1i
theorem wjn {j:Nat} (h:j≤1000000):((j+1:Nat):Int)=IntKind.i64.wrap ((j:Int)+1):=by rw[w64 (by omega)];rfl
theorem qN {l:List Int} {j:Nat} {x:Int} (h:l[j]? =some x):(l.take (j+1)).sum=(l.take j).sum+x:=by
 rw[List.take_add_one,h];simp
theorem qK {l:List Int} (h:∀x∈l,0≤x∧x≤1000000):∀j:Nat,0≤(l.take j).sum∧(l.take j).sum≤1000000*j
 |0=>by simp
 |j+1=>by
  have ih:=qK h j
  cases hx:l[j]? with
  |none=>
   have:l.take (j+1)=l.take j:=by
    rw[List.take_add_one,hx];simp
   rw[this];omega
  |some x=>
   have:=h x (List.mem_of_getElem? hx)
   rw[qN hx];omega
theorem z9o (l:List Int) (h:isumC.cnd l):zVw l:=by
 obtain⟨hl,hb⟩:l.length≤1000∧∀x∈l,0≤x∧x≤1000000:=h
 unfold zVw
 simp only[yX]
 refine⟨0,by(first|exact rfl|exact trivial),by(first|exact rfl|exact trivial),by(first|exact rfl|exact trivial),fun j=>j≤l.length,fun j=>l.length-j,Nat.zero_le _,fun j hj=>zT (fun c=> ?_) (fun c=> ?_)⟩
 ·have hj':j<l.length:=by omega
  obtain⟨x,hx⟩:=z8 (l:=l) (i:=j) hj'
  have bx:=hb x (List.mem_of_getElem? hx)
  have bs:=qK hb j
  refine⟨⟨by omega,by omega⟩,x,elI hx,⟨(l.take j).sum,x,0⟩,rfl,by rw[tQ (by omega)],rfl,⟨bs.1,bx.1,by dsimp only;omega,by dsimp only;omega⟩,fun _ _=>⟨by decide,j+1,?_,?_,wjn (by omega),hj',by dsimp only;omega,trivial⟩⟩
  ·rw[qN hx];dsimp only;omega
  ·have e:u9 IntKind.i64 x 63=x / 9223372036854775808:=by
    have:=pS .i64 x 63 (by decide)
    rw[show((63:Nat):Int)=63 by rfl]at this
    exact this
   dsimp only
   rw[e,show x / 9223372036854775808=0 by omega,show((l.take j).sum+x+0) / 18446744073709551616=0 by omega]
   rfl
 ·have hj':j=l.length:=by omega
  subst hj'
  have bs:=qK hb l.length
  rw[List.take_length]at bs
  have e:u9 IntKind.i64 l.sum 63=l.sum / 9223372036854775808:=by
   have:=pS .i64 l.sum 63 (by decide)
   rw[show((63:Nat):Int)=63 by rfl]at this
   exact this
  rw[List.take_length,w64 (x:=l.sum) (by omega),e,show l.sum / 9223372036854775808=0 by omega]
  exact⟨by decide,Cv.cnd.mk (fun c=>absurd c (by decide)) (fun _=>⟨(),by(first|exact rfl|exact trivial),by(first|exact rfl|exact trivial),trivial⟩)⟩
theorem zZg:isumC.ok Tryz.prog 156:=z5d (gokc zOt gok0) z9o
theorem z3y (i:LqI) (h:rightC.cnd i):zJr i:=by
 obtain⟨hl,hq⟩:i.l.length≤1000000∧yM i.q:=h
 unfold zJr
 simp only[yX]
 refine zT (fun c=>⟨(),?_,trivial⟩) (fun c1=>zT (fun c=>⟨(),?_,trivial⟩) (fun c2=> ?_))
 ·rw[yH,decide_eq_false (by omega:¬i.l.length≤250)];rfl
 ·rw[yH,decide_eq_false (by omega:¬0≤i.q)];simp
 refine⟨0,by(first|exact rfl|exact trivial),by(first|exact rfl|exact trivial),fun j=>j≤i.l.length∧∀k<j,∀x,i.l[k]? =some x→1≤x∧x≤1000000,fun j=>i.l.length-j,⟨Nat.zero_le _,fun k hk=>absurd hk (Nat.not_lt_zero k)⟩,fun j hj=>zT (fun c=> ?_) (fun c=> ?_)⟩
 ·obtain⟨hj0,hjb⟩:=hj
  have hj':j<i.l.length:=by omega
  obtain⟨x,hx⟩:=z8 (l:=i.l) (i:=j) hj'
  have bad (hn:¬(1≤x∧x≤1000000)):yH i.l i.q=false:=by
   have:(i.l.all fun n=>decide (1≤n) && decide (n≤1000000))=false:=by
    rw[List.all_eq_false]
    exact⟨x,List.mem_of_getElem? hx,by simpa using hn⟩
   rw[yH,this];simp
  have bs:0≤(i.l.take j).sum∧(i.l.take j).sum≤1000000*j:=by
   have:=qK (l:=i.l.take j) (fun y hy=>by
    obtain⟨k,hk⟩:=List.mem_iff_getElem?.1 hy
    have hkj:k<j:=by
     have:=(List.getElem?_eq_some_iff.1 hk).1
     rw[List.length_take]at this;omega
    rw[List.getElem?_take_of_lt hkj]at hk
    have:=hjb k hkj y hk;omega) j
   rwa [List.take_take,Nat.min_self]at this
  refine⟨⟨by omega,by omega⟩,x,elI hx,zT (fun d=>⟨(),bad (by omega),trivial⟩) (fun d=>zT (fun e=>⟨(),bad (by omega),trivial⟩) (fun e=>⟨j+1,?_,wjn (by omega),⟨hj',fun k hk y hy=> ?_⟩,by dsimp only;omega,trivial⟩))⟩
  ·rw[qN hx,w64 (by omega)]
  ·by_cases hkj:k=j
   ·rw[hkj,hx]at hy;cases hy;omega
   ·exact hjb k (by omega) y hy
 ·obtain⟨hj0,hjb⟩:=hj
  have hj':j=i.l.length:=by omega
  subst hj'
  have:(i.l.all fun n=>decide (1≤n) && decide (n≤1000000))=true:=by
   rw[List.all_eq_true]
   intro y hy
   obtain⟨k,hk⟩:=List.mem_iff_getElem?.1 hy
   have:=hjb k ((List.getElem?_eq_some_iff.1 hk).1) y hk
   simpa using this
  refine⟨(),?_,trivial⟩
  rw[yH,this,decide_eq_true (by omega:i.l.length≤250),decide_eq_true (by omega:0≤i.q),List.take_length]
  rfl
theorem bL:rightC.ok Tryz.prog 131:=z1d gok0 z3y
theorem qD {l:List Int} {q:Int} (h:yH l q=true):l.length≤250∧0≤q∧(∀x∈l,1≤x∧x≤1000000)∧q≤l.sum:=by
 simp only[yH,Bool.and_eq_true,decide_eq_true_eq,List.all_eq_true]at h
 exact⟨h.1.1.1,h.1.1.2,h.1.2,h.2⟩
theorem pN {l:List Int} {q:Int} (h:yH l q=true):q≤250000000:=by
 obtain⟨h1,h2,h3,h4⟩:=qD h
 have:=qK (l:=l) (fun x hx=>by have:=h3 x hx;omega) l.length
 rw[List.take_length]at this
 omega
theorem f8:∀(l:List Int) (q:Int),(x0 l q).length=l.length
 |[],_=>rfl
 |n::l,q=>by rw[x0,List.length_cons,List.length_cons,f8 l]
theorem sX:∀(l:List Int) (q:Int) (j:Nat) (n:Int),l[j]? =some n→(x0 l q)[j]? =some (min n (q-((x0 l q).take j).sum))
 |[],_,_,_,h=>by simp at h
 |m::l,q,0,n,h=>by simp at h;subst h;simp[x0]
 |m::l,q,j+1,n,h=>by
  rw[List.getElem?_cons_succ]at h
  rw[x0,List.getElem?_cons_succ,sX l _ j n h,List.take_succ_cons,List.sum_cons]
  congr 2;omega
theorem mH:∀(l:List Int) (q:Int) (j:Nat),0≤q→(∀x∈l,0≤x)→0≤q-((x0 l q).take j).sum∧q-((x0 l q).take j).sum≤q
 |[],q,j,h,_=>by simp[x0,h]
 |m::l,q,0,h,_=>by simp[h]
 |m::l,q,j+1,h,hb=>by
  have hm:=hb m List.mem_cons_self
  have:=mH l (q-min m q) j (by omega) (fun x hx=>hb x (List.mem_cons_of_mem _ hx))
  rw[x0,List.take_succ_cons,List.sum_cons]
  omega
theorem z9e (i:LqI) (h:fifoC.cnd i):zTv i:=by
 obtain⟨hl,hq⟩:i.l.length≤1000000∧yM i.q:=h
 unfold zTv
 refine⟨i,rfl,rfl,⟨hl,hq⟩,fun _ _=>Cv.cnd.mk (fun c=> ?_) (fun c=> ?_)⟩
 ·have c:yH i.l i.q=false:=by simpa using c
  refine⟨(),?_,trivial⟩
  rw[jS,if_neg (by rw[c];decide)];rfl
 have c:yH i.l i.q=true:=by simpa using c
 obtain⟨h1,h2,h3,h4⟩:=qD c
 have hq2:=pN c
 have h3':∀x∈i.l,0≤x:=fun x hx=>by have:=h3 x hx;omega
 simp only[yX]
 refine⟨0,by simp,rfl,rfl,fun j=>j≤i.l.length,fun j=>i.l.length-j,Nat.zero_le _,fun j hj=>zT (fun d=> ?_) (fun d=> ?_)⟩
 ·have hj':j<i.l.length:=by omega
  obtain⟨x,hx⟩:=z8 (l:=i.l) (i:=j) hj'
  have bx:=h3 x (List.mem_of_getElem? hx)
  have g:=sX i.l i.q j x hx
  have r:=mH i.l i.q j h2 h3'
  refine⟨⟨by omega,by omega⟩,x,elI hx,by rw[List.length_take];omega,j+1,?_,wjn (by omega),?_,hj',by dsimp only;omega,trivial⟩
  ·rw[qN g,w64 (by omega)];omega
  ·rw[List.take_add_one,g];simp[iE]
 ·have hj':j=i.l.length:=by omega
  subst hj'
  refine⟨(),?_,trivial⟩
  rw[jS,if_pos c,List.take_of_length_le (by rw[f8];omega)]
theorem zNc:fifoC.ok Tryz.prog 105:=z3j (gokc bL gok0) z9e
open Go Cv Go.Proofs
structure Ent where
 slot:Int
 id:Int
 qty:Int
 top:Bool
 deriving DecidableEq
def z8h:Ent:=⟨0,0,0,false⟩
def fS (e:Ent):List D:=[.v (.int .i64 e.slot),.v (.int .i64 e.id),.v (.int .i64 e.qty),.v (.bool e.top)]
@[reducible] def yBf (e:Ent):V:= .agg [zE e.slot,zE e.id,zE e.qty,yN e.top]
def Slot.ent (s:Slot):Ent:=⟨s.n,s.id,s.qty,s.top⟩
def Arena.slotAt (a:Arena) (k:Nat):Slot:=a.slots.getD k slot0
def Arena.getF (a:Arena) (n:Int):Ent×Bool:=if a.usedAt n=true then((a.slotAt n.toNat).ent,true)else(z8h,false)
def agetC:Con:=con1 ArN (fun i=>[.nm 0 0,zE i.n]) (fun i=>[qR i.a]) (fun i=>i.a.slots.length≤1000000) (fun i=> .tup [yBf (i.a.getF i.n).1,yN (i.a.getF i.n).2]) (fun i=>[qR i.a])
def zGr (sl:List Slot):Int→List Nat→Prop
 |at_,[]=>at_= -1
 |at_,k::l=>at_=k∧k<sl.length∧zGr sl (sl.getD k slot0).back l
structure ArL where
 a:Arena
 n:Int
 l:List Nat
def g8 (l:List Nat) (j:Nat):Int:=match l[j]? with
 |some k=>k
 |none=> -1
def Arena.ents (a:Arena) (l:List Nat):List Ent:=l.map fun k=>(a.slotAt k).ent
structure Arena.listOk (a:Arena) (n:Int) (l:List Nat):Prop where
 len:l.length≤1000000
 ch:if 0≤n∧n<a.queues.length then zGr a.slots (a.queues.getD n.toNat vR).first l else l=[]
def alistC:Con:=con1 ArL (fun i=>[.nm 0 0,zE i.n]) (fun i=>[qR i.a]) (fun i=>i.a.listOk i.n i.l) (fun _=> .own 1) (fun i=>[qR i.a,.own 193 4 ((i.a.ents i.l).map fS)])
def z3x (i:ArL):List SAnn:=[{ι:=Nat,slots:=fun j=>[(5,.own 0),(6,zE (g8 i.l j))],rows:=fun j=>[.own 193 4 ((i.a.ents (i.l.take j)).map fS)]}]
structure TkI where
 a:Arena
 n:Int
 qty:Int
def Arena.dropF (a:Arena) (k:Nat):Arena:=
 let s:=a.slotAt k
 let q:=a.queues.getD s.queue.toNat vR
 let sl1:=if s.ahead= -1 then a.slots else a.slots.modify s.ahead.toNat fun x=>{x with back:=s.back}
 let sl2:=if s.back= -1 then sl1 else sl1.modify s.back.toNat fun x=>{x with ahead:=s.ahead}
 ⟨sl2.set k slot0,a.queues.set s.queue.toNat ⟨if s.ahead= -1 then s.back else q.first,if s.back= -1 then s.ahead else q.last,q.total,IntKind.i64.wrap (q.count-1)⟩,IntKind.i64.wrap (a.free+1)⟩
def Arena.less (a:Arena) (k:Nat) (qty:Int):Arena:=
 {a with slots:=a.slots.modify k fun s=>{s with qty:=s.qty-qty},queues:=a.queues.modify (a.slotAt k).queue.toNat fun q=>{q with total:=IntKind.i64.wrap (q.total-qty)}}
def Arena.takeF (a:Arena) (n qty:Int):Arena×Int:=
 if a.usedAt n=false then(a,26)else if qty<1∨(a.slotAt n.toNat).qty<qty then(a,24)
 else if(a.slotAt n.toNat).qty=qty then((a.less n.toNat qty).dropF n.toNat,0)else(a.less n.toNat qty,0)
def Arena.okAt (a:Arena):Prop:=a.slots.length≤1000000∧∀(k:Nat) (s:Slot),a.slots[k]? =some s→s.used=true→(0≤s.queue∧s.queue<a.queues.length)∧s.qty≤1000000∧(s.ahead= -1∨(0≤s.ahead∧s.ahead<a.slots.length∧s.ahead≠k))∧(s.back= -1∨(0≤s.back∧s.back<a.slots.length∧s.back≠k))
def atakeC:Con:=con1 TkI (fun i=>[.nm 0 0,zE i.n,zE i.qty]) (fun i=>[qR i.a]) (fun i=>i.a.okAt) (fun i=>zE (i.a.takeF i.n i.qty).2) (fun i=>[qR (i.a.takeF i.n i.qty).1])
open Go Cv Go.Proofs
@[reducible] def pL (i:ArN):Prop:=∃(o:Unit),(i.a.getF i.n).fst.slot=0∧(i.a.getF i.n).fst.id=0∧(i.a.getF i.n).fst.qty=0∧(i.a.getF i.n).fst.top=false∧(i.a.getF i.n).snd=false∧i.a.free=i.a.free∧List.map zL i.a.slots=List.map zL i.a.slots∧List.map zF i.a.queues=List.map zF i.a.queues∧True
def zVt (i:ArN):Prop:=
 cnd (decide (i.n<0)) (pL i) (cnd (decide (i.n≥(↑(List.map zL i.a.slots).length:Int))) (pL i) ((0≤i.n∧i.n<(↑(List.map zL i.a.slots).length:Int))∧∃(b:Bool),zI (List.map zL i.a.slots) i.n.toNat ((0:Nat)+(0:Nat)) 1=some [D.v (.bool b)]∧cnd (!b) (pL i) ((0≤i.n∧i.n<(↑(List.map zL i.a.slots).length:Int))∧∃(n:Int),∃(n_1:Int),∃(n_2:Int),∃(b:Bool),zI (List.map zL i.a.slots) i.n.toNat ((0:Nat)+(1:Nat)) 4=some [D.v (.int .i64 n),D.v (.int .i64 n_1),D.v (.int .i64 n_2),D.v (.bool b)]∧∃(o:Unit),(i.a.getF i.n).fst.slot=n∧(i.a.getF i.n).fst.id=n_1∧(i.a.getF i.n).fst.qty=n_2∧(i.a.getF i.n).fst.top=b∧(i.a.getF i.n).snd=true∧i.a.free=i.a.free∧List.map zL i.a.slots=List.map zL i.a.slots∧List.map zF i.a.queues=List.map zF i.a.queues∧True)))
theorem z5f (hG:GOk Tryz.prog ([])) (h:∀(i:ArN),agetC.cnd i→zVt i):agetC.ok Tryz.prog 111:=okw mixed hG 1 (fun _=>[]) (fun _=>[]) [0] Tryz.func111 h
def zIq (i:ArL):Prop:=
 cnd (decide (i.n≥0)) (cnd (!decide (i.n<(↑(List.map zF i.a.queues).length:Int))) (∃(o:Unit),i.a.free=i.a.free∧List.map zL i.a.slots=List.map zL i.a.slots∧List.map zF i.a.queues=List.map zF i.a.queues∧List.map fS (i.a.ents i.l)=[]∧True) ((0≤i.n∧i.n<(↑(List.map zF i.a.queues).length:Int))∧∃(n:Int),zI (List.map zF i.a.queues) i.n.toNat ((0:Nat)+(0:Nat)) 1=some [D.v (.int .i64 n)]∧∃(i0:Nat),g8 i.l i0=n∧List.map fS (i.a.ents (List.take i0 i.l))=[]∧∃(I:Nat→Prop),∃(μ:Nat→Nat),I i0∧∀(i_1:Nat),I i_1→cnd (g8 i.l i_1 !=(-1)) ((0≤g8 i.l i_1∧g8 i.l i_1<(↑(List.map zL i.a.slots).length:Int))∧∃(n:Int),∃(n_1:Int),∃(n_2:Int),∃(b:Bool),zI (List.map zL i.a.slots) (g8 i.l i_1).toNat ((0:Nat)+(1:Nat)) 4=some [D.v (.int .i64 n),D.v (.int .i64 n_1),D.v (.int .i64 n_2),D.v (.bool b)]∧((List.map fS (i.a.ents (List.take i_1 i.l))).length+1)*(32:Nat)≤(70368744177664:Nat)∧(0≤g8 i.l i_1∧g8 i.l i_1<(↑(List.map zL i.a.slots).length:Int))∧∃(n_3:Int),zI (List.map zL i.a.slots) (g8 i.l i_1).toNat ((0:Nat)+(7:Nat)) 1=some [D.v (.int .i64 n_3)]∧∃(i':Nat),g8 i.l i'=n_3∧List.map fS (i.a.ents (List.take i' i.l))=List.map fS (i.a.ents (List.take i_1 i.l))++[[D.v (.int .i64 n),D.v (.int .i64 n_1),D.v (.int .i64 n_2),D.v (.bool b)]]∧I i'∧μ i'<μ i_1∧Sx.AObj.cells (gO (jH 0 1 3) [V.own 1,V.own 2,zE i.a.free]) (184:TypeId)=Sx.AObj.cells (gO (jH 0 1 3) [V.own 1,V.own 2,zE i.a.free]) (184:TypeId)∧AObj.own 195 8 (List.map zL i.a.slots)=AObj.own 195 8 (List.map zL i.a.slots)∧AObj.own 199 4 (List.map zF i.a.queues)=AObj.own 199 4 (List.map zF i.a.queues)) (∃(o:Unit),i.a.free=i.a.free∧List.map zL i.a.slots=List.map zL i.a.slots∧List.map zF i.a.queues=List.map zF i.a.queues∧List.map fS (i.a.ents i.l)=List.map fS (i.a.ents (List.take i_1 i.l))∧True))) (∃(o:Unit),i.a.free=i.a.free∧List.map zL i.a.slots=List.map zL i.a.slots∧List.map zF i.a.queues=List.map zF i.a.queues∧List.map fS (i.a.ents i.l)=[]∧True)
theorem zYv (hG:GOk Tryz.prog ([])) (h:∀(i:ArL),alistC.cnd i→zIq i):alistC.ok Tryz.prog 130:=okw mixed hG 1 (fun _=>[]) (fun i=>z3x i) [0] Tryz.func130 h
@[reducible] def aE (i:TkI):Prop:=∃(o:Unit),(i.a.takeF i.n i.qty).snd=26∧(i.a.takeF i.n i.qty).fst.free=i.a.free∧List.map zL (i.a.takeF i.n i.qty).fst.slots=List.map zL i.a.slots∧List.map zF (i.a.takeF i.n i.qty).fst.queues=List.map zF i.a.queues∧True
def zIt (i:TkI):Prop:=
 cnd (decide (i.n<0)) (aE i) (cnd (decide (i.n≥(↑(List.map zL i.a.slots).length:Int))) (aE i) ((0≤i.n∧i.n<(↑(List.map zL i.a.slots).length:Int))∧∃(b:Bool),zI (List.map zL i.a.slots) i.n.toNat ((0:Nat)+(0:Nat)) 1=some [D.v (.bool b)]∧cnd (!b) (aE i) ((0≤i.n∧i.n<(↑(List.map zL i.a.slots).length:Int))∧cnd (decide (i.qty<1)) (∃(o:Unit),(i.a.takeF i.n i.qty).snd=24∧(i.a.takeF i.n i.qty).fst.free=i.a.free∧List.map zL (i.a.takeF i.n i.qty).fst.slots=List.map zL i.a.slots∧List.map zF (i.a.takeF i.n i.qty).fst.queues=List.map zF i.a.queues∧True) (∃(n:Int),zI (List.map zL i.a.slots) i.n.toNat ((0:Nat)+(1:Nat)+2) 1=some [D.v (.int .i64 n)]∧cnd (decide (i.qty>n)) (∃(o:Unit),(i.a.takeF i.n i.qty).snd=24∧(i.a.takeF i.n i.qty).fst.free=i.a.free∧List.map zL (i.a.takeF i.n i.qty).fst.slots=List.map zL i.a.slots∧List.map zF (i.a.takeF i.n i.qty).fst.queues=List.map zF i.a.queues∧True) (∃(n:Int),zI (List.map zL i.a.slots) i.n.toNat ((0:Nat)+(1:Nat)+2) 1=some [D.v (.int .i64 n)]∧i.n.toNat<(List.map zL i.a.slots).length∧∃(n_1:Int),zI (zK (List.map zL i.a.slots) i.n.toNat ((0:Nat)+(1:Nat)+2) [D.v (.int .i64 (IntKind.i64.wrap (n-i.qty)))]) i.n.toNat ((0:Nat)+(5:Nat)) 1=some [D.v (.int .i64 n_1)]∧(0≤n_1∧n_1<(↑(List.map zF i.a.queues).length:Int))∧∃(n_2:Int),zI (List.map zF i.a.queues) n_1.toNat ((0:Nat)+(2:Nat)) 1=some [D.v (.int .i64 n_2)]∧(0≤n_1∧n_1<(↑(List.map zF i.a.queues).length:Int))∧n_1.toNat<(List.map zF i.a.queues).length∧∃(n_3:Int),zI (zK (List.map zL i.a.slots) i.n.toNat ((0:Nat)+(1:Nat)+2) [D.v (.int .i64 (IntKind.i64.wrap (n-i.qty)))]) i.n.toNat ((0:Nat)+(1:Nat)+2) 1=some [D.v (.int .i64 n_3)]∧cnd (n_3==0) (∃(n_4:Int),zI (zK (List.map zL i.a.slots) i.n.toNat ((0:Nat)+(1:Nat)+2) [D.v (.int .i64 (IntKind.i64.wrap (n-i.qty)))]) i.n.toNat ((0:Nat)+(5:Nat)) 1=some [D.v (.int .i64 n_4)]∧(0≤n_4∧n_4<(↑(zK (List.map zF i.a.queues) n_1.toNat ((0:Nat)+(2:Nat)) [D.v (.int .i64 (IntKind.i64.wrap (n_2-i.qty)))]).length:Int))∧∃(n_5:Int),zI (zK (List.map zL i.a.slots) i.n.toNat ((0:Nat)+(1:Nat)+2) [D.v (.int .i64 (IntKind.i64.wrap (n-i.qty)))]) i.n.toNat ((0:Nat)+(6:Nat)) 1=some [D.v (.int .i64 n_5)]∧cnd (n_5==(-1)) (∃(n_6:Int),zI (zK (List.map zL i.a.slots) i.n.toNat ((0:Nat)+(1:Nat)+2) [D.v (.int .i64 (IntKind.i64.wrap (n-i.qty)))]) i.n.toNat ((0:Nat)+(7:Nat)) 1=some [D.v (.int .i64 n_6)]∧n_4.toNat<(zK (List.map zF i.a.queues) n_1.toNat ((0:Nat)+(2:Nat)) [D.v (.int .i64 (IntKind.i64.wrap (n_2-i.qty)))]).length∧∃(n_7:Int),zI (zK (List.map zL i.a.slots) i.n.toNat ((0:Nat)+(1:Nat)+2) [D.v (.int .i64 (IntKind.i64.wrap (n-i.qty)))]) i.n.toNat ((0:Nat)+(7:Nat)) 1=some [D.v (.int .i64 n_7)]∧cnd (n_7==(-1)) (∃(n_8:Int),zI (zK (List.map zL i.a.slots) i.n.toNat ((0:Nat)+(1:Nat)+2) [D.v (.int .i64 (IntKind.i64.wrap (n-i.qty)))]) i.n.toNat ((0:Nat)+(6:Nat)) 1=some [D.v (.int .i64 n_8)]∧n_4.toNat<(zK (zK (List.map zF i.a.queues) n_1.toNat ((0:Nat)+(2:Nat)) [D.v (.int .i64 (IntKind.i64.wrap (n_2-i.qty)))]) n_4.toNat ((0:Nat)+(0:Nat)) [D.v (.int .i64 n_6)]).length∧∃(n_9:Int),zI (zK (zK (zK (List.map zF i.a.queues) n_1.toNat ((0:Nat)+(2:Nat)) [D.v (.int .i64 (IntKind.i64.wrap (n_2-i.qty)))]) n_4.toNat ((0:Nat)+(0:Nat)) [D.v (.int .i64 n_6)]) n_4.toNat ((0:Nat)+(1:Nat)) [D.v (.int .i64 n_8)]) n_4.toNat ((0:Nat)+(3:Nat)) 1=some [D.v (.int .i64 n_9)]∧n_4.toNat<(zK (zK (zK (List.map zF i.a.queues) n_1.toNat ((0:Nat)+(2:Nat)) [D.v (.int .i64 (IntKind.i64.wrap (n_2-i.qty)))]) n_4.toNat ((0:Nat)+(0:Nat)) [D.v (.int .i64 n_6)]) n_4.toNat ((0:Nat)+(1:Nat)) [D.v (.int .i64 n_8)]).length∧i.n.toNat<(zK (List.map zL i.a.slots) i.n.toNat ((0:Nat)+(1:Nat)+2) [D.v (.int .i64 (IntKind.i64.wrap (n-i.qty)))]).length∧∃(o:Unit),(i.a.takeF i.n i.qty).snd=0∧(i.a.takeF i.n i.qty).fst.free=IntKind.i64.wrap (i.a.free+1)∧List.map zL (i.a.takeF i.n i.qty).fst.slots=zK (zK (List.map zL i.a.slots) i.n.toNat ((0:Nat)+(1:Nat)+2) [D.v (.int .i64 (IntKind.i64.wrap (n-i.qty)))]) i.n.toNat 0 [D.v (.bool false),D.v (.int .i64 0),D.v (.int .i64 0),D.v (.int .i64 0),D.v (.bool false),D.v (.int .i64 0),D.v (.int .i64 0),D.v (.int .i64 0)]∧List.map zF (i.a.takeF i.n i.qty).fst.queues=zK (zK (zK (zK (List.map zF i.a.queues) n_1.toNat ((0:Nat)+(2:Nat)) [D.v (.int .i64 (IntKind.i64.wrap (n_2-i.qty)))]) n_4.toNat ((0:Nat)+(0:Nat)) [D.v (.int .i64 n_6)]) n_4.toNat ((0:Nat)+(1:Nat)) [D.v (.int .i64 n_8)]) n_4.toNat ((0:Nat)+(3:Nat)) [D.v (.int .i64 (IntKind.i64.wrap (n_9-1)))]∧True) (∃(n_8:Int),zI (zK (List.map zL i.a.slots) i.n.toNat ((0:Nat)+(1:Nat)+2) [D.v (.int .i64 (IntKind.i64.wrap (n-i.qty)))]) i.n.toNat ((0:Nat)+(7:Nat)) 1=some [D.v (.int .i64 n_8)]∧∃(n_9:Int),zI (zK (List.map zL i.a.slots) i.n.toNat ((0:Nat)+(1:Nat)+2) [D.v (.int .i64 (IntKind.i64.wrap (n-i.qty)))]) i.n.toNat ((0:Nat)+(6:Nat)) 1=some [D.v (.int .i64 n_9)]∧(0≤n_8∧n_8<(↑(zK (List.map zL i.a.slots) i.n.toNat ((0:Nat)+(1:Nat)+2) [D.v (.int .i64 (IntKind.i64.wrap (n-i.qty)))]).length:Int))∧n_8.toNat<(zK (List.map zL i.a.slots) i.n.toNat ((0:Nat)+(1:Nat)+2) [D.v (.int .i64 (IntKind.i64.wrap (n-i.qty)))]).length∧∃(n_10:Int),zI (zK (zK (List.map zF i.a.queues) n_1.toNat ((0:Nat)+(2:Nat)) [D.v (.int .i64 (IntKind.i64.wrap (n_2-i.qty)))]) n_4.toNat ((0:Nat)+(0:Nat)) [D.v (.int .i64 n_6)]) n_4.toNat ((0:Nat)+(3:Nat)) 1=some [D.v (.int .i64 n_10)]∧n_4.toNat<(zK (zK (List.map zF i.a.queues) n_1.toNat ((0:Nat)+(2:Nat)) [D.v (.int .i64 (IntKind.i64.wrap (n_2-i.qty)))]) n_4.toNat ((0:Nat)+(0:Nat)) [D.v (.int .i64 n_6)]).length∧i.n.toNat<(zK (zK (List.map zL i.a.slots) i.n.toNat ((0:Nat)+(1:Nat)+2) [D.v (.int .i64 (IntKind.i64.wrap (n-i.qty)))]) n_8.toNat ((0:Nat)+(6:Nat)) [D.v (.int .i64 n_9)]).length∧∃(o:Unit),(i.a.takeF i.n i.qty).snd=0∧(i.a.takeF i.n i.qty).fst.free=IntKind.i64.wrap (i.a.free+1)∧List.map zL (i.a.takeF i.n i.qty).fst.slots=zK (zK (zK (List.map zL i.a.slots) i.n.toNat ((0:Nat)+(1:Nat)+2) [D.v (.int .i64 (IntKind.i64.wrap (n-i.qty)))]) n_8.toNat ((0:Nat)+(6:Nat)) [D.v (.int .i64 n_9)]) i.n.toNat 0 [D.v (.bool false),D.v (.int .i64 0),D.v (.int .i64 0),D.v (.int .i64 0),D.v (.bool false),D.v (.int .i64 0),D.v (.int .i64 0),D.v (.int .i64 0)]∧List.map zF (i.a.takeF i.n i.qty).fst.queues=zK (zK (zK (List.map zF i.a.queues) n_1.toNat ((0:Nat)+(2:Nat)) [D.v (.int .i64 (IntKind.i64.wrap (n_2-i.qty)))]) n_4.toNat ((0:Nat)+(0:Nat)) [D.v (.int .i64 n_6)]) n_4.toNat ((0:Nat)+(3:Nat)) [D.v (.int .i64 (IntKind.i64.wrap (n_10-1)))]∧True)) (∃(n_6:Int),zI (zK (List.map zL i.a.slots) i.n.toNat ((0:Nat)+(1:Nat)+2) [D.v (.int .i64 (IntKind.i64.wrap (n-i.qty)))]) i.n.toNat ((0:Nat)+(6:Nat)) 1=some [D.v (.int .i64 n_6)]∧∃(n_7:Int),zI (zK (List.map zL i.a.slots) i.n.toNat ((0:Nat)+(1:Nat)+2) [D.v (.int .i64 (IntKind.i64.wrap (n-i.qty)))]) i.n.toNat ((0:Nat)+(7:Nat)) 1=some [D.v (.int .i64 n_7)]∧(0≤n_6∧n_6<(↑(zK (List.map zL i.a.slots) i.n.toNat ((0:Nat)+(1:Nat)+2) [D.v (.int .i64 (IntKind.i64.wrap (n-i.qty)))]).length:Int))∧n_6.toNat<(zK (List.map zL i.a.slots) i.n.toNat ((0:Nat)+(1:Nat)+2) [D.v (.int .i64 (IntKind.i64.wrap (n-i.qty)))]).length∧∃(n_8:Int),zI (zK (zK (List.map zL i.a.slots) i.n.toNat ((0:Nat)+(1:Nat)+2) [D.v (.int .i64 (IntKind.i64.wrap (n-i.qty)))]) n_6.toNat ((0:Nat)+(7:Nat)) [D.v (.int .i64 n_7)]) i.n.toNat ((0:Nat)+(7:Nat)) 1=some [D.v (.int .i64 n_8)]∧cnd (n_8==(-1)) (∃(n_9:Int),zI (zK (zK (List.map zL i.a.slots) i.n.toNat ((0:Nat)+(1:Nat)+2) [D.v (.int .i64 (IntKind.i64.wrap (n-i.qty)))]) n_6.toNat ((0:Nat)+(7:Nat)) [D.v (.int .i64 n_7)]) i.n.toNat ((0:Nat)+(6:Nat)) 1=some [D.v (.int .i64 n_9)]∧n_4.toNat<(zK (List.map zF i.a.queues) n_1.toNat ((0:Nat)+(2:Nat)) [D.v (.int .i64 (IntKind.i64.wrap (n_2-i.qty)))]).length∧∃(n_10:Int),zI (zK (zK (List.map zF i.a.queues) n_1.toNat ((0:Nat)+(2:Nat)) [D.v (.int .i64 (IntKind.i64.wrap (n_2-i.qty)))]) n_4.toNat ((0:Nat)+(1:Nat)) [D.v (.int .i64 n_9)]) n_4.toNat ((0:Nat)+(3:Nat)) 1=some [D.v (.int .i64 n_10)]∧n_4.toNat<(zK (zK (List.map zF i.a.queues) n_1.toNat ((0:Nat)+(2:Nat)) [D.v (.int .i64 (IntKind.i64.wrap (n_2-i.qty)))]) n_4.toNat ((0:Nat)+(1:Nat)) [D.v (.int .i64 n_9)]).length∧i.n.toNat<(zK (zK (List.map zL i.a.slots) i.n.toNat ((0:Nat)+(1:Nat)+2) [D.v (.int .i64 (IntKind.i64.wrap (n-i.qty)))]) n_6.toNat ((0:Nat)+(7:Nat)) [D.v (.int .i64 n_7)]).length∧∃(o:Unit),(i.a.takeF i.n i.qty).snd=0∧(i.a.takeF i.n i.qty).fst.free=IntKind.i64.wrap (i.a.free+1)∧List.map zL (i.a.takeF i.n i.qty).fst.slots=zK (zK (zK (List.map zL i.a.slots) i.n.toNat ((0:Nat)+(1:Nat)+2) [D.v (.int .i64 (IntKind.i64.wrap (n-i.qty)))]) n_6.toNat ((0:Nat)+(7:Nat)) [D.v (.int .i64 n_7)]) i.n.toNat 0 [D.v (.bool false),D.v (.int .i64 0),D.v (.int .i64 0),D.v (.int .i64 0),D.v (.bool false),D.v (.int .i64 0),D.v (.int .i64 0),D.v (.int .i64 0)]∧List.map zF (i.a.takeF i.n i.qty).fst.queues=zK (zK (zK (List.map zF i.a.queues) n_1.toNat ((0:Nat)+(2:Nat)) [D.v (.int .i64 (IntKind.i64.wrap (n_2-i.qty)))]) n_4.toNat ((0:Nat)+(1:Nat)) [D.v (.int .i64 n_9)]) n_4.toNat ((0:Nat)+(3:Nat)) [D.v (.int .i64 (IntKind.i64.wrap (n_10-1)))]∧True) (∃(n_9:Int),zI (zK (zK (List.map zL i.a.slots) i.n.toNat ((0:Nat)+(1:Nat)+2) [D.v (.int .i64 (IntKind.i64.wrap (n-i.qty)))]) n_6.toNat ((0:Nat)+(7:Nat)) [D.v (.int .i64 n_7)]) i.n.toNat ((0:Nat)+(7:Nat)) 1=some [D.v (.int .i64 n_9)]∧∃(n_10:Int),zI (zK (zK (List.map zL i.a.slots) i.n.toNat ((0:Nat)+(1:Nat)+2) [D.v (.int .i64 (IntKind.i64.wrap (n-i.qty)))]) n_6.toNat ((0:Nat)+(7:Nat)) [D.v (.int .i64 n_7)]) i.n.toNat ((0:Nat)+(6:Nat)) 1=some [D.v (.int .i64 n_10)]∧(0≤n_9∧n_9<(↑(zK (zK (List.map zL i.a.slots) i.n.toNat ((0:Nat)+(1:Nat)+2) [D.v (.int .i64 (IntKind.i64.wrap (n-i.qty)))]) n_6.toNat ((0:Nat)+(7:Nat)) [D.v (.int .i64 n_7)]).length:Int))∧n_9.toNat<(zK (zK (List.map zL i.a.slots) i.n.toNat ((0:Nat)+(1:Nat)+2) [D.v (.int .i64 (IntKind.i64.wrap (n-i.qty)))]) n_6.toNat ((0:Nat)+(7:Nat)) [D.v (.int .i64 n_7)]).length∧∃(n_11:Int),zI (zK (List.map zF i.a.queues) n_1.toNat ((0:Nat)+(2:Nat)) [D.v (.int .i64 (IntKind.i64.wrap (n_2-i.qty)))]) n_4.toNat ((0:Nat)+(3:Nat)) 1=some [D.v (.int .i64 n_11)]∧n_4.toNat<(zK (List.map zF i.a.queues) n_1.toNat ((0:Nat)+(2:Nat)) [D.v (.int .i64 (IntKind.i64.wrap (n_2-i.qty)))]).length∧i.n.toNat<(zK (zK (zK (List.map zL i.a.slots) i.n.toNat ((0:Nat)+(1:Nat)+2) [D.v (.int .i64 (IntKind.i64.wrap (n-i.qty)))]) n_6.toNat ((0:Nat)+(7:Nat)) [D.v (.int .i64 n_7)]) n_9.toNat ((0:Nat)+(6:Nat)) [D.v (.int .i64 n_10)]).length∧∃(o:Unit),(i.a.takeF i.n i.qty).snd=0∧(i.a.takeF i.n i.qty).fst.free=IntKind.i64.wrap (i.a.free+1)∧List.map zL (i.a.takeF i.n i.qty).fst.slots=zK (zK (zK (zK (List.map zL i.a.slots) i.n.toNat ((0:Nat)+(1:Nat)+2) [D.v (.int .i64 (IntKind.i64.wrap (n-i.qty)))]) n_6.toNat ((0:Nat)+(7:Nat)) [D.v (.int .i64 n_7)]) n_9.toNat ((0:Nat)+(6:Nat)) [D.v (.int .i64 n_10)]) i.n.toNat 0 [D.v (.bool false),D.v (.int .i64 0),D.v (.int .i64 0),D.v (.int .i64 0),D.v (.bool false),D.v (.int .i64 0),D.v (.int .i64 0),D.v (.int .i64 0)]∧List.map zF (i.a.takeF i.n i.qty).fst.queues=zK (zK (List.map zF i.a.queues) n_1.toNat ((0:Nat)+(2:Nat)) [D.v (.int .i64 (IntKind.i64.wrap (n_2-i.qty)))]) n_4.toNat ((0:Nat)+(3:Nat)) [D.v (.int .i64 (IntKind.i64.wrap (n_11-1)))]∧True))) (∃(o:Unit),(i.a.takeF i.n i.qty).snd=0∧(i.a.takeF i.n i.qty).fst.free=i.a.free∧List.map zL (i.a.takeF i.n i.qty).fst.slots=zK (List.map zL i.a.slots) i.n.toNat ((0:Nat)+(1:Nat)+2) [D.v (.int .i64 (IntKind.i64.wrap (n-i.qty)))]∧List.map zF (i.a.takeF i.n i.qty).fst.queues=zK (List.map zF i.a.queues) n_1.toNat ((0:Nat)+(2:Nat)) [D.v (.int .i64 (IntKind.i64.wrap (n_2-i.qty)))]∧True))))))
theorem zZo (hG:GOk Tryz.prog ([])) (h:∀(i:TkI),atakeC.cnd i→zIt i):atakeC.ok Tryz.prog 112:=okw mixed hG 1 (fun _=>[]) (fun _=>[]) [0] Tryz.func112 h
open Go Cv Go.Proofs
theorem pE {a:Arena} {n:Int} (h:n<0∨(a.slots.length:Int)≤n):a.usedAt n=false:=by
 rcases h with h|h
 ·rw[Arena.usedAt,decide_eq_false (by omega),Bool.false_and]
 ·rw[Arena.usedAt,decide_eq_false (show ¬n<(a.slots.length:Int)by omega),Bool.false_and,Bool.and_false]
theorem zOc {a:Arena} {n:Int} {s:Slot} (h0:0≤n) (hs:a.slots[n.toNat]? =some s):a.usedAt n=s.used:=by
 have hl:=(List.getElem?_eq_some_iff.1 hs).1
 rw[Arena.usedAt,decide_eq_true h0,decide_eq_true (show n<(a.slots.length:Int)by omega),zP hs];simp
theorem y9 {a:Arena} {k:Nat} {s:Slot} (hs:a.slots[k]? =some s):a.slotAt k=s:=zP hs
theorem z8u (i:ArN) (h:agetC.cnd i):zVt i:=by
 have h:i.a.slots.length≤1000000:=h
 unfold zVt pL
 simp only[List.length_map]
 have no (e:i.a.usedAt i.n=false):i.a.getF i.n=(z8h,false):=by rw[Arena.getF,if_neg (by rw[e];decide)]
 refine zT (fun c=> ?_) (fun c=>zT (fun d=> ?_) (fun d=> ?_))
 ·rw[no (pE (.inl c))];(repeat'(first|exact rfl|exact trivial|assumption|apply And.intro|refine fun(_:Unit) (_:True)=>?_|refine Exists.intro () ?_|omega|(dsimp only;omega)))
 ·rw[no (pE (.inr (by omega)))];(repeat'(first|exact rfl|exact trivial|assumption|apply And.intro|refine fun(_:Unit) (_:True)=>?_|refine Exists.intro () ?_|omega|(dsimp only;omega)))
 ·obtain⟨s,hs⟩:=z8 (l:=i.a.slots) (i:=i.n.toNat) (by omega)
  have eu:=zOc (a:=i.a) (n:=i.n) (by omega) hs
  refine⟨⟨by omega,by omega⟩,s.used,elA hs (by simp[zL]) rfl,Cv.cnd.mk (fun u=> ?_) (fun u=> ?_)⟩
  ·rw[no (by rw[eu];simpa using u)];(repeat'(first|exact rfl|exact trivial|assumption|apply And.intro|refine fun(_:Unit) (_:True)=>?_|refine Exists.intro () ?_|omega|(dsimp only;omega)))
  ·have e:i.a.usedAt i.n=true:=by rw[eu];simpa using u
   have et:i.a.getF i.n=(s.ent,true):=by rw[Arena.getF,if_pos e,y9 hs]
   rw[et]
   refine⟨⟨by omega,by omega⟩,s.n,s.id,s.qty,s.top,elA hs (by simp[zL]) rfl,?_⟩
   (repeat'(first|exact rfl|exact trivial|assumption|apply And.intro|refine fun(_:Unit) (_:True)=>?_|refine Exists.intro () ?_|omega|(dsimp only;omega)))
theorem zLh:agetC.ok Tryz.prog 111:=z5f gok0 z8u
theorem lG:∀{sl:List Slot} {at_:Int} {l:List Nat},zGr sl at_ l→g8 l 0=at_∧∀j k,l[j]? =some k→k<sl.length∧g8 l (j+1)=(sl.getD k slot0).back
 |sl,at_,[],h=>⟨h.symm,fun j k hk=>by simp at hk⟩
 |sl,at_,x::l,h=>by
  obtain⟨h1,h2,h3⟩:=h
  have ih:=lG h3
  refine⟨h1.symm,fun j k hk=> ?_⟩
  cases j with
  |zero=>
   simp at hk;subst hk
   exact⟨h2,by rw[← ih.1];rfl⟩
  |succ j=>
   rw[List.getElem?_cons_succ]at hk
   obtain⟨a,b⟩:=ih.2 j k hk
   exact⟨a,by rw[← b];rfl⟩
theorem z5w (i:ArL) (h:alistC.cnd i):zIq i:=by
 obtain⟨hl,h⟩:i.l.length≤1000000∧(if 0≤i.n∧i.n<i.a.queues.length then zGr i.a.slots (i.a.queues.getD i.n.toNat vR).first i.l else i.l=[]):=⟨h.len,h.ch⟩
 unfold zIq
 simp only[List.length_map]
 have out (e:¬(0≤i.n∧i.n<(i.a.queues.length:Int))):i.l=[]:=by rw[if_neg e]at h;exact h
 refine zT (fun c=>Cv.cnd.mk (fun d=> ?_) (fun d=> ?_)) (fun c=> ?_)
 ·have d:¬i.n<(i.a.queues.length:Int):=by simpa using d
  rw[out (by omega)];(repeat'(first|exact rfl|exact trivial|assumption|apply And.intro|refine fun(_:Unit) (_:True)=>?_|refine Exists.intro () ?_|omega|(dsimp only;omega)))
 ·have d:i.n<(i.a.queues.length:Int):=by simpa using d
  rw[if_pos ⟨by omega,d⟩]at h
  obtain⟨q,hq⟩:=z8 (l:=i.a.queues) (i:=i.n.toNat) (by omega)
  rw[zP hq]at h
  obtain⟨n0,nx⟩:=lG h
  refine⟨⟨by omega,by omega⟩,q.first,elA hq (by simp[zF]) rfl,0,n0,rfl,fun j=>j≤i.l.length,fun j=>i.l.length-j,Nat.zero_le _,fun j hj=>Cv.cnd.mk (fun e=> ?_) (fun e=> ?_)⟩
  ·have e:g8 i.l j≠-1:=by simpa using e
   obtain⟨k,hk⟩:∃k,i.l[j]? =some k:=by
    cases hk:i.l[j]? with
    |none=>rw[g8,hk]at e;exact absurd rfl e
    |some k=>exact⟨k,rfl⟩
   have hjl:=(List.getElem?_eq_some_iff.1 hk).1
   obtain⟨hkl,hnx⟩:=nx j k hk
   have en:g8 i.l j=k:=by rw[g8,hk]
   obtain⟨s,hs⟩:=z8 (l:=i.a.slots) (i:=k) hkl
   rw[en,Int.toNat_natCast]
   refine⟨⟨by omega,by omega⟩,s.n,s.id,s.qty,s.top,elA hs (by simp[zL]) rfl,?_,⟨by omega,by omega⟩,s.back,elA hs (by simp[zL]) rfl,j+1,by rw[hnx,zP hs],?_,hjl,by dsimp only;omega,by(repeat'(first|exact trivial|exact rfl|apply And.intro))⟩
   ·simp only[Arena.ents,List.length_map,List.length_take];omega
   ·rw[List.take_add_one,hk]
    simp only[Arena.ents,Option.toList,List.map_append,List.map_cons,List.map_nil,y9 hs]
    rfl
  ·have e:g8 i.l j= -1:=by simpa using e
   have hj':i.l.length≤j:=by
    apply Classical.byContradiction
    intro hn
    obtain⟨k,hk⟩:=z8 (l:=i.l) (i:=j) (by omega)
    rw[g8,hk]at e
    simp only at e;omega
   rw[List.take_of_length_le hj']
   (repeat'(first|exact rfl|exact trivial|assumption|apply And.intro|refine fun(_:Unit) (_:True)=>?_|refine Exists.intro () ?_|omega|(dsimp only;omega)))
 ·rw[out (by omega)];(repeat'(first|exact rfl|exact trivial|assumption|apply And.intro|refine fun(_:Unit) (_:True)=>?_|refine Exists.intro () ?_|omega|(dsimp only;omega)))
theorem zRb:alistC.ok Tryz.prog 130:=zYv gok0 z5w
theorem zJm {α:Type} {l:List α} {i k:Nat} {x y:α} (h:i≠k) (hk:l[k]? =some x):(l.set i y)[k]? =some x:=by
 rw[List.getElem?_set_ne h];exact hk
theorem z2x (i:TkI) (h:atakeC.cnd i):zIt i:=by
 obtain⟨hl,hok⟩:i.a.okAt:=h
 unfold zIt aE
 simp only[List.length_map]
 have no (e:i.a.usedAt i.n=false):i.a.takeF i.n i.qty=(i.a,26):=by rw[Arena.takeF,if_pos e]
 refine zT (fun c=> ?_) (fun c=>zT (fun d=> ?_) (fun d=> ?_))
 ·rw[no (pE (.inl c))];(repeat'(first|exact rfl|exact trivial|assumption|apply And.intro|refine fun(_:Unit) (_:True)=>?_|refine Exists.intro () ?_|omega|(dsimp only;omega)))
 ·rw[no (pE (.inr (by omega)))];(repeat'(first|exact rfl|exact trivial|assumption|apply And.intro|refine fun(_:Unit) (_:True)=>?_|refine Exists.intro () ?_|omega|(dsimp only;omega)))
 obtain⟨k,hk⟩:∃k,k=i.n.toNat:=⟨_,rfl⟩
 rw[← hk]
 obtain⟨s,hs⟩:=z8 (l:=i.a.slots) (i:=k) (by omega)
 have hs':i.a.slots[i.n.toNat]? =some s:=by rw[← hk];exact hs
 have eu:=zOc (a:=i.a) (n:=i.n) (by omega) hs'
 refine⟨⟨by omega,by omega⟩,s.used,elA hs (by simp[zL]) rfl,Cv.cnd.mk (fun u=> ?_) (fun u=> ?_)⟩
 ·rw[no (by rw[eu];simpa using u)];(repeat'(first|exact rfl|exact trivial|assumption|apply And.intro|refine fun(_:Unit) (_:True)=>?_|refine Exists.intro () ?_|omega|(dsimp only;omega)))
 have u:s.used=true:=by simpa using u
 have e:¬i.a.usedAt i.n=false:=by rw[eu,u];decide
 obtain⟨⟨q0,q1⟩,sq,sa,sb⟩:=hok k s hs u
 have esl:i.a.slotAt i.n.toNat=s:=y9 hs'
 have bad (hq:i.qty<1∨s.qty<i.qty):i.a.takeF i.n i.qty=(i.a,24):=by rw[Arena.takeF,if_neg e,esl,if_pos hq]
 refine⟨⟨by omega,by omega⟩,zT (fun c1=>by rw[bad (.inl c1)];(repeat'(first|exact rfl|exact trivial|assumption|apply And.intro|refine fun(_:Unit) (_:True)=>?_|refine Exists.intro () ?_|omega|(dsimp only;omega)))) (fun c1=>⟨s.qty,elA hs (by simp[zL]) rfl,zT (fun c2=>by rw[bad (.inr (by omega))];(repeat'(first|exact rfl|exact trivial|assumption|apply And.intro|refine fun(_:Unit) (_:True)=>?_|refine Exists.intro () ?_|omega|(dsimp only;omega)))) (fun c2=>⟨s.qty,elA hs (by simp[zL]) rfl,by omega,?_⟩)⟩)⟩
 obtain⟨q,hq⟩:=z8 (l:=i.a.queues) (i:=s.queue.toNat) (by omega)
 have hs1:(i.a.slots.set k {s with qty:=s.qty-i.qty})[k]? =some {s with qty:=s.qty-i.qty}:=k9 hs
 have hq1:(i.a.queues.set s.queue.toNat {q with total:=IntKind.i64.wrap (q.total-i.qty)})[s.queue.toNat]? =some {q with total:=IntKind.i64.wrap (q.total-i.qty)}:=k9 hq
 have hle:i.a.less i.n.toNat i.qty=⟨i.a.slots.set k {s with qty:=s.qty-i.qty},i.a.queues.set s.queue.toNat {q with total:=IntKind.i64.wrap (q.total-i.qty)},i.a.free⟩:=by
  rw[Arena.less,esl,wR hs',wR hq,hk]
 have hL:(i.a.slots.set k {s with qty:=s.qty-i.qty}).length=i.a.slots.length:=List.length_set
 have hQ:(i.a.queues.set s.queue.toNat {q with total:=IntKind.i64.wrap (q.total-i.qty)}).length=i.a.queues.length:=List.length_set
 have tk:i.a.takeF i.n i.qty=if s.qty=i.qty then((i.a.less i.n.toNat i.qty).dropF i.n.toNat,0)else(i.a.less i.n.toNat i.qty,0):=by rw[Arena.takeF,if_neg e,esl,if_neg (by omega)]
 rw[hle,← hk]at tk
 rw[w64 (x:=s.qty-i.qty) (by omega),yC hs (y:={s with qty:=s.qty-i.qty}) rfl]
 refine⟨s.queue,elA hs1 (by simp[zL]) rfl,⟨q0,q1⟩,q.total,elA hq (by simp[zF]) rfl,⟨q0,q1⟩,by omega,s.qty-i.qty,elA hs1 (by simp[zL]) rfl,?_⟩
 rw[yC hq (y:={q with total:=IntKind.i64.wrap (q.total-i.qty)}) rfl]
 simp only[List.length_map]
 generalize hL1:i.a.slots.set k {s with qty:=s.qty-i.qty}=L1 at*
 generalize hQ1:i.a.queues.set s.queue.toNat {q with total:=IntKind.i64.wrap (q.total-i.qty)}=Q1 at*
 refine Cv.cnd.mk (fun z=> ?_) (fun z=> ?_)
 ·have z:s.qty=i.qty:=by have:s.qty-i.qty=0:=by simpa using z
                         omega
  rw[if_pos z]at tk
  have esl1:(⟨L1,Q1,i.a.free⟩:Arena).slotAt k={s with qty:=s.qty-i.qty}:=y9 hs1
  have eq1:Q1.getD s.queue.toNat vR={q with total:=IntKind.i64.wrap (q.total-i.qty)}:=zP hq1
  rw[Arena.dropF,esl1]at tk
  dsimp only at tk
  rw[eq1]at tk
  dsimp only at tk
  rw[tk]
  refine⟨s.queue,elA hs1 (by simp[zL]) rfl,⟨q0,by omega⟩,s.ahead,elA hs1 (by simp[zL]) rfl,Cv.cnd.mk (fun ea=> ?_) (fun ea=> ?_)⟩
  ·have ea:s.ahead= -1:=by simpa using ea
   refine⟨s.back,elA hs1 (by simp[zL]) rfl,by omega,s.back,elA hs1 (by simp[zL]) rfl,?_⟩
   rw[yC hq1 (y:=⟨s.back,q.last,IntKind.i64.wrap (q.total-i.qty),q.count⟩) rfl]
   have hq2:(Q1.set s.queue.toNat ⟨s.back,q.last,IntKind.i64.wrap (q.total-i.qty),q.count⟩)[s.queue.toNat]? =some ⟨s.back,q.last,IntKind.i64.wrap (q.total-i.qty),q.count⟩:=k9 hq1
   simp only[List.length_map,List.length_set]
   refine Cv.cnd.mk (fun eb=> ?_) (fun eb=> ?_)
   ·have eb:s.back= -1:=by simpa using eb
    refine⟨s.ahead,elA hs1 (by simp[zL]) rfl,by omega,q.count,?_,?_⟩
    ·rw[yC hq2 (y:=⟨s.back,s.ahead,IntKind.i64.wrap (q.total-i.qty),q.count⟩) rfl]
     exact elA (k9 hq2) (by simp[zF]) rfl
    rw[yC hq2 (y:=⟨s.back,s.ahead,IntKind.i64.wrap (q.total-i.qty),q.count⟩) rfl,yC (k9 hq2) (y:=⟨s.back,s.ahead,IntKind.i64.wrap (q.total-i.qty),IntKind.i64.wrap (q.count-1)⟩) rfl,yC hs1 (y:=slot0) rfl]
    simp only[List.length_map,List.length_set,List.set_set,if_pos ea,if_pos eb]
    refine⟨by omega,by omega,(),by(first|exact rfl|exact trivial),by(first|exact rfl|exact trivial),by(first|exact rfl|exact trivial),by(first|exact rfl|exact trivial),trivial⟩
   ·have eb:s.back≠-1:=by simpa using eb
    obtain⟨b0,b1,b2⟩:0≤s.back∧s.back<i.a.slots.length∧s.back≠k:=by omega
    obtain⟨x,hx⟩:=z8 (l:=L1) (i:=s.back.toNat) (by omega)
    refine⟨s.back,elA hs1 (by simp[zL]) rfl,s.ahead,elA hs1 (by simp[zL]) rfl,⟨b0,by omega⟩,by omega,q.count,elA hq2 (by simp[zF]) rfl,?_⟩
    rw[yC hx (y:={x with ahead:=s.ahead}) rfl,yC hq2 (y:=⟨s.back,q.last,IntKind.i64.wrap (q.total-i.qty),IntKind.i64.wrap (q.count-1)⟩) rfl,yC (zJm (by omega) hs1) (y:=slot0) rfl]
    simp only[List.length_map,List.length_set,List.set_set,if_pos ea,if_neg eb,wR hx]
    refine⟨by omega,by omega,(),by(first|exact rfl|exact trivial),by(first|exact rfl|exact trivial),by(first|exact rfl|exact trivial),by(first|exact rfl|exact trivial),trivial⟩
  ·have ea:s.ahead≠-1:=by simpa using ea
   obtain⟨a0,a1,a2⟩:0≤s.ahead∧s.ahead<i.a.slots.length∧s.ahead≠k:=by omega
   obtain⟨x,hx⟩:=z8 (l:=L1) (i:=s.ahead.toNat) (by omega)
   have hs2:(L1.set s.ahead.toNat {x with back:=s.back})[k]? =some {s with qty:=s.qty-i.qty}:=zJm (by omega) hs1
   refine⟨s.ahead,elA hs1 (by simp[zL]) rfl,s.back,elA hs1 (by simp[zL]) rfl,⟨a0,by omega⟩,by omega,s.back,?_,?_⟩
   ·rw[yC hx (y:={x with back:=s.back}) rfl]
    exact elA hs2 (by simp[zL]) rfl
   rw[yC hx (y:={x with back:=s.back}) rfl]
   simp only[List.length_map,List.length_set]
   refine Cv.cnd.mk (fun eb=> ?_) (fun eb=> ?_)
   ·have eb:s.back= -1:=by simpa using eb
    refine⟨s.ahead,elA hs2 (by simp[zL]) rfl,by omega,q.count,?_,?_⟩
    ·rw[yC hq1 (y:=⟨q.first,s.ahead,IntKind.i64.wrap (q.total-i.qty),q.count⟩) rfl]
     exact elA (k9 hq1) (by simp[zF]) rfl
    rw[yC hq1 (y:=⟨q.first,s.ahead,IntKind.i64.wrap (q.total-i.qty),q.count⟩) rfl,yC (k9 hq1) (y:=⟨q.first,s.ahead,IntKind.i64.wrap (q.total-i.qty),IntKind.i64.wrap (q.count-1)⟩) rfl,yC hs2 (y:=slot0) rfl]
    simp only[List.length_map,List.length_set,List.set_set,if_neg ea,if_pos eb,wR hx]
    refine⟨by omega,by omega,(),by(first|exact rfl|exact trivial),by(first|exact rfl|exact trivial),by(first|exact rfl|exact trivial),by(first|exact rfl|exact trivial),trivial⟩
   ·have eb:s.back≠-1:=by simpa using eb
    obtain⟨b0,b1,b2⟩:0≤s.back∧s.back<i.a.slots.length∧s.back≠k:=by omega
    obtain⟨y,hy⟩:=z8 (l:=L1.set s.ahead.toNat {x with back:=s.back}) (i:=s.back.toNat) (by rw[List.length_set];omega)
    refine⟨s.back,elA hs2 (by simp[zL]) rfl,s.ahead,elA hs2 (by simp[zL]) rfl,⟨b0,by omega⟩,by omega,q.count,elA hq1 (by simp[zF]) rfl,?_⟩
    rw[yC hy (y:={y with ahead:=s.ahead}) rfl,yC hq1 (y:=⟨q.first,q.last,IntKind.i64.wrap (q.total-i.qty),IntKind.i64.wrap (q.count-1)⟩) rfl,yC (zJm (by omega) hs2) (y:=slot0) rfl]
    simp only[List.length_map,List.length_set,List.set_set,if_neg ea,if_neg eb,wR hx,wR hy]
    refine⟨by omega,by omega,(),by(first|exact rfl|exact trivial),by(first|exact rfl|exact trivial),by(first|exact rfl|exact trivial),by(first|exact rfl|exact trivial),trivial⟩
 ·have z:¬s.qty=i.qty:=by have:¬s.qty-i.qty=0:=by simpa using z
                          omega
  rw[if_neg z]at tk
  rw[tk]
  exact⟨(),rfl,rfl,rfl,rfl,trivial⟩
theorem zXg:atakeC.ok Tryz.prog 112:=zZo gok0 z2x
open Go Cv Go.Proofs
structure PlI where
 l:List Int
 least:Int
 q:Int
def zKy (l:List Int) (least q:Int):List Int:=l.map fun k=>if least≤k*q / l.sum then k*q / l.sum else 0
def qX:List (Int×Int)→Int→List Int
 |[],_=>[]
 |(n,x)::r,q=>(x+min (n-x) q)::qX r (q-min (n-x) q)
def PlI.p0 (i:PlI):List Int:=zKy i.l i.least i.q
def PlI.p1 (i:PlI):List Int:=qX (i.l.zip i.p0) (i.q-i.p0.sum)
def qC (i:PlI):List Int:=if yH i.l i.q=true∧1≤i.least then i.p1 else[]
def plainC:Con:=con1 PlI (fun i=>[iV i.l,zE i.least,zE i.q]) (fun _=>[]) (fun i=>i.l.length≤1000000∧yM i.q∧yM i.least) (fun _=> .own 0) (fun i=>[.own 2 1 (iE (qC i))])
def z6c (i:PlI):List SAnn:=[
 {ι:=Nat,slots:=fun j=>[(9,.own 0),(36,zE j)],rows:=fun j=>[.own 2 1 (iE (i.p0.take j++List.replicate (i.l.length-j) 0))]},
 {ι:=Nat,slots:=fun j=>[(2,zE (i.q-(i.p0.take j).sum)),(58,zE j)],rows:=fun _=>[]},
 {ι:=Nat,slots:=fun j=>[(9,.own 0),(2,zE (i.q-i.p0.sum+(i.p0.take j).sum-(i.p1.take j).sum)),(68,zE j)],rows:=fun j=>[.own 2 1 (iE (i.p1.take j++i.p0.drop j))]}]
open Go Cv Go.Proofs
def zHw (i:PlI):Prop:=
 ∃(i_1:LqI),iE i_1.l=iE i.l∧i_1.q=i.q∧(i_1.l.length≤(1000000:Nat)∧(-9223372036854775808:Int)≤i_1.q∧i_1.q≤9223372036854775807)∧∀(o:Unit),True→cnd (!yH i_1.l i_1.q) (∃(o:Unit),iE (qC i)=[]∧True) (cnd (decide (i.least<1)) (∃(o:Unit),iE (qC i)=[]∧True) (∃(i_2:List Int),iE i_2=iE i.l∧(i_2.length≤1000∧∀(x:Int),x∈i_2→0≤x∧x≤1000000)∧∀(o:Unit),True→(0≤(↑(iE i.l).length:Int)∧(↑(iE i.l).length:Int)≤(↑(iE i.l).length:Int)∧(↑(iE i.l).length:Int)≤9223372036854775807∧(↑(8:Nat):Int)*(↑(iE i.l).length:Int)≤2 ^ (48:Nat))∧∃(i0:Nat),(↑i0:Int)=0∧iE (List.take i0 i.p0++List.replicate (i.l.length-i0) 0)=List.replicate (↑(iE i.l).length:Int).toNat [D.v (.int .i64 0)]∧∃(I:Nat→Prop),∃(μ:Nat→Nat),I i0∧∀(i_3:Nat),I i_3→cnd (decide ((↑i_3:Int)<(↑(iE i.l).length:Int))) ((0≤(↑i_3:Int)∧(↑i_3:Int)<(↑(iE i.l).length:Int))∧∃(n:Int),zI (iE i.l) (↑i_3:Int).toNat 0 1=some [D.v (.int .i64 n)]∧∃(i_4:ShI),i_4.a=n∧i_4.b=i.q∧i_4.c=i_2.sum∧(0≤i_4.a∧i_4.a≤(2000000000:Int)∧(0:Int)≤i_4.b∧i_4.b≤(2000000000:Int)∧(1:Int)≤i_4.c∧i_4.c≤2000000000)∧∀(o:Unit),True→cnd (decide (i_4.a*i_4.b / i_4.c≥i.least)) ((0≤(↑i_3:Int)∧(↑i_3:Int)<(↑(iE (List.take i_3 i.p0++List.replicate (i.l.length-i_3) 0)).length:Int))∧(↑i_3:Int).toNat<(iE (List.take i_3 i.p0++List.replicate (i.l.length-i_3) 0)).length∧∃(i':Nat),(↑i':Int)=IntKind.i64.wrap ((↑i_3:Int)+1)∧iE (List.take i' i.p0++List.replicate (i.l.length-i') 0)=zK (iE (List.take i_3 i.p0++List.replicate (i.l.length-i_3) 0)) (↑i_3:Int).toNat 0 [D.v (.int .i64 (i_4.a*i_4.b / i_4.c))]∧I i'∧μ i'<μ i_3∧True) (∃(i':Nat),(↑i':Int)=IntKind.i64.wrap ((↑i_3:Int)+1)∧iE (List.take i' i.p0++List.replicate (i.l.length-i') 0)=iE (List.take i_3 i.p0++List.replicate (i.l.length-i_3) 0)∧I i'∧μ i'<μ i_3∧True)) (∃(i0:Nat),i.q-(List.take i0 i.p0).sum=i.q∧(↑i0:Int)=0∧∃(I:Nat→Prop),∃(μ:Nat→Nat),I i0∧∀(i_4:Nat),I i_4→cnd (decide ((↑i_4:Int)<(↑(iE (List.take i_3 i.p0++List.replicate (i.l.length-i_3) 0)).length:Int))) ((0≤(↑i_4:Int)∧(↑i_4:Int)<(↑(iE (List.take i_3 i.p0++List.replicate (i.l.length-i_3) 0)).length:Int))∧∃(n:Int),zI (iE (List.take i_3 i.p0++List.replicate (i.l.length-i_3) 0)) (↑i_4:Int).toNat 0 1=some [D.v (.int .i64 n)]∧∃(i':Nat),i.q-(List.take i' i.p0).sum=IntKind.i64.wrap (i.q-(List.take i_4 i.p0).sum-n)∧(↑i':Int)=IntKind.i64.wrap ((↑i_4:Int)+1)∧I i'∧μ i'<μ i_4∧AObj.own 2 1 (iE (List.take i_3 i.p0++List.replicate (i.l.length-i_3) 0))=AObj.own 2 1 (iE (List.take i_3 i.p0++List.replicate (i.l.length-i_3) 0))) (∃(i0:Nat),i.q-i.p0.sum+(List.take i0 i.p0).sum-(List.take i0 i.p1).sum=i.q-(List.take i_4 i.p0).sum∧(↑i0:Int)=0∧iE (List.take i0 i.p1++List.drop i0 i.p0)=iE (List.take i_3 i.p0++List.replicate (i.l.length-i_3) 0)∧∃(I:Nat→Prop),∃(μ:Nat→Nat),I i0∧∀(i_5:Nat),I i_5→cnd (decide ((↑i_5:Int)<(↑(iE (List.take i_3 i.p0++List.replicate (i.l.length-i_3) 0)).length:Int))) ((0≤(↑i_5:Int)∧(↑i_5:Int)<(↑(iE i.l).length:Int))∧∃(n:Int),zI (iE i.l) (↑i_5:Int).toNat 0 1=some [D.v (.int .i64 n)]∧(0≤(↑i_5:Int)∧(↑i_5:Int)<(↑(iE (List.take i_5 i.p1++List.drop i_5 i.p0)).length:Int))∧∃(n_1:Int),zI (iE (List.take i_5 i.p1++List.drop i_5 i.p0)) (↑i_5:Int).toNat 0 1=some [D.v (.int .i64 n_1)]∧(0≤(↑i_5:Int)∧(↑i_5:Int)<(↑(iE (List.take i_5 i.p1++List.drop i_5 i.p0)).length:Int))∧∃(n_2:Int),zI (iE (List.take i_5 i.p1++List.drop i_5 i.p0)) (↑i_5:Int).toNat 0 1=some [D.v (.int .i64 n_2)]∧(0≤(↑i_5:Int)∧(↑i_5:Int)<(↑(iE (List.take i_5 i.p1++List.drop i_5 i.p0)).length:Int))∧(↑i_5:Int).toNat<(iE (List.take i_5 i.p1++List.drop i_5 i.p0)).length∧∃(i':Nat),i.q-i.p0.sum+(List.take i' i.p0).sum-(List.take i' i.p1).sum=IntKind.i64.wrap (i.q-i.p0.sum+(List.take i_5 i.p0).sum-(List.take i_5 i.p1).sum-min (IntKind.i64.wrap (n-n_1)) (i.q-i.p0.sum+(List.take i_5 i.p0).sum-(List.take i_5 i.p1).sum))∧(↑i':Int)=IntKind.i64.wrap ((↑i_5:Int)+1)∧iE (List.take i' i.p1++List.drop i' i.p0)=zK (iE (List.take i_5 i.p1++List.drop i_5 i.p0)) (↑i_5:Int).toNat 0 [D.v (.int .i64 (IntKind.i64.wrap (n_2+min (IntKind.i64.wrap (n-n_1)) (i.q-i.p0.sum+(List.take i_5 i.p0).sum-(List.take i_5 i.p1).sum))))]∧I i'∧μ i'<μ i_5∧True) (∃(o:Unit),iE (qC i)=iE (List.take i_5 i.p1++List.drop i_5 i.p0)∧True)))))
theorem zYh (hG:GOk Tryz.prog ([(131,rightC),(156,isumC),(133,ishareC)])) (h:∀(i:PlI),plainC.cnd i→zHw i):plainC.ok Tryz.prog 144:=okw mixed hG 0 (fun _=>[]) (fun i=>z6c i) [] Tryz.func144 h
open Go Cv Go.Proofs
theorem bD:∀(z:List (Int×Int)) (q:Int),(qX z q).length=z.length
 |[],_=>rfl
 |(n,x)::z,q=>by rw[qX,List.length_cons,List.length_cons,bD z]
theorem tR:∀(z:List (Int×Int)) (q:Int) (j:Nat) (n x:Int),z[j]? =some (n,x)→(qX z q)[j]? =some (x+min (n-x) (q+((z.map (·.2)).take j).sum-((qX z q).take j).sum))
 |[],_,_,_,_,h=>by simp at h
 |(m,y)::z,q,0,n,x,h=>by simp at h;obtain⟨rfl,rfl⟩:=h;simp[qX]
 |(m,y)::z,q,j+1,n,x,h=>by
  rw[List.getElem?_cons_succ]at h
  rw[qX,List.getElem?_cons_succ,tR z _ j n x h,List.take_succ_cons,List.sum_cons,List.map_cons,List.take_succ_cons,List.sum_cons]
  congr 3;dsimp only;omega
theorem m8:∀(z:List (Int×Int)) (q:Int) (j:Nat),0≤q→(∀y∈z,y.2≤y.1)→0≤q+((z.map (·.2)).take j).sum-((qX z q).take j).sum∧q+((z.map (·.2)).take j).sum-((qX z q).take j).sum≤q
 |[],q,j,h,_=>by simp[qX,h]
 |(m,y)::z,q,0,h,_=>by simp[h]
 |(m,y)::z,q,j+1,h,hb=>by
  have hm:=hb (m,y) List.mem_cons_self
  have:=m8 z (q-min (m-y) q) j (by dsimp only at hm;omega) (fun x hx=>hb x (List.mem_cons_of_mem _ hx))
  rw[qX,List.take_succ_cons,List.sum_cons,List.map_cons,List.take_succ_cons,List.sum_cons]
  dsimp only at hm ⊢
  omega
theorem zRl {k q S:Int} (hk:0≤k) (hq:0≤q) (hS:1≤S) (hqS:q≤S):0≤k*q / S∧k*q / S≤k:=by
 refine⟨Int.ediv_nonneg (Int.mul_nonneg hk hq) (by omega),?_⟩
 have:k*q≤k*S:=Int.mul_le_mul_of_nonneg_left hqS hk
 exact Int.ediv_le_of_le_mul (by omega) this
theorem lY {q S least:Int} (hq:0≤q) (hS:1≤S):∀(l:List Int),(∀x∈l,0≤x)→S*(l.map fun k=>if least≤k*q / S then k*q / S else 0).sum≤q*l.sum
 |[],_=>by simp
 |k::l,h=>by
  have ih:=lY (least:=least) hq hS l (fun x hx=>h x (List.mem_cons_of_mem _ hx))
  have hk:=h k List.mem_cons_self
  rw[List.map_cons,List.sum_cons,List.sum_cons,Int.mul_add,Int.mul_add]
  have h1:S*(k*q / S)≤k*q:=by
   have:=Int.mul_ediv_add_emod (k*q) S
   have:=Int.emod_nonneg (k*q) (show S≠0 by omega)
   omega
  have h2:0≤k*q:=Int.mul_nonneg hk hq
  have h3:S*(if least≤k*q / S then k*q / S else 0)≤q*k:=by
   rw[Int.mul_comm q k]
   split
   ·exact h1
   ·simpa using h2
  omega
theorem zVp {i:PlI} {j:Nat} {n:Int} (h:i.l[j]? =some n):i.p0[j]? =some (if i.least≤n*i.q / i.l.sum then n*i.q / i.l.sum else 0):=by
 rw[PlI.p0,zKy,List.getElem?_map,h];rfl
theorem zIe (i:PlI):i.p0.length=i.l.length:=by simp[PlI.p0,zKy]
theorem zOf {l:List Int} {j m:Nat} {n:Int} (hl:l.length=m) (h:l[j]? =some n):(l.take j++List.replicate (m-j) 0).set j n=l.take (j+1)++List.replicate (m-(j+1)) 0:=by
 have hj:=(List.getElem?_eq_some_iff.1 h).1
 rw[List.set_append_right _ _ (by rw[List.length_take];omega),List.length_take,show j-min j l.length=0 by omega,show m-j=(m-(j+1))+1 by omega,List.replicate_succ,List.set_cons_zero,List.take_add_one,h]
 simp
theorem zXa {l:List Int} {j m:Nat} (hl:l.length=m) (hj:j<m):(l.take j++List.replicate (m-j) 0)[j]? =some 0:=by
 rw[List.getElem?_append_right (by rw[List.length_take];omega),List.length_take,show j-min j l.length=0 by omega,show m-j=(m-(j+1))+1 by omega,List.replicate_succ];rfl
theorem zUd {α:Type} {l:List α} {j:Nat} {x:α} (h:l[j]? =some x):l.set j x=l:=by
 obtain⟨h1,h2⟩:=List.getElem?_eq_some_iff.1 h
 rw[← h2];exact List.set_getElem_self h1
theorem z6d {a b:List Int} {j:Nat} {x:Int} (ha:a.length=b.length) (h:b[j]? =some x):(a.take j++b.drop j)[j]? =some x:=by
 have hj:=(List.getElem?_eq_some_iff.1 h).1
 rw[List.getElem?_append_right (by rw[List.length_take];omega),List.length_take,show j-min j a.length=0 by omega,List.getElem?_drop]
 exact h
theorem zXw {a b:List Int} {j:Nat} {y:Int} (ha:a.length=b.length) (h:a[j]? =some y):(a.take j++b.drop j).set j y=a.take (j+1)++b.drop (j+1):=by
 have hj:=(List.getElem?_eq_some_iff.1 h).1
 rw[List.set_append_right _ _ (by rw[List.length_take];omega),List.length_take,show j-min j a.length=0 by omega,List.drop_eq_getElem_cons (by omega),List.set_cons_zero,List.take_add_one,h]
 simp
theorem zBf {l:List Int} {j:Nat} {x y:Int} (h:l[j]? =some x):zK (iE l) j 0 [D.v (.int .i64 y)]=iE (l.set j y):=yC (f:=fun n:Int=>[D.v (.int .i64 n)]) h rfl
theorem aV {i:PlI} (h:yH i.l i.q=true) (hne:0<i.l.length):1≤i.l.sum∧i.l.sum≤250000000∧(∀(j:Nat) (n x:Int),i.l[j]? =some n→i.p0[j]? =some x→0≤x∧x≤n)∧i.p0.sum≤i.q:=by
 obtain⟨h1,h2,h3,h4⟩:=qD h
 have hb:=qK (l:=i.l) (fun x hx=>by have:=h3 x hx;omega) i.l.length
 rw[List.take_length]at hb
 have hS:1≤i.l.sum:=by
  obtain⟨x,hx⟩:=z8 (l:=i.l) (i:=0) hne
  have:=h3 x (List.mem_of_getElem? hx)
  cases hl:i.l with
  |nil=>rw[hl]at hne;exact absurd hne (Nat.lt_irrefl 0)
  |cons a r=>
   rw[hl]at hx;simp at hx;subst hx
   have hr:=qK (l:=r) (fun y hy=>by have:=h3 y (by rw[hl];exact List.mem_cons_of_mem _ hy);omega) r.length
   rw[List.take_length]at hr
   rw[List.sum_cons];omega
 refine⟨hS,by omega,fun j n x hn hx=> ?_,?_⟩
 ·have hn1:=h3 n (List.mem_of_getElem? hn)
  have:=zRl (k:=n) (by omega) h2 hS h4
  rw[zVp hn]at hx
  cases hx
  split<;>omega
 ·have:=lY (least:=i.least) h2 hS i.l (fun x hx=>by have:=h3 x hx;omega)
  have e:i.l.sum*i.p0.sum≤i.l.sum*i.q:=by rw[Int.mul_comm i.l.sum i.q];exact this
  exact Int.le_of_mul_le_mul_left e (by omega)
theorem z6a (i:PlI) (h:plainC.cnd i):zHw i:=by
 obtain⟨hl,hq,hle⟩:i.l.length≤1000000∧yM i.q∧yM i.least:=h
 unfold zHw
 refine⟨⟨i.l,i.q⟩,rfl,rfl,⟨hl,hq⟩,fun _ _=>Cv.cnd.mk (fun c=> ?_) (fun c=>zT (fun d=> ?_) (fun d=> ?_))⟩
 ·have c:yH i.l i.q=false:=by simpa using c
  refine⟨(),?_,trivial⟩
  rw[qC,if_neg (by rw[c];simp)];rfl
 ·refine⟨(),?_,trivial⟩
  rw[qC,if_neg (by omega)];rfl
 have c:yH i.l i.q=true:=by simpa using c
 have eS:qC i=i.p1:=by rw[qC,if_pos ⟨c,by omega⟩]
 obtain⟨h1,h2,h3,h4⟩:=qD c
 have hq2:=pN c
 have hp0:=zIe i
 have hzl:(i.l.zip i.p0).length=i.l.length:=by rw[List.length_zip,hp0];simp
 have hp1:i.p1.length=i.l.length:=by rw[PlI.p1,bD,hzl]
 have hz2:(i.l.zip i.p0).map (·.2)=i.p0:=by rw[List.map_snd_zip];omega
 have h64:i.l.length≤250:=h1
 have hrl:∀j,j≤i.l.length→(List.take j i.p0++List.replicate (i.l.length-j) 0).length=i.l.length:=by
  intro j hj;rw[List.length_append,List.length_take,List.length_replicate];omega
 simp only[yX]
 refine⟨i.l,rfl,⟨by omega,fun x hx=>by have:=h3 x hx;omega⟩,fun _ _=>⟨⟨by omega,by omega,by omega,by omega⟩,0,by(first|exact rfl|exact trivial),?_,fun j=>j≤i.l.length,fun j=>i.l.length-j,Nat.zero_le _,fun j hj=>zT (fun e=> ?_) (fun e=> ?_)⟩⟩
 ·simp[iE]
 ·have hj':j<i.l.length:=by omega
  obtain⟨n,hn⟩:=z8 (l:=i.l) (i:=j) hj'
  have bn:=h3 n (List.mem_of_getElem? hn)
  obtain⟨f1,f2,f3,f4⟩:=aV c (by omega)
  have g:=zVp hn
  refine⟨⟨by omega,by omega⟩,n,elI hn,⟨n,i.q,i.l.sum⟩,rfl,rfl,rfl,⟨by dsimp only;omega,by dsimp only;omega,by dsimp only;omega,by dsimp only;omega,by dsimp only;omega,by dsimp only;omega⟩,fun _ _=>zT (fun a=> ?_) (fun a=> ?_)⟩
  ·have a:n*i.q / i.l.sum≥i.least:=a
   rw[if_pos (by omega)]at g
   refine⟨⟨by omega,by rw[hrl j (by omega)];omega⟩,by rw[hrl j (by omega)];omega,j+1,wjn (by omega),?_,hj',by dsimp only;omega,trivial⟩
   rw[Int.toNat_natCast,zBf (zXa hp0 hj'),zOf hp0 g]
  ·have a:¬n*i.q / i.l.sum≥i.least:=a
   rw[if_neg (by omega)]at g
   refine⟨j+1,wjn (by omega),?_,hj',by dsimp only;omega,trivial⟩
   rw[← zOf hp0 g,zUd (zXa hp0 hj')]
 have hje:j=i.l.length:=by omega
 subst hje
 have eP:List.take i.l.length i.p0++List.replicate (i.l.length-i.l.length) 0=i.p0:=by rw[List.take_of_length_le (by omega)];simp
 rw[eP,hp0]
 have px:∀(k:Nat) (n x:Int),i.l[k]? =some n→i.p0[k]? =some x→0≤x∧x≤n:=fun k n x hn hx=>(aV c (by have:=(List.getElem?_eq_some_iff.1 hn).1;omega)).2.2.1 k n x hn hx
 have pb:∀x∈i.p0,0≤x∧x≤1000000:=by
  intro x hx
  obtain⟨k,hk⟩:=List.mem_iff_getElem?.1 hx
  obtain⟨n,hn⟩:=z8 (l:=i.l) (i:=k) (by have:=(List.getElem?_eq_some_iff.1 hk).1;omega)
  have:=px k n x hn hk
  have:=h3 n (List.mem_of_getElem? hn)
  omega
 have pq:i.p0.sum≤i.q:=by
  by_cases hz:0<i.l.length
  ·exact(aV c hz).2.2.2
  ·have:i.p0=[]:=List.eq_nil_of_length_eq_zero (by omega)
   rw[this];simpa using h2
 refine⟨0,by simp,by(first|exact rfl|exact trivial),fun k=>k≤i.l.length,fun k=>i.l.length-k,Nat.zero_le _,fun k hk=>zT (fun e=> ?_) (fun e=> ?_)⟩
 ·have hk':k<i.l.length:=by omega
  obtain⟨x,hx⟩:=z8 (l:=i.p0) (i:=k) (by omega)
  have bx:=pb x (List.mem_of_getElem? hx)
  have bs:=qK pb k
  refine⟨⟨by omega,by omega⟩,x,elI hx,k+1,?_,wjn (by omega),hk',by dsimp only;omega,by(repeat'(first|exact trivial|exact rfl|apply And.intro))⟩
  rw[qN hx,w64 (by omega)];omega
 have hke:k=i.l.length:=by omega
 subst hke
 rw[List.take_of_length_le (l:=i.p0) (by omega)]
 refine⟨0,by simp,by(first|exact rfl|exact trivial),by simp,fun j=>j≤i.l.length,fun j=>i.l.length-j,Nat.zero_le _,fun j hj=>zT (fun e=> ?_) (fun e=> ?_)⟩
 ·have hj':j<i.l.length:=by omega
  obtain⟨n,hn⟩:=z8 (l:=i.l) (i:=j) hj'
  obtain⟨x,hx⟩:=z8 (l:=i.p0) (i:=j) (by omega)
  have bn:=h3 n (List.mem_of_getElem? hn)
  have bx:=px j n x hn hx
  have hz:(i.l.zip i.p0)[j]? =some (n,x):=by rw[List.getElem?_zip_eq_some];exact⟨hn,hx⟩
  have g:=tR (i.l.zip i.p0) (i.q-i.p0.sum) j n x hz
  have r:=m8 (i.l.zip i.p0) (i.q-i.p0.sum) j (by omega) (fun y hy=>by
   obtain⟨k,hk⟩:=List.mem_iff_getElem?.1 hy
   rw[List.getElem?_zip_eq_some]at hk
   exact(px k y.1 y.2 hk.1 hk.2).2)
  rw[hz2]at g r
  have b0:=qK pb i.p0.length
  rw[List.take_length]at b0
  have hml:(List.take j i.p1++List.drop j i.p0).length=i.l.length:=by rw[List.length_append,List.length_take,List.length_drop];omega
  have hma:=z6d (a:=i.p1) (b:=i.p0) (by omega) hx
  change i.p1[j]? =_ at g
  change 0≤_-(List.take j i.p1).sum∧_-(List.take j i.p1).sum≤_ at r
  change i.p1[j]? =some (x+min (n-x) (_-(List.take j i.p1).sum))at g
  rw[hml]
  refine⟨⟨by omega,by omega⟩,n,elI hn,⟨by omega,by omega⟩,x,elI hma,⟨by omega,by omega⟩,x,elI hma,⟨by omega,by omega⟩,by omega,?_⟩
  rw[w64 (x:=n-x) (by omega),w64 (x:=x+min (n-x) (i.q-i.p0.sum+(List.take j i.p0).sum-(List.take j i.p1).sum)) (by omega)]
  refine⟨j+1,?_,wjn (by omega),?_,hj',by dsimp only;omega,trivial⟩
  ·rw[qN hx,qN g,w64 (by omega)];omega
  ·rw[Int.toNat_natCast,zBf hma,zXw (by omega) g]
 ·have hje:j=i.l.length:=by omega
  subst hje
  refine⟨(),?_,trivial⟩
  rw[eS,List.take_of_length_le (by omega),List.drop_eq_nil_of_le (by omega),List.append_nil]
theorem zRy:plainC.ok Tryz.prog 144:=zYh (gokc bL (gokc zZg (gokc zAm gok0))) z6a
open Go Cv Go.Proofs
structure RsI where
 l:List Int
 out:List Int
 least:Int
 q:Int
def RsI.idx (i:RsI) (k:Nat):List Nat:=(List.range k).filter fun n=>decide (i.out.getD n 0<i.l.getD n 0)
def RsI.left (i:RsI) (k:Nat):List Int:=(i.idx k).map fun n=>i.l.getD n 0-i.out.getD n 0
def RsI.pl (i:RsI):List Int:=qC ⟨i.left i.l.length,i.least,i.q⟩
def RsI.add (i:RsI) (k:Nat):List Int:=(((i.idx i.l.length).zip i.pl).take k).foldl (fun o y=>o.set y.1 (IntKind.i64.wrap (o.getD y.1 0+y.2))) i.out
def uD (i:RsI):List Int:=i.add i.pl.length
@[reducible] def RsI.ok (i:RsI):Prop:=i.l.length≤250∧i.out.length=i.l.length∧yM i.q∧yM i.least∧∀n,0≤i.out.getD n 0∧i.out.getD n 0≤i.l.getD n 0∧i.l.getD n 0≤1000000
def restC:Con:=con1 RsI (fun i=>[iV i.l,.own 0,zE i.least,zE i.q]) (fun i=>[.own 2 1 (iE i.out)]) RsI.ok (fun _=> .own 1) (fun i=>[.gone,.own 2 1 (iE (uD i))])
def z9g (i:RsI):List SAnn:=[
 {ι:=Nat,slots:=fun j=>[(9,.own 0),(10,.own 1),(16,zE j)],rows:=fun j=>[.own 2 1 (iE (i.left j)),.own 3 1 (iE ((i.idx j).map fun(n:Nat)=>(n:Int)))]},
 {ι:=Nat,slots:=fun k=>[(1,.own 0),(50,zE k)],rows:=fun k=>[.own 2 1 (iE (i.add k))]}]
structure zH where
 id:Int
 side:Int
 price:Int
 qty:Int
 top:Bool
 deriving DecidableEq
def qP (o:zH):List D:=[.v (.int .i64 o.id),.v (.int .i64 o.side),.v (.int .i64 o.price),.v (.int .i64 o.qty),.v (.bool o.top)]
@[reducible] def z9d (o:zH):V:= .agg [zE o.id,zE o.side,zE o.price,zE o.qty,yN o.top]
def topFC:Con:=con1 zH (fun o=>[z9d o]) (fun _=>[]) (fun _=>True) (fun o=>yN o.top) (fun _=>[])
def topI (l:List zH):Int:=m9 (l.findIdx? fun o=>o.top)
def idxOrdC:Con:=con1 (List zH) (fun l=>[roV 5 (l.map qP),.fn 107 [] []]) (fun _=>[]) (fun l=>l.length≤1000000) (fun l=>zE (topI l)) (fun _=>[])
def z0d (l:List zH):List SAnn:=[{ι:=Nat,slots:=fun j=>[(8,zE j)],rows:=fun _=>[]}]
open Go Cv Go.Proofs
def zTk (i:RsI):Prop:=
 ∃(i0:Nat),(↑i0:Int)=0∧iE (i.left i0)=[]∧iE (List.map (fun(n:Nat) ↦ (↑n:Int)) (i.idx i0))=[]∧∃(I:Nat→Prop),∃(μ:Nat→Nat),I i0∧∀(i_1:Nat),I i_1→cnd (decide ((↑i_1:Int)<(↑(iE i.l).length:Int))) ((0≤(↑i_1:Int)∧(↑i_1:Int)<(↑(iE i.l).length:Int))∧∃(n:Int),zI (iE i.l) (↑i_1:Int).toNat 0 1=some [D.v (.int .i64 n)]∧(0≤(↑i_1:Int)∧(↑i_1:Int)<(↑(iE i.out).length:Int))∧∃(n_1:Int),zI (iE i.out) (↑i_1:Int).toNat 0 1=some [D.v (.int .i64 n_1)]∧cnd (decide (n>n_1)) ((0≤(↑i_1:Int)∧(↑i_1:Int)<(↑(iE i.l).length:Int))∧∃(n:Int),zI (iE i.l) (↑i_1:Int).toNat 0 1=some [D.v (.int .i64 n)]∧(0≤(↑i_1:Int)∧(↑i_1:Int)<(↑(iE i.out).length:Int))∧∃(n_2:Int),zI (iE i.out) (↑i_1:Int).toNat 0 1=some [D.v (.int .i64 n_2)]∧((iE (i.left i_1)).length+1)*(8:Nat)≤(70368744177664:Nat)∧((iE (List.map (fun(n:Nat) ↦ (↑n:Int)) (i.idx i_1))).length+1)*(8:Nat)≤(70368744177664:Nat)∧∃(i':Nat),(↑i':Int)=IntKind.i64.wrap ((↑i_1:Int)+1)∧iE (i.left i')=iE (i.left i_1)++[[D.v (.int .i64 (IntKind.i64.wrap (n-n_2)))]]∧iE (List.map (fun(n:Nat) ↦ (↑n:Int)) (i.idx i'))=iE (List.map (fun(n:Nat) ↦ (↑n:Int)) (i.idx i_1))++[[D.v (.int .i64 (↑i_1:Int))]]∧I i'∧μ i'<μ i_1∧AObj.own 2 1 (iE i.out)=AObj.own 2 1 (iE i.out)) (∃(i':Nat),(↑i':Int)=IntKind.i64.wrap ((↑i_1:Int)+1)∧iE (i.left i')=iE (i.left i_1)∧iE (List.map (fun(n:Nat) ↦ (↑n:Int)) (i.idx i'))=iE (List.map (fun(n:Nat) ↦ (↑n:Int)) (i.idx i_1))∧I i'∧μ i'<μ i_1∧AObj.own 2 1 (iE i.out)=AObj.own 2 1 (iE i.out))) (∃(i_2:PlI),iE i_2.l=iE (i.left i_1)∧i_2.least=i.least∧i_2.q=i.q∧(i_2.l.length≤1000000∧((-9223372036854775808)≤i_2.q∧i_2.q≤9223372036854775807)∧(-9223372036854775808)≤i_2.least∧i_2.least≤9223372036854775807)∧∀(o:Unit),True→∃(i0:Nat),(↑i0:Int)=0∧iE (i.add i0)=iE i.out∧∃(I:Nat→Prop),∃(μ:Nat→Nat),I i0∧∀(i_3:Nat),I i_3→cnd (decide ((↑i_3:Int)<(↑(iE (qC i_2)).length:Int))) ((0≤(↑i_3:Int)∧(↑i_3:Int)<(↑(iE (qC i_2)).length:Int))∧∃(n:Int),zI (iE (qC i_2)) (↑i_3:Int).toNat 0 1=some [D.v (.int .i64 n)]∧(0≤(↑i_3:Int)∧(↑i_3:Int)<(↑(iE (List.map (fun(n:Nat) ↦ (↑n:Int)) (i.idx i_1))).length:Int))∧∃(n_1:Int),zI (iE (List.map (fun(n:Nat) ↦ (↑n:Int)) (i.idx i_1))) (↑i_3:Int).toNat 0 1=some [D.v (.int .i64 n_1)]∧(0≤n_1∧n_1<(↑(iE (i.add i_3)).length:Int))∧∃(n_2:Int),zI (iE (i.add i_3)) n_1.toNat 0 1=some [D.v (.int .i64 n_2)]∧(0≤n_1∧n_1<(↑(iE (i.add i_3)).length:Int))∧n_1.toNat<(iE (i.add i_3)).length∧∃(i':Nat),(↑i':Int)=IntKind.i64.wrap ((↑i_3:Int)+1)∧iE (i.add i')=zK (iE (i.add i_3)) n_1.toNat 0 [D.v (.int .i64 (IntKind.i64.wrap (n_2+n)))]∧I i'∧μ i'<μ i_3∧AObj.own 2 1 (iE (qC i_2))=AObj.own 2 1 (iE (qC i_2))∧AObj.fro 1 (iE (i.left i_1))=AObj.fro 1 (iE (i.left i_1))∧AObj.own 3 1 (iE (List.map (fun(n:Nat) ↦ (↑n:Int)) (i.idx i_1)))=AObj.own 3 1 (iE (List.map (fun(n:Nat) ↦ (↑n:Int)) (i.idx i_1)))) (∃(o:Unit),iE (uD i)=iE (i.add i_3)∧True))
theorem z3z (hG:GOk Tryz.prog ([(144,plainC)])) (h:∀(i:RsI),restC.cnd i→zTk i):restC.ok Tryz.prog 132:=okw mixed hG 0 (fun _=>[]) (fun i=>z9g i) [] Tryz.func132 h
def z2g (o:zH):Prop:=
 ∃(o_1:Unit),o.top=o.top∧True
theorem z6x (hG:GOk Tryz.prog ([])) (h:∀(o:zH),topFC.cnd o→z2g o):topFC.ok Tryz.prog 107:=okw mixed hG 0 (fun _=>[]) (fun _=>[]) [] Tryz.func107 h
def zCb (l:List zH):Prop:=
 ∃(i0:Nat),(↑i0:Int)=0∧∃(I:Nat→Prop),∃(μ:Nat→Nat),I i0∧∀(i:Nat),I i→cnd (decide ((↑i:Int)<(↑(List.map qP l).length:Int))) ((0≤(↑i:Int)∧(↑i:Int)<(↑(List.map qP l).length:Int))∧∃(n:Int),∃(n_1:Int),∃(n_2:Int),∃(n_3:Int),∃(b:Bool),zI (List.map qP l) (↑i:Int).toNat 0 5=some [D.v (.int .i64 n),D.v (.int .i64 n_1),D.v (.int .i64 n_2),D.v (.int .i64 n_3),D.v (.bool b)]∧∃(i_1:zH),i_1.id=n∧i_1.side=n_1∧i_1.price=n_2∧i_1.qty=n_3∧i_1.top=b∧True∧∀(o:Unit),True→cnd i_1.top (∃(o:Unit),topI l=(↑i:Int)∧True) (∃(i':Nat),(↑i':Int)=IntKind.i64.wrap ((↑i:Int)+1)∧I i'∧μ i'<μ i∧True)) (∃(o:Unit),topI l=(-1)∧True)
theorem zSa (hG:GOk Tryz.prog ([(107,topFC)])) (h:∀(l:List zH),idxOrdC.cnd l→zCb l):idxOrdC.ok Tryz.prog 106:=okw mixed hG 0 (fun _=>[]) (fun l=>z0d l) [] Tryz.func106 h
open Go Cv Go.Proofs
theorem zZl:topFC.ok Tryz.prog 107:=z6x gok0 fun o _=>by
 unfold z2g
 exact⟨(),rfl,trivial⟩
theorem zKf (i:PlI):(qC i).length=i.l.length∨qC i=[]:=by
 rw[qC]
 split
 ·left;rw[PlI.p1,bD,List.length_zip,zIe];simp
 ·exact .inr rfl
theorem z4w {l:List zH} {k:Nat} {o:zH} (h:l[k]? =some o):zI (l.map qP) k 0 5=some [D.v (.int .i64 o.id),.v (.int .i64 o.side),.v (.int .i64 o.price),.v (.int .i64 o.qty),.v (.bool o.top)]:=elA h (by simp[qP]) rfl
theorem zYx (l:List zH) (h:idxOrdC.cnd l):zCb l:=by
 have h:l.length≤1000000:=h
 unfold zCb
 simp only[List.length_map]
 refine⟨0,rfl,fun j=>j≤l.length∧∀k<j,∀x,l[k]? =some x→x.top=false,fun j=>l.length-j,⟨by omega,fun k hk=>by omega⟩,?_⟩
 rintro j ⟨h3,h4⟩
 refine zT (fun hj=> ?_) (fun hj=> ?_)
 ·obtain⟨s,hs⟩:=z8 (l:=l) (i:=j) (by omega)
  refine⟨⟨by omega,by omega⟩,s.id,s.side,s.price,s.qty,s.top,z4w hs,s,rfl,rfl,rfl,rfl,rfl,trivial,fun _ _=>Cv.cnd.mk (fun e=> ?_) (fun e=> ?_)⟩
  ·rw[topI,mS hs e h4];(repeat'(first|exact rfl|exact trivial|assumption|apply And.intro|refine fun(_:Unit) (_:True)=>?_|refine Exists.intro () ?_|omega|(dsimp only;omega)))
  ·refine⟨j+1,by rw[w64 (by omega)];rfl,⟨by omega,fun k hk x hx=> ?_⟩,by(first|omega|(dsimp only;omega)),by(repeat'(first|exact trivial|exact rfl|apply And.intro))⟩
   rcases Nat.lt_or_ge k j with hk'|hk'
   ·exact h4 k hk' x hx
   ·obtain rfl:k=j:=by omega
    rw[hs]at hx;cases hx;exact e
 ·rw[topI,mN fun k x hx=>h4 k (by have:=(List.getElem?_eq_some_iff.1 hx).1;omega) x hx];(repeat'(first|exact rfl|exact trivial|assumption|apply And.intro|refine fun(_:Unit) (_:True)=>?_|refine Exists.intro () ?_|omega|(dsimp only;omega)))
theorem zPl:idxOrdC.ok Tryz.prog 106:=zSa (gokc zZl gok0) zYx
theorem zUv (i:RsI) (j:Nat):i.idx (j+1)=i.idx j++if i.out.getD j 0<i.l.getD j 0 then[j]else[]:=by
 rw[RsI.idx,List.range_succ,List.filter_append]
 by_cases h:i.out.getD j 0<i.l.getD j 0
 ·rw[if_pos h,List.filter_cons_of_pos (by simpa using h)];rfl
 ·rw[if_neg h,List.filter_cons_of_neg (by simpa using h)];rfl
theorem z7s (i:RsI) {k n:Nat} (h:n∈i.idx k):n<k:=by
 have:=(List.mem_filter.1 h).1
 exact List.mem_range.1 this
theorem zMu (i:RsI) (k:Nat):(i.idx k).length≤k:=by
 have:=List.length_filter_le (fun n=>decide (i.out.getD n 0<i.l.getD n 0)) (List.range k)
 rw[List.length_range]at this
 exact this
theorem zHd:∀(z:List (Nat×Int)) (o:List Int),(z.foldl (fun o y=>o.set y.1 (IntKind.i64.wrap (o.getD y.1 0+y.2))) o).length=o.length
 |[],_=>rfl
 |y::z,o=>by rw[List.foldl_cons,zHd z,List.length_set]
theorem z8v (i:RsI) (h:restC.cnd i):zTk i:=by
 obtain⟨hl,ho,hq,hle,hb⟩:i.ok:=h
 unfold zTk
 simp only[yX,List.length_map]
 have hil:∀j,(i.left j).length=(i.idx j).length:=fun j=>List.length_map _
 refine⟨0,by(first|exact rfl|exact trivial),by(first|exact rfl|exact trivial),by(first|exact rfl|exact trivial),fun j=>j≤i.l.length,fun j=>i.l.length-j,Nat.zero_le _,fun j hj=>zT (fun c=> ?_) (fun c=> ?_)⟩
 ·have hj':j<i.l.length:=by omega
  obtain⟨n,hn⟩:=z8 (l:=i.l) (i:=j) hj'
  obtain⟨o,hoo⟩:=z8 (l:=i.out) (i:=j) (by omega)
  have bj:=hb j
  rw[zP hn,zP hoo]at bj
  have is:=zUv i j
  rw[zP hn,zP hoo]at is
  have il:=zMu i j
  refine⟨⟨by omega,by omega⟩,n,elI hn,⟨by omega,by omega⟩,o,elI hoo,zT (fun a=> ?_) (fun a=> ?_)⟩
  ·rw[if_pos (by omega)]at is
   refine⟨⟨by omega,by omega⟩,n,elI hn,⟨by omega,by omega⟩,o,elI hoo,by rw[hil];omega,by omega,j+1,wjn (by omega),?_,?_,hj',by dsimp only;omega,by(repeat'(first|exact trivial|exact rfl|apply And.intro))⟩
   ·rw[w64 (by omega),RsI.left,is,List.map_append]
    simp[iE,RsI.left,hn,hoo]
   ·rw[is];simp[iE]
  ·rw[if_neg (by omega),List.append_nil]at is
   exact⟨j+1,wjn (by omega),by rw[RsI.left,is];rfl,by rw[is],hj',by dsimp only;omega,by(repeat'(first|exact trivial|exact rfl|apply And.intro))⟩
 have hje:j=i.l.length:=by omega
 subst hje
 have il:=zMu i i.l.length
 refine⟨⟨i.left i.l.length,i.least,i.q⟩,rfl,rfl,rfl,⟨by dsimp only;rw[hil];omega,hq,hle⟩,fun _ _=> ?_⟩
 have epl:qC ⟨i.left i.l.length,i.least,i.q⟩=i.pl:=rfl
 rw[epl]
 have hpl:i.pl.length≤(i.idx i.l.length).length:=by
  rcases zKf ⟨i.left i.l.length,i.least,i.q⟩with e|e
  ·rw[epl]at e;rw[e];dsimp only;rw[hil];exact Nat.le_refl _
  ·rw[epl]at e;rw[e];exact Nat.zero_le _
 have hal:∀k,(i.add k).length=i.out.length:=fun k=>zHd _ _
 refine⟨0,by(first|exact rfl|exact trivial),by(first|exact rfl|exact trivial),fun k=>k≤i.pl.length,fun k=>i.pl.length-k,Nat.zero_le _,fun k hk=>zT (fun c=> ?_) (fun c=> ?_)⟩
 ·have hk':k<i.pl.length:=by omega
  obtain⟨x,hx⟩:=z8 (l:=i.pl) (i:=k) hk'
  obtain⟨n,hn⟩:=z8 (l:=i.idx i.l.length) (i:=k) (by omega)
  have hnl:=z7s i (List.mem_of_getElem? hn)
  obtain⟨y,hy⟩:=z8 (l:=i.add k) (i:=n) (by rw[hal];omega)
  have ea:i.add (k+1)=(i.add k).set n (IntKind.i64.wrap (y+x)):=by
   have hz:((i.idx i.l.length).zip i.pl)[k]? =some (n,x):=by rw[List.getElem?_zip_eq_some];exact⟨hn,hx⟩
   have ey:(i.add k).getD n 0=y:=zP hy
   rw[RsI.add,List.take_add_one,hz,List.foldl_append]
   show(i.add k).set n (IntKind.i64.wrap ((i.add k).getD n 0+x))=_
   rw[ey]
  have hnm:((i.idx i.l.length).map fun(n:Nat)=>(n:Int))[k]? =some (n:Int):=by rw[List.getElem?_map,hn];rfl
  rw[hal]
  refine⟨⟨by omega,by omega⟩,x,elI hx,⟨by omega,by omega⟩,n,elI hnm,⟨by omega,by omega⟩,y,elI hy,⟨by omega,by omega⟩,by omega,k+1,wjn (by omega),?_,hk',by dsimp only;omega,by(repeat'(first|exact trivial|exact rfl|apply And.intro))⟩
  rw[ea,Int.toNat_natCast,zBf hy]
 ·have hke:k=i.pl.length:=by omega
  subst hke
  exact⟨(),rfl,trivial⟩
theorem zMz:restC.ok Tryz.prog 132:=z3z (gokc zRy gok0) z8v
open Go Cv Go.Proofs
structure PsI where
 l:List Int
 top:Int
 most:Int
 least:Int
 q:Int
def PsI.first (i:PsI):Int:=min (min (i.l.getD i.top.toNat 0) i.most) i.q
def PsI.rs (i:PsI):RsI:=if 0≤i.top∧i.top<i.l.length then⟨i.l,(List.replicate i.l.length 0).set i.top.toNat i.first,i.least,i.q-i.first⟩else⟨i.l,List.replicate i.l.length 0,i.least,i.q⟩
def cX (i:PsI):List Int:=if yH i.l i.q=true∧1≤i.least∧0≤i.most then uD i.rs else[]
def proC:Con:=con1 PsI (fun i=>[iV i.l,zE i.top,zE i.most,zE i.least,zE i.q]) (fun _=>[]) (fun i=>i.l.length≤1000000∧yM i.q∧yM i.least∧yM i.most) (fun _=> .own 0) (fun i=>[.own 2 1 (iE (cX i))])
structure SpI where
 l:List Int
 part:Int
 least:Int
 q:Int
def SpI.rs (i:SpI):RsI:=⟨i.l,jS i.l (i.q*i.part / 100),i.least,i.q-i.q*i.part / 100⟩
def cZ (i:SpI):List Int:=if yH i.l i.q=true∧0≤i.part∧i.part≤100∧1≤i.least then uD i.rs else[]
def splC:Con:=con1 SpI (fun i=>[iV i.l,zE i.part,zE i.least,zE i.q]) (fun _=>[]) (fun i=>i.l.length≤1000000∧yM i.q∧yM i.least∧yM i.part) (fun _=> .own 0) (fun i=>[.own 2 1 (iE (cZ i))])
open Go Cv Go.Proofs
@[reducible] def zJl (i:PsI) (o:Unit):Prop:=∃(i_2:RsI),iE i_2.l=iE i.l∧i_2.least=i.least∧i_2.q=i.q∧iE i_2.out=List.replicate (↑(iE i.l).length:Int).toNat [D.v (.int .i64 0)]∧(i_2.l.length≤250∧i_2.out.length=i_2.l.length∧((-9223372036854775808)≤i_2.q∧i_2.q≤9223372036854775807)∧((-9223372036854775808)≤i_2.least∧i_2.least≤9223372036854775807)∧∀(n:Nat),0≤i_2.out.getD n 0∧i_2.out.getD n 0≤i_2.l.getD n 0∧i_2.l.getD n (0:Int)≤(1000000:Int))∧∀(o:Unit),True→∃(o:Unit),iE (cX i)=iE (uD i_2)∧True
def z6f (i:PsI):Prop:=
 ∃(i_1:LqI),iE i_1.l=iE i.l∧i_1.q=i.q∧(i_1.l.length≤(1000000:Nat)∧(-9223372036854775808:Int)≤i_1.q∧i_1.q≤9223372036854775807)∧∀(o:Unit),True→cnd (!yH i_1.l i_1.q) (∃(o:Unit),iE (cX i)=[]∧True) (cnd (decide (i.least<1)) (∃(o:Unit),iE (cX i)=[]∧True) (cnd (decide (i.most<0)) (∃(o:Unit),iE (cX i)=[]∧True) ((0≤(↑(iE i.l).length:Int)∧(↑(iE i.l).length:Int)≤(↑(iE i.l).length:Int)∧(↑(iE i.l).length:Int)≤9223372036854775807∧(↑(8:Nat):Int)*(↑(iE i.l).length:Int)≤2 ^ (48:Nat))∧cnd (decide (i.top≥0)) (cnd (decide (i.top<(↑(iE i.l).length:Int))) ((0≤i.top∧i.top<(↑(iE i.l).length:Int))∧∃(n:Int),zI (iE i.l) i.top.toNat 0 1=some [D.v (.int .i64 n)]∧(0≤i.top∧i.top<(↑(List.replicate (↑(iE i.l).length:Int).toNat [D.v (.int .i64 0)]).length:Int))∧i.top.toNat<(List.replicate (↑(iE i.l).length:Int).toNat [D.v (.int .i64 0)]).length∧(0≤i.top∧i.top<(↑(zK (List.replicate (↑(iE i.l).length:Int).toNat [D.v (.int .i64 0)]) i.top.toNat 0 [D.v (.int .i64 (min (min n i.most) i.q))]).length:Int))∧∃(n_1:Int),zI (zK (List.replicate (↑(iE i.l).length:Int).toNat [D.v (.int .i64 0)]) i.top.toNat 0 [D.v (.int .i64 (min (min n i.most) i.q))]) i.top.toNat 0 1=some [D.v (.int .i64 n_1)]∧∃(i_2:RsI),iE i_2.l=iE i.l∧i_2.least=i.least∧i_2.q=IntKind.i64.wrap (i.q-n_1)∧iE i_2.out=zK (List.replicate (↑(iE i.l).length:Int).toNat [D.v (.int .i64 0)]) i.top.toNat 0 [D.v (.int .i64 (min (min n i.most) i.q))]∧(i_2.l.length≤250∧i_2.out.length=i_2.l.length∧((-9223372036854775808)≤i_2.q∧i_2.q≤9223372036854775807)∧((-9223372036854775808)≤i_2.least∧i_2.least≤9223372036854775807)∧∀(n:Nat),0≤i_2.out.getD n 0∧i_2.out.getD n 0≤i_2.l.getD n 0∧i_2.l.getD n (0:Int)≤(1000000:Int))∧∀(o:Unit),True→∃(o:Unit),iE (cX i)=iE (uD i_2)∧True) (zJl i o)) (zJl i o))))
theorem z8l (hG:GOk Tryz.prog ([(131,rightC),(132,restC)])) (h:∀(i:PsI),proC.cnd i→z6f i):proC.ok Tryz.prog 108:=okw mixed hG 0 (fun _=>[]) (fun _=>[]) [] Tryz.func108 h
def z2w (i:SpI):Prop:=
 ∃(i_1:LqI),iE i_1.l=iE i.l∧i_1.q=i.q∧(i_1.l.length≤(1000000:Nat)∧(-9223372036854775808:Int)≤i_1.q∧i_1.q≤9223372036854775807)∧∀(o:Unit),True→cnd (!yH i_1.l i_1.q) (∃(o:Unit),iE (cZ i)=[]∧True) (cnd (decide (i.part<0)) (∃(o:Unit),iE (cZ i)=[]∧True) (cnd (decide (i.part>100)) (∃(o:Unit),iE (cZ i)=[]∧True) (cnd (decide (i.least<1)) (∃(o:Unit),iE (cZ i)=[]∧True) (∃(i_2:ShI),i_2.a=i.q∧i_2.b=i.part∧i_2.c=100∧(0≤i_2.a∧i_2.a≤(2000000000:Int)∧(0:Int)≤i_2.b∧i_2.b≤(2000000000:Int)∧(1:Int)≤i_2.c∧i_2.c≤2000000000)∧∀(o:Unit),True→∃(i_3:LqI),iE i_3.l=iE i.l∧i_3.q=i_2.a*i_2.b / i_2.c∧(i_3.l.length≤(1000000:Nat)∧(-9223372036854775808:Int)≤i_3.q∧i_3.q≤9223372036854775807)∧∀(o:Unit),True→∃(i_4:RsI),iE i_4.l=iE i.l∧i_4.least=i.least∧i_4.q=IntKind.i64.wrap (i.q-i_2.a*i_2.b / i_2.c)∧iE i_4.out=iE (jS i_3.l i_3.q)∧(i_4.l.length≤250∧i_4.out.length=i_4.l.length∧((-9223372036854775808)≤i_4.q∧i_4.q≤9223372036854775807)∧((-9223372036854775808)≤i_4.least∧i_4.least≤9223372036854775807)∧∀(n:Nat),0≤i_4.out.getD n 0∧i_4.out.getD n 0≤i_4.l.getD n 0∧i_4.l.getD n (0:Int)≤(1000000:Int))∧∀(o:Unit),True→∃(o:Unit),iE (cZ i)=iE (uD i_4)∧True))))
theorem z8b (hG:GOk Tryz.prog ([(131,rightC),(133,ishareC),(105,fifoC),(132,restC)])) (h:∀(i:SpI),splC.cnd i→z2w i):splC.ok Tryz.prog 109:=okw mixed hG 0 (fun _=>[]) (fun _=>[]) [] Tryz.func109 h
open Go Cv Go.Proofs
theorem zSk {l:List Int} {q r:Int} (h:yH l q=true) (h0:0≤r) (h1:r≤q):yH l r=true:=by
 obtain⟨a,b,c,d⟩:=qD h
 have e:(l.all fun n=>decide (1≤n) && decide (n≤1000000))=true:=by
  rw[List.all_eq_true];intro x hx;simpa using c x hx
 rw[yH,e,decide_eq_true a,decide_eq_true h0,decide_eq_true (show r≤l.sum by omega)];rfl
theorem getD_none {l:List Int} {n:Nat} (h:l[n]? =none):l.getD n 0=0:=by rw[List.getD_eq_getElem?_getD,h];rfl
theorem cT {l:List Int} {q:Int} (h:yH l q=true) (n:Nat):0≤l.getD n 0∧l.getD n 0≤1000000:=by
 cases hn:l[n]? with
 |none=>rw[getD_none hn];decide
 |some x=>rw[zP hn];have:=(qD h).2.2.1 x (List.mem_of_getElem? hn);omega
theorem zPe {l:List Int} {q:Int} (h:yH l q=true) (n:Nat):0≤(jS l q).getD n 0∧(jS l q).getD n 0≤l.getD n 0:=by
 rw[jS,if_pos h]
 obtain⟨a,b,c,d⟩:=qD h
 cases hn:l[n]? with
 |none=>
  have:(x0 l q)[n]? =none:=by rw[List.getElem?_eq_none_iff,f8];exact List.getElem?_eq_none_iff.1 hn
  rw[getD_none hn,getD_none this];decide
 |some x=>
  rw[zP hn,zP (sX l q n x hn)]
  have:=mH l q n b (fun y hy=>by have:=c y hy;omega)
  have:=c x (List.mem_of_getElem? hn)
  omega
theorem yAr (i:SpI) (h:splC.cnd i):z2w i:=by
 obtain⟨hl,hq,hle,hpa⟩:i.l.length≤1000000∧yM i.q∧yM i.least∧yM i.part:=h
 unfold z2w
 have no (e:¬(yH i.l i.q=true∧0≤i.part∧i.part≤100∧1≤i.least)):cZ i=[]:=by rw[cZ,if_neg e]
 refine⟨⟨i.l,i.q⟩,rfl,rfl,⟨hl,hq⟩,fun _ _=>Cv.cnd.mk (fun c=> ?_) (fun c=>zT (fun d=> ?_) (fun d=>zT (fun e=> ?_) (fun e=>zT (fun f=> ?_) (fun f=> ?_))))⟩
 ·have c:yH i.l i.q=false:=by simpa using c
  exact⟨(),by rw[no (by rw[c];simp)];rfl,trivial⟩
 ·exact⟨(),by rw[no (by omega)];rfl,trivial⟩
 ·exact⟨(),by rw[no (by omega)];rfl,trivial⟩
 ·exact⟨(),by rw[no (by omega)];rfl,trivial⟩
 have c:yH i.l i.q=true:=by simpa using c
 obtain⟨h1,h2,h3,h4⟩:=qD c
 have hq2:=pN c
 have m0:0≤i.q*i.part:=Int.mul_nonneg h2 (by omega)
 have m1:i.q*i.part≤i.q*100:=Int.mul_le_mul_of_nonneg_left (by omega) h2
 have hr:=zSk (r:=i.q*i.part / 100) c (by omega) (by omega)
 have es:cZ i=uD i.rs:=by rw[cZ,if_pos ⟨c,by omega,by omega,by omega⟩]
 refine⟨⟨i.q,i.part,100⟩,rfl,rfl,rfl,⟨by dsimp only;omega,by dsimp only;omega,by dsimp only;omega,by dsimp only;omega,by dsimp only;omega,by dsimp only;omega⟩,fun _ _=>⟨⟨i.l,i.q*i.part / 100⟩,rfl,rfl,⟨hl,by dsimp only;omega,by dsimp only;omega⟩,fun _ _=>⟨i.rs,rfl,rfl,?_,rfl,⟨h1,?_,?_,hle,?_⟩,fun _ _=>⟨(),by rw[es],trivial⟩⟩⟩⟩
 ·rw[w64 (by dsimp only;omega)];rfl
 ·show(jS i.l (i.q*i.part / 100)).length=i.l.length
  rw[jS,if_pos hr,f8]
 ·show yM (i.q-i.q*i.part / 100)
  exact⟨by omega,by omega⟩
 ·intro n
  have a:=zPe hr n
  have b:=cT c n
  exact⟨a.1,a.2,b.2⟩
theorem z6i:splC.ok Tryz.prog 109:=z8b (gokc bL (gokc zAm (gokc zNc (gokc zMz gok0)))) yAr
theorem z7c (n:Nat):List.replicate n [D.v (.int .i64 0)]=iE (List.replicate n 0):=by simp[iE]
theorem zEm (n k:Nat):(List.replicate n (0:Int)).getD k 0=0:=by
 rw[List.getD_eq_getElem?_getD,List.getElem?_replicate];split<;>rfl
theorem zWt (n t k:Nat) (x:Int):((List.replicate n (0:Int)).set t x).getD k 0=x∧k=t∨((List.replicate n (0:Int)).set t x).getD k 0=0:=by
 rw[List.getD_eq_getElem?_getD,List.getElem?_set]
 split
 ·rename_i e
  split
  ·exact .inl ⟨rfl,e.symm⟩
  ·exact .inr rfl
 ·right;rw[← List.getD_eq_getElem?_getD];exact zEm n k
theorem yAi (i:PsI) (h:proC.cnd i):z6f i:=by
 obtain⟨hl,hq,hle,hmo⟩:i.l.length≤1000000∧yM i.q∧yM i.least∧yM i.most:=h
 unfold z6f zJl
 have no (e:¬(yH i.l i.q=true∧1≤i.least∧0≤i.most)):cX i=[]:=by rw[cX,if_neg e]
 refine⟨⟨i.l,i.q⟩,rfl,rfl,⟨hl,hq⟩,fun _ _=>Cv.cnd.mk (fun c=> ?_) (fun c=>zT (fun d=> ?_) (fun d=>zT (fun e=> ?_) (fun e=> ?_)))⟩
 ·have c:yH i.l i.q=false:=by simpa using c
  exact⟨(),by rw[no (by rw[c];simp)];rfl,trivial⟩
 ·exact⟨(),by rw[no (by omega)];rfl,trivial⟩
 ·exact⟨(),by rw[no (by omega)];rfl,trivial⟩
 have c:yH i.l i.q=true:=by simpa using c
 obtain⟨h1,h2,h3,h4⟩:=qD c
 have hq2:=pN c
 have es:cX i=uD i.rs:=by rw[cX,if_pos ⟨c,by omega,by omega⟩]
 simp only[yX,Int.toNat_natCast,z7c]
 have out (hn:¬(0≤i.top∧i.top<(i.l.length:Int))):i.rs=⟨i.l,List.replicate i.l.length 0,i.least,i.q⟩:=by rw[PsI.rs,if_neg hn]
 have ok0:RsI.ok ⟨i.l,List.replicate i.l.length 0,i.least,i.q⟩:=⟨h1,by simp,hq,hle,fun n=>by
  have:=cT c n
  dsimp only
  rw[zEm];omega⟩
 refine⟨⟨by omega,by omega,by omega,by omega⟩,zT (fun a=>zT (fun b=> ?_) (fun b=> ?_)) (fun a=> ?_)⟩
 ·obtain⟨n,hn⟩:=z8 (l:=i.l) (i:=i.top.toNat) (by omega)
  have hf:i.first=min (min n i.most) i.q:=by rw[PsI.first,zP hn]
  have bn:=h3 n (List.mem_of_getElem? hn)
  have hr0:(List.replicate i.l.length (0:Int))[i.top.toNat]? =some 0:=by rw[List.getElem?_replicate,if_pos (by omega)]
  have ers:i.rs=⟨i.l,(List.replicate i.l.length 0).set i.top.toNat i.first,i.least,i.q-i.first⟩:=by rw[PsI.rs,if_pos ⟨by omega,by omega⟩]
  refine⟨⟨by omega,by omega⟩,n,elI hn,?_⟩
  rw[zBf hr0,← hf]
  simp only[yX,List.length_set,List.length_replicate]
  refine⟨⟨by omega,by omega⟩,by omega,⟨by omega,by omega⟩,i.first,elI (k9 hr0),?_⟩
  rw[w64 (x:=i.q-i.first) (by omega)]
  refine⟨⟨i.l,(List.replicate i.l.length 0).set i.top.toNat i.first,i.least,i.q-i.first⟩,rfl,rfl,rfl,rfl,⟨h1,by simp,⟨by dsimp only;omega,by dsimp only;omega⟩,hle,fun k=> ?_⟩,fun _ _=>⟨(),by rw[es,ers],trivial⟩⟩
  have bk:=cT c k
  dsimp only
  rcases zWt i.l.length i.top.toNat k i.first with⟨g,gk⟩|g
  ·rw[g,gk,zP hn];omega
  ·rw[g];omega
 ·refine⟨⟨i.l,List.replicate i.l.length 0,i.least,i.q⟩,rfl,rfl,rfl,rfl,ok0,fun _ _=>⟨(),by rw[es,out (by omega)],trivial⟩⟩
 ·refine⟨⟨i.l,List.replicate i.l.length 0,i.least,i.q⟩,rfl,rfl,rfl,rfl,ok0,fun _ _=>⟨(),by rw[es,out (by omega)],trivial⟩⟩
theorem z7h:proC.ok Tryz.prog 108:=z8l (gokc bL (gokc zMz gok0)) yAi
open Go Cv Go.Proofs
structure AlI where
 p:Prd
 l:List zH
 q:Int
def AlI.qs (i:AlI):List Int:=i.l.map (·.qty)
def xD (i:AlI):List Int:=if i.p.rule=1 then jS i.qs i.q else if i.p.rule=2 then cX ⟨i.qs,topI i.l,i.p.top,i.p.least,i.q⟩else if i.p.rule=3 then cZ ⟨i.qs,i.p.part,i.p.least,i.q⟩else[]
def allocC:Con:=con1 AlI (fun i=>[prdV i.p,roV 5 (i.l.map qP),zE i.q]) (fun _=>[]) (fun i=>i.l.length≤1000∧yM i.q∧yM i.p.least∧yM i.p.top∧yM i.p.part) (fun _=> .own 0) (fun i=>[.own 2 1 (iE (xD i))])
def z3g (i:AlI):List SAnn:=[{ι:=Nat,slots:=fun j=>[(7,.own 0),(13,zE j)],rows:=fun j=>[.own 2 1 (iE (i.qs.take j))]}]
open Go Cv Go.Proofs
@[reducible] def zEd (i:AlI):AObj:=Sx.AObj.cells [V.d (D.v (Value.string (sb i.p.code))),V.own (0:Nat),V.d (D.v (.int .i64 i.p.tick)),V.d (D.v (.int .i64 i.p.low)),V.d (D.v (.int .i64 i.p.high)),V.d (D.v (.int .i64 i.p.wide)),V.d (D.v (.int .i64 i.p.rule)),V.d (D.v (.int .i64 i.p.top)),V.d (D.v (.int .i64 i.p.least)),V.d (D.v (.int .i64 i.p.part)),V.own ((0:Nat)+(1:Nat))] (25:Nat)
def zKo (i:AlI):Prop:=
 ∃(i0:Nat),(↑i0:Int)=0∧iE (List.take i0 i.qs)=[]∧∃(I:Nat→Prop),∃(μ:Nat→Nat),I i0∧∀(i_1:Nat),I i_1→cnd (decide ((↑i_1:Int)<(↑(List.map qP i.l).length:Int))) ((0≤(↑i_1:Int)∧(↑i_1:Int)<(↑(List.map qP i.l).length:Int))∧∃(n:Int),∃(n_1:Int),∃(n_2:Int),∃(n_3:Int),∃(b:Bool),zI (List.map qP i.l) (↑i_1:Int).toNat 0 5=some [D.v (.int .i64 n),D.v (.int .i64 n_1),D.v (.int .i64 n_2),D.v (.int .i64 n_3),D.v (.bool b)]∧((iE (List.take i_1 i.qs)).length+1)*(8:Nat)≤(70368744177664:Nat)∧∃(i':Nat),(↑i':Int)=IntKind.i64.wrap ((↑i_1:Int)+1)∧iE (List.take i' i.qs)=iE (List.take i_1 i.qs)++[[D.v (.int .i64 n_3)]]∧I i'∧μ i'<μ i_1∧zEd i=zEd i∧AObj.fro 1 (iE i.p.settle)=AObj.fro 1 (iE i.p.settle)∧AObj.fro 1 (iE i.p.months)=AObj.fro 1 (iE i.p.months)) (cnd (i.p.rule==1) (∃(i_2:LqI),iE i_2.l=iE (List.take i_1 i.qs)∧i_2.q=i.q∧(i_2.l.length≤(1000000:Nat)∧(-9223372036854775808:Int)≤i_2.q∧i_2.q≤9223372036854775807)∧∀(o:Unit),True→∃(o:Unit),iE (xD i)=iE (jS i_2.l i_2.q)∧True) (cnd (i.p.rule==2) (∃(i_2:List zH),List.map qP i_2=List.map qP i.l∧i_2.length≤1000000∧∀(o:Unit),True→∃(i_3:PsI),iE i_3.l=iE (List.take i_1 i.qs)∧i_3.top=topI i_2∧i_3.most=i.p.top∧i_3.least=i.p.least∧i_3.q=i.q∧(i_3.l.length≤1000000∧((-9223372036854775808)≤i_3.q∧i_3.q≤9223372036854775807)∧((-9223372036854775808)≤i_3.least∧i_3.least≤9223372036854775807)∧(-9223372036854775808)≤i_3.most∧i_3.most≤9223372036854775807)∧∀(o:Unit),True→∃(o:Unit),iE (xD i)=iE (cX i_3)∧True) (cnd (i.p.rule==3) (∃(i_2:SpI),iE i_2.l=iE (List.take i_1 i.qs)∧i_2.part=i.p.part∧i_2.least=i.p.least∧i_2.q=i.q∧(i_2.l.length≤1000000∧((-9223372036854775808)≤i_2.q∧i_2.q≤9223372036854775807)∧((-9223372036854775808)≤i_2.least∧i_2.least≤9223372036854775807)∧(-9223372036854775808)≤i_2.part∧i_2.part≤9223372036854775807)∧∀(o:Unit),True→∃(o:Unit),iE (xD i)=iE (cZ i_2)∧True) (∃(o:Unit),iE (xD i)=[]∧True))))
theorem zYk (hG:GOk Tryz.prog ([(105,fifoC),(106,idxOrdC),(108,proC),(109,splC)])) (h:∀(i:AlI),allocC.cnd i→zKo i):allocC.ok Tryz.prog 68:=okw mixed hG 0 (fun _=>[]) (fun i=>z3g i) [] Tryz.func68 h
open Go Cv Go.Proofs
theorem z7q (i:AlI) (h:allocC.cnd i):zKo i:=by
 obtain⟨hl,hq,hle,hto,hpa⟩:i.l.length≤1000∧yM i.q∧yM i.p.least∧yM i.p.top∧yM i.p.part:=h
 have hql:i.qs.length=i.l.length:=by simp[AlI.qs]
 unfold zKo
 simp only[yX,List.length_map]
 refine⟨0,by(first|exact rfl|exact trivial),by(first|exact rfl|exact trivial),fun j=>j≤i.l.length,fun j=>i.l.length-j,Nat.zero_le _,fun j hj=>zT (fun c=> ?_) (fun c=> ?_)⟩
 ·have hj':j<i.l.length:=by omega
  obtain⟨o,ho⟩:=z8 (l:=i.l) (i:=j) hj'
  have hqo:i.qs[j]? =some o.qty:=by rw[AlI.qs,List.getElem?_map,ho];rfl
  refine⟨⟨by omega,by omega⟩,o.id,o.side,o.price,o.qty,o.top,z4w ho,by rw[List.length_take];omega,j+1,wjn (by omega),?_,hj',by dsimp only;omega,by(repeat'(first|exact trivial|exact rfl|apply And.intro))⟩
  rw[List.take_add_one,hqo];simp[iE]
 have hje:j=i.l.length:=by omega
 subst hje
 rw[List.take_of_length_le (l:=i.qs) (by omega)]
 refine Cv.cnd.mk (fun a=> ?_) (fun a=>Cv.cnd.mk (fun b=> ?_) (fun b=>Cv.cnd.mk (fun d=> ?_) (fun d=> ?_)))
 ·have a:i.p.rule=1:=by simpa using a
  exact⟨⟨i.qs,i.q⟩,rfl,rfl,⟨by dsimp only;omega,hq⟩,fun _ _=>⟨(),by rw[xD,if_pos a],trivial⟩⟩
 ·have a:¬i.p.rule=1:=by simpa using a
  have b:i.p.rule=2:=by simpa using b
  exact⟨i.l,rfl,by omega,fun _ _=>⟨⟨i.qs,topI i.l,i.p.top,i.p.least,i.q⟩,rfl,rfl,rfl,rfl,rfl,⟨by dsimp only;omega,hq,hle,hto⟩,fun _ _=>⟨(),by rw[xD,if_neg a,if_pos b],trivial⟩⟩⟩
 ·have a:¬i.p.rule=1:=by simpa using a
  have b:¬i.p.rule=2:=by simpa using b
  have d:i.p.rule=3:=by simpa using d
  exact⟨⟨i.qs,i.p.part,i.p.least,i.q⟩,rfl,rfl,rfl,rfl,⟨by dsimp only;omega,hq,hle,hpa⟩,fun _ _=>⟨(),by rw[xD,if_neg a,if_neg b,if_pos d],trivial⟩⟩
 ·have a:¬i.p.rule=1:=by simpa using a
  have b:¬i.p.rule=2:=by simpa using b
  have d:¬i.p.rule=3:=by simpa using d
  exact⟨(),by rw[xD,if_neg a,if_neg b,if_neg d];rfl,trivial⟩
theorem zRj:allocC.ok Tryz.prog 68:=zYk (gokc zNc (gokc zPl (gokc z7h (gokc z6i gok0)))) z7q
end Sx
